/- Ground of laws of thronglaw25: contracts and plain lemmas; no condition beyond the row's own. -/
import Derived.Test.YtdfpifbbcigelaaGreatKD
set_option linter.unusedSimpArgs false
set_option linter.unusedVariables false
namespace Go.V
theorem ygn{P:Program}{c:Cfg}{e:TypeId}{ie:TI}(hie:c.I e=some ie)(hsz:ie.size=1)(hby:ie.bytes=8){st:Store}{v:AV}{ns:List Int}(hv:Ints st v ns)(x:Int)(hlen:ns.length<=1000000000000){K:Ja}
  (h:∀b cap L,(Fresh st b\/∃c0,v=.s (.slice (some ⟨b,0,none⟩) ns.length c0))->(ns++[x]).length<=cap->cap<=(ns++[x]).length+L.length->cap<=9223372036854775807->
   K (.s (.slice (some ⟨b,0,none⟩) (ns++[x]).length cap)) (st.sO b (.cells ((ns++[x]).map aI++L)))):appendK P c st e (.av v) (.av (.lst 1 [[aI x]] none)) K:=by
 have hrows:vi ie.size (.av (.lst 1 [[aI x]] none))=some [[aI x]]:=by simp[vi,hsz]
 refine⟨.inr ⟨v,_,rfl,rfl,?_⟩⟩
 have hl:(ns++[x]).length=ns.length+1:=by simp
 rcases hv with⟨rfl,rfl⟩|⟨b,cap,L,rfl,ho,h1,h2,h3⟩
 ·refine uw hie hrows ⟨by rw[hby];simp,by simp⟩ (by simp) (λb' cap' hb hc hc2=>?_)
  exact h b' cap' _ (.inl hb) (by simpa using hc) (by simp[hsz];omega) hc2
 ·refine b7 hie (cap:=cap) ho (by rw[hsz];simp;omega) h1 hrows ⟨by rw[hby];simp;omega,by simp;omega⟩ (λhc=>?_) (λhc b' cap' hb hc1 hc2=>?_)
  ·have hc:ns.length+1<=cap:=hc
   have e1:zu (ns.map aI++L) (ns.length*ie.size) ([[aI x]]:List (List AV)).flatten=(ns++[x]).map aI++L.drop 1:=by
    rw[hsz,Fes,Cn (by simp)]
    simp
   have e0:ns.map (λn=>AV.s (.int .i64 n))++L=ns.map aI++L:=rfl
   have:=h b cap (L.drop 1) (.inr ⟨cap,rfl⟩) (by omega) (by simp;omega) h3
   rw[hl]at this
   rw[<-e1]at this
   exact this
  ·have hc1:ns.length+1<=cap':=hc1
   have e1:(ns.map aI++L).take (ns.length*ie.size)++([[aI x]]:List (List AV)).flatten++List.replicate ((cap'-(ns.length+1))*ie.size) .any=(ns++[x]).map aI++List.replicate (cap'-(ns.length+1)) .any:=by
    rw[hsz,Fes,Fes,Fbv (by simp),Fcd (by simp)]
    simp
   have:=h b' cap' (List.replicate (cap'-(ns.length+1)) .any) (.inl hb) (by omega) (by simp;omega) hc2
   rw[hl,<-e1]at this
   exact this
structure NearAt(N:Store)(b3 b4 b5 b6 p:Nat)(q:Vc)(r:Int)(v:AV)(acc:List Int):Prop where
 h3:N.obj b3=some (.cells [.s (.pointer (some ⟨p,0,none⟩))])
 h4:N.obj b4=some (.cells (zy q))
 h5:N.obj b5=some (.cells [int r])
 h6:N.obj b6=some (.cells [v])
 hv:Ints N v acc
 n36:b3≠b6
 n46:b4≠b6
 n56:b5≠b6
 nv:∀b n cap,v=.s (.slice (some ⟨b,0,none⟩) n cap)->b≠b3/\b≠b4/\b≠b5/\b≠b6
theorem NearAt.app{N:Store}{b3 b4 b5 b6 p:Nat}{q:Vc}{r:Int}{v:AV}{acc:List Int}(h:NearAt N b3 b4 b5 b6 p q r v acc){b cap:Nat}{L:List AV}{x:Int}
  (hb:Fresh N b\/∃c0,v=.s (.slice (some ⟨b,0,none⟩) acc.length c0)) (h1:(acc++[x]).length<=cap) (h2:cap<=(acc++[x]).length+L.length) (h3:cap<=9223372036854775807):
  NearAt ((N.sO b (.cells ((acc++[x]).map aI++L))).sO b6 (.cells [.s (.slice (some ⟨b,0,none⟩) (acc++[x]).length cap)])) b3 b4 b5 b6 p q r (.s (.slice (some ⟨b,0,none⟩) (acc++[x]).length cap)) (acc++[x]):=by
 have hne:b≠b3/\b≠b4/\b≠b5/\b≠b6:=by
  rcases hb with hb|⟨c0,hb⟩
  ·exact⟨hb.ne_obj h.h3,hb.ne_obj h.h4,hb.ne_obj h.h5,hb.ne_obj h.h6⟩
  ·exact h.nv b _ _ hb
 obtain⟨n3,n4,n5,n6⟩:=hne
 refine⟨?_,?_,?_,zd _ _ _,.inr ⟨b,cap,L,rfl,?_,h1,h2,h3⟩,h.n36,h.n46,h.n56,λb' n c e=>?_⟩
 ·rw[zg h.n36,zg (Ne.symm n3)];exact h.h3
 ·rw[zg h.n46,zg (Ne.symm n4)];exact h.h4
 ·rw[zg h.n56,zg (Ne.symm n5)];exact h.h5
 ·rw[zg n6,zd];rfl
 ·simp at e
  obtain⟨rfl,_⟩:=e
  exact⟨n3,n4,n5,n6⟩
theorem Ints.un{a g:Store}{v:AV}{ns:List Int}(h:Ints g v ns):Ints (a.un g) v ns:=by
 rcases h with h|⟨b1,cap,L,h1,h2,h3⟩
 ·exact .inl h
 ·exact .inr ⟨b1,cap,L,h1,zf h2,h3⟩
section
variable {P:Program} {c:Cfg} {w:World} {st:Store} {Oth M:Nat->Nat->Prop}
structure Stamps(es:List (AV×AV))(bs:List Nat)(clk:Nat):Prop where
  len:es.length=bs.length
  lt:∀t∈bs,t<clk
  inc:bs.Pairwise (·<·)
theorem yg4{o:Oper}{args:List AV}{m clk:Nat}{es:List (AV×AV)}{bs:List Nat}(hm:st.obj m=some (.map es bs clk)){R:Ja}(h:Stamps es bs clk->AEff P c o args st R):AEff P c o args st R:=by
  refine⟨λOth M w ρ hI sto hr=>?_⟩
  obtain⟨⟨ms,g1,g2,g3,g4,g5,g6⟩,hM⟩:=sto.obj m _ hm
  exact(h ⟨by rw[g4];simpa using g2,g5,g6⟩).out Oth M w ρ hI sto hr
theorem yc6{t:Nat}{me:MapEntry}:∀{L:List MapEntry} {i:Nat},(L.map (·.born)).Pairwise (·<·)->L[i]?=some me->me.born=t->L.find? (λe=>e.born==t)=some me:=by
  intro L
  induction L with
  |nil=>intro i _ h;simp at h
  | cons a L ih=>
    intro i hinc hti hbt
    rw[Fb6,Fc4]at hinc
    cases i with
    | zero=>
      simp at hti
      subst hti
      rw[List.find?_cons_of_pos (by simp[hbt])]
    | succ i=>
      have hti:L[i]?=some me:=by simpa using hti
      have h1:=hinc.1 me.born (List.mem_map_of_mem (Fau hti))
      rw[List.find?_cons_of_neg (by simp;omega)]
      exact ih hinc.2 hti hbt
theorem yha{o:Oper}{x:Operand}(ho:o.op=.entry x){b m clk since:Nat}{es:List (AV×AV)}{bs seen:List Nat}{i t:Nat}{e:AV×AV}(hb:st.obj b=some (.iter m since (seen++[t]) clk))(hm:st.obj m=some (.map es bs clk))
    (he:es[i]?=some e) (hbi:bs[i]?=some t) {R:Ja} (h:R (.tup [e.1,e.2]) st):AEff P c o [.s (.pointer (some ⟨b,0,none⟩))] st R:=by
  refine⟨λOth M w ρ hI sto hr=>?_⟩
  rw[ho]at hr
  have hr:Reads w (λb o=>M b o\/Oth b o) [.s (.pointer (some ⟨b,0,none⟩))] [ρ x]:=by simpa [Op.operands]using hr
  obtain⟨u,hx0,hx⟩:=Iz hr
  simp only[Fcr,and_true]at hx0
  rw[<-hx0]at hx
  have hx:=VRel.eq_s hx
  obtain⟨⟨ms,g1,g2,g3,g4,g5,g6⟩,hM⟩:=sto.obj m _ hm
  obtain⟨hit,hMb⟩:=sto.obj b _ hb
  have hit:w.heap[b]?=some (.mapIter (some m) since (seen++[t]).toArray clk):=hit
  have hgo:(getObj b).run P w=.ok (.mapIter (some m) since (seen++[t]).toArray clk) w:=by simp[getObj,Sem.run,hit]
  have hlt:i<ms.size:=by rw[<-g2];exact(Faf.1 he).1
  have hmi:ms[i]?=some ms[i]:=Fa5 hlt
  have hbt:ms[i].born=t:=by
    rw[g4,Fap,Fb1,hmi]at hbi
    simpa using hbi
  have hfind:ms.find? (λe=>e.born==t)=some ms[i]:=by
    rw[<-Array.find?_toList]
    exact yc6 (by rw[<-g4];exact g6) (by rw[Fb1];exact hmi) hbt
  have hback:(seen++[t]).toArray.back?=some t:=by simp
  have hrun:(execOp ρ o).run P w=.ok (.value (.tuple #[ms[i].key,ms[i].val])) w:=by
    simp only[execOp,ho,Instr.entry,hx,Sem.run_bind,hgo,Result.andThen_ok,hback,Bf g1,bne_self_eq_false,Fad,if_false,hfind,Sem.run_pure]
  rw[hrun]
  have hrel:=g3 i e ms[i] he hmi
  exact⟨_,st,M,h,j8 (Reads.cons hrel.1 (Reads.cons hrel.2 Reads.nil)),sto,Chg.refl _ _⟩
end
section
variable {r:Int} {g:Store}
theorem nj{x:Int}(hx:0<=x)(hr:0<r)(h:x*x<r*r):x<r:=by
 by_cases h1:x<r
 ·exact h1
 ·have h2:r<=x:=by omega
  have h3:r*r<=x*x:=Fbk h2 h2 (by omega) hx
  omega
theorem rz{a b:Int}(ha:ya a)(hb:ya b)(hr:0<r)(hr2:r<=9223372036854775807)(h:asz (yn a b)<r):yn a r<=nrm b/\nrm b<=yy a r:=by
 have h1:=j2 ha
 have h2:=j2 hb
 have h3:=ji (n:=-nrm b) (by omega)
 have h4:=ji (n:=r) (by omega)
 have h5:=ji (n:=-r) (by omega)
 have h6:=Kf a b
 have h7:=ji (n:=yn a b) (by omega)
 unfold asz at h
 rw[h7]at h
 unfold yn yy at*
 rw[h3]at h
 rw[h4,h5]
 unfold xo at*
 generalize nrm a=x at*
 generalize nrm b=y at*
 refine⟨?_,?_⟩<;>(repeat' split)<;>(repeat' split at h)<;>omega
theorem zys{q p:Vc}(hq:q.ok)(hp:p.ok)(hr:0<r)(hr2:r<=9223372036854775807)(h:near q p r=true):
  ((zq (yn q.1 r,yn q.2 r)).1<=(zq p).1/\(zq p).1<=(zq (yy q.1 r,yy q.2 r)).1)/\((zq (yn q.1 r,yn q.2 r)).2<=(zq p).2/\(zq p).2<=(zq (yy q.1 r,yy q.2 r)).2):=by
 unfold near at h
 have h:=(of_decide_eq_true h).2
 have e1:=Gr (Gl q.1 p.1)
 have e2:=Gr (Gl q.2 p.2)
 have m1:0<=asz (yn q.1 p.1)*asz (yn q.1 p.1):=Fay e1.1 e1.1
 have m2:0<=asz (yn q.2 p.2)*asz (yn q.2 p.2):=Fay e2.1 e2.1
 have h':asz (yn q.1 p.1)*asz (yn q.1 p.1)+asz (yn q.2 p.2)*asz (yn q.2 p.2)<r*r:=h
 have d1:=rz hq.1 hp.1 hr hr2 (nj e1.1 hr (by omega))
 have d2:=rz hq.2 hp.2 hr hr2 (nj e2.1 hr (by omega))
 have n1:=ji (Kf q.1 r).1
 have n2:=ji (Kf q.2 r).1
 have n3:=ji (Hx q.1 r).1
 have n4:=ji (Hx q.2 r).1
 unfold zq
 simp only[n1,n2,n3,n4]
 omega
theorem zwy{q:Vc}(hq:q.ok)(hr:0<r)(hr2:r<=9223372036854775807):
  (zq (yn q.1 r,yn q.2 r)).1<=(zq (yy q.1 r,yy q.2 r)).1/\(zq (yn q.1 r,yn q.2 r)).2<=(zq (yy q.1 r,yy q.2 r)).2:=by
 have key:∀a:Int,ya a->yn a r<=yy a r:=by
  intro a ha
  have h1:=j2 ha
  have h4:=ji (n:=r) (by omega)
  have h5:=ji (n:=-r) (by omega)
  unfold yn yy
  rw[h4,h5]
  unfold xo
  generalize nrm a=x at*
  (repeat' split)<;>omega
 have k1:=key q.1 hq.1
 have k2:=key q.2 hq.2
 have n1:=ji (Kf q.1 r).1
 have n2:=ji (Kf q.2 r).1
 have n3:=ji (Hx q.1 r).1
 have n4:=ji (Hx q.2 r).1
 unfold zq
 simp only[n1,n2,n3,n4]
 omega
theorem tg{p:Vc}(h:p.ok):(-70368744177664<=(zq p).1/\(zq p).1<=70368744177664)/\(-70368744177664<=(zq p).2/\(zq p).2<=70368744177664):=by
 have h1:=j2 h.1
 have h2:=j2 h.2
 unfold zq
 simp only
 omega
def NearIn(l:List Ent)(q:Vc)(r:Int)(D:Ent->Prop)(acc:List Int):Prop:=acc.Nodup/\∀id,id∈acc↔∃e∈l,e.1=id/\near q e.2 r=true/\D e
theorem NearIn.congr{l:List Ent}{q:Vc}{D D':Ent->Prop}{acc:List Int}(h:NearIn l q r D acc)(hD:∀e∈l,near q e.2 r=true->(D e↔D' e)):NearIn l q r D' acc:=by
 refine⟨h.1,λid=>?_⟩
 rw[h.2 id]
 constructor
 ·rintro⟨e,h1,h2,h3,h4⟩;exact⟨e,h1,h2,h3,(hD e h1 h3).1 h4⟩
 ·rintro⟨e,h1,h2,h3,h4⟩;exact⟨e,h1,h2,h3,(hD e h1 h3).2 h4⟩
theorem NearIn.len{l:List Ent}{q:Vc}{D:Ent->Prop}{acc:List Int}(h:NearIn l q r D acc):acc.length<=l.length:=by
 have:=Fbu (l₂:=l.map (·.1)) h.1 (λid hid=>by
  obtain⟨e,h1,h2,_⟩:=(h.2 id).1 hid
  exact Fac.2 ⟨e,h1,h2⟩)
 simpa using this
theorem NearIn.step{l:List Ent}(hn:(l.map (·.1)).Nodup){q:Vc}{D:Ent->Prop}{acc:List Int}(h:NearIn l q r D acc){e:Ent}(he:e∈l)(hD:¬D e):NearIn l q r (λe'=>D e'\/e'=e) (if near q e.2 r then acc++[e.1]else acc):=by
 cases hnr:near q e.2 r with
 |false=>
  refine h.congr λe' he' hn'=>⟨.inl,λhh=>hh.elim id λhh=>?_⟩
  rw[hh,hnr]at hn';cases hn'
 |true=>
  refine⟨?_,λid=>?_⟩
  ·rw[if_pos rfl,Fc8]
   refine⟨h.1,by simp,λa ha b hb=>?_⟩
   simp at hb
   subst hb
   intro hab
   subst hab
   obtain⟨e',h1,h2,_,h4⟩:=(h.2 _).1 ha
   rw[Lw hn he h1 h2]at h4
   exact hD h4
  ·rw[if_pos rfl,Fal,h.2 id]
   constructor
   ·rintro(⟨e',h1,h2,h3,h4⟩|h1)
    ·exact⟨e',h1,h2,h3,.inl h4⟩
    ·simp at h1;exact⟨e,he,h1.symm,hnr,.inr rfl⟩
   ·rintro⟨e',h1,h2,h3,h4|h4⟩
    ·exact .inl ⟨e',h1,h2,h3,h4⟩
    ·subst h4;exact .inr (by simp[h2])
theorem ybh{l:List Ent}{G:List Grp}(h:Inv l G):G.length<=l.length:=by
 have h1:(G.map λg=>g.ns.headD 0).Nodup:=by
  unfold List.Nodup
  rw[List.pairwise_map]
  have n2:=h.n2
  unfold List.Nodup at n2
  rw[List.pairwise_map]at n2
  have key:∀g∈G,g.ns.headD 0∈g.ns:=λg hg=>by
   have:=(h.s g hg).2
   cases hns:g.ns with
   |nil=>exact absurd hns this
   |cons a t=>simp
  rw[Fcp]at n2⊢
  intro i j hi hj hij he
  obtain⟨e1,q1,q2,q3⟩:=(h.m1 G[i] (Faa hi) _).1 (key _ (Faa hi))
  obtain⟨e2,q4,q5,q6⟩:=(h.m1 G[j] (Faa hj) _).1 (key _ (Faa hj))
  refine n2 i j hi hj hij ?_
  rw[<-q3,<-q6,Lw h.n1 q4 q1 (by rw[q2,q5,he])]
 have:=Fbu (l₂:=l.map (·.1)) h1 (λid hid=>by
  obtain⟨g,hg,rfl⟩:=Fac.1 hid
  have:=(h.s g hg).2
  cases hns:g.ns with
  |nil=>exact absurd hns this
  |cons a t=>
   obtain⟨e,q1,q2,_⟩:=(h.m1 g hg a).1 (by rw[hns];simp)
   exact Fac.2 ⟨e,q1,by simpa using q2⟩)
 simpa using this
theorem zy6{xs:List Int}(h:xs.Nodup):(xs.mergeSort λx y=>decide (x<=y)).Pairwise (·<·)/\∀n,n∈(xs.mergeSort λx y=>decide (x<=y))↔n∈xs:=by
 have h1:=List.pairwise_mergeSort (le:=λx y:Int=>decide (x<=y)) (λa b c h1 h2=>by simp at*;omega) (λa b=>by simp;omega) xs
 have h2:(xs.mergeSort λx y=>decide (x<=y)).Nodup:=(List.mergeSort_perm xs _).nodup_iff.2 h
 refine⟨?_,λn=>List.mem_mergeSort⟩
 have h3:=h1.and h2
 exact h3.imp λ⟨h4,h5⟩=>by simp at h4;omega
def Mr(l:List Ent)(q:Vc)(r:Int)(ns:List Int):Prop:=ns.Pairwise (·<·)/\∀id,id∈ns↔∃e∈l,e.1=id/\near q e.2 r=true
theorem G4{a:Store}{b:Nat}{x:AObj}(h:¬g.has b):(a.un g).sO b x=(a.sO b x).un g:=by
 obtain⟨h1,h2⟩:=ww h
 unfold Store.un Store.sO
 congr
 funext i
 by_cases hi:i=b
 ·subst hi;simp[h1]
 ·simp[yv hi]
theorem W0{a:Store}{b:Nat}{x:AObj}(h:zh a g)(hb:¬g.has b):zh (a.sO b x) g:=by
 intro i hi hg
 rcases has_setObj_iff.1 hi with rfl|hi
 ·exact hb hg
 ·exact h i hi hg
theorem yeb{a:Store}{b:Nat}{x y:AObj}(h:zh (a.sO b x) g):zh (a.sO b y) g/\¬g.has b:=by
 have h1:¬g.has b:=h b (has_setObj_iff.2 (.inl rfl))
 refine⟨λi hi hg=>?_,h1⟩
 rcases has_setObj_iff.1 hi with rfl|hi
 ·exact h1 hg
 ·exact h i (has_setObj_iff.2 (.inr hi)) hg
theorem pq{l:List Ent}(hn:(l.map (·.1)).Nodup){e:Ent}(he:e∈l):l.find? (v8 e.1)=some e:=by
 cases hf:l.find? (v8 e.1)with
 |none=>
  have:=Fcu.1 hf e he
  simp[v8]at this
 |some e'=>
  obtain⟨h1,h2⟩:=L6 hf
  have:e'.1=e.1:=(by simpa [v8]using h2:e.1=e'.1).symm
  rw[Lw hn he h1 this]
end
def C0:Option Nat->Int|some i=>(i:Int)|none=>-1
theorem K2(a b c:Store):(a.un b).un c=a.un (b.un c):=by
 unfold Store.un
 congr<;>funext i
 ·show(match c.obj i with|some x=>some x|none=>match b.obj i with|some x=>some x|none=>a.obj i)=(match(match c.obj i with|some x=>some x|none=>b.obj i)with|some x=>some x|none=>a.obj i)
  cases c.obj i<;>rfl
 ·show(match c.tok i with|some x=>some x|none=>match b.tok i with|some x=>some x|none=>a.tok i)=(match(match c.tok i with|some x=>some x|none=>b.tok i)with|some x=>some x|none=>a.tok i)
  cases c.tok i<;>rfl
theorem un_comm{a b:Store}(h:zh a b):a.un b=b.un a:=by
 unfold Store.un
 congr<;>funext i
 ·cases h1:b.obj i with
  |none=>cases a.obj i<;>rfl
  |some x=>
   have:a.obj i=none:=by
    cases h2:a.obj i with
    |none=>rfl
    |some y=>exact absurd (jb h1) (h i (jb h2))
   rw[this]
 ·cases h1:b.tok i with
  |none=>cases a.tok i<;>rfl
  |some x=>
   have:a.tok i=none:=by
    cases h2:a.tok i with
    |none=>rfl
    |some y=>exact absurd (Hu h1) (h i (Hu h2))
   rw[this]
theorem vm(a:Store):Store.empty.un a=a:=by
 unfold Store.un Store.empty
 congr<;>funext i
 ·cases a.obj i<;>rfl
 ·cases a.tok i<;>rfl
theorem disj_un{a b c:Store}:zh (a.un b) c↔zh a c/\zh b c:=
 ⟨λh=>⟨λi h1=>h i (un_has.2 (.inl h1)),λi h1=>h i (un_has.2 (.inr h1))⟩,λ⟨h1,h2⟩ i h=>(un_has.1 h).elim (h1 i) (h2 i)⟩
theorem zcb{a g:Store}:(a.un g).Le g:=⟨λb y h=>⟨y,zf h,AObj.le_refl y⟩,λb x h=>D2 h⟩
theorem AWp.leS{P:Program}{c:Cfg}{code:Code}{Q:Exit->Fr->Store->Prop}{A:Fr}{st st':Store}(hle:st.Le st')(h:AWp P c code Q A st'):AWp P c code Q A st:=by
 refine⟨λOth M a w ⟨β,s⟩=>h.out Oth M a w ⟨β,{tsz:=s.tsz,dfr:=s.dfr,tm:=s.tm,bx:=s.bx,inj:=s.inj,sep:=λk b hk hb=>s.sep k b hk ?_,sto:=s.sto.weakenLe hle}⟩⟩
 rcases hb with hb|hb
 ·cases hx:st'.obj b with
  |none=>exact absurd hx hb
  |some y=>
   obtain⟨x,h1,_⟩:=hle.obj b y hx
   exact .inl (by rw[h1];simp)
 ·cases hx:st'.tok b with
  |none=>exact absurd hx hb
  |some y=>exact .inr (by rw[hle.tok b y hx];simp)
theorem jr{st:Store}{x:AV}{Oth M:Nat->Nat->Prop}{w:World}{v:Value}(h:VRel w (λb o=>M b o\/Oth b o) x v):VRel w (λb o=>(M b o\/Oth b o)/\st.obj b=none) x v:=
 h.mono λ_ _ h=>h.1
structure Bld where
 id:Int
 owner:Int
 x:Int
 y:Int
 w:Int
 h:Int
 deriving DecidableEq
structure Unt where
 id:Int
 owner:Int
 kind:Int
 pos:Vc
 goal:Int
 next:Int
 stuck:Int
 inn:Int
 state:Int
 deriving DecidableEq
structure Wld where
 tick:Int
 players:Int
 next:Int
 G:Gnd
 B:List Bld
 U:List Unt
 deriving DecidableEq
def zi(b:Bld):List AV:=[int b.id,int b.owner,int b.x,int b.y,int b.w,int b.h]
def zk(u:Unt):List AV:=[int u.id,int u.owner,int u.kind,int u.pos.1,int u.pos.2,int u.goal,int u.next,int u.stuck,int u.inn,int u.state]
def zw(w:Wld):List AV:=[int w.tick,int w.players,int w.next,int w.G.W,int w.G.H,xc w.G.T,lst 6 zi w.B,lst 10 zk w.U]
def Wld.fits(w:Wld):Prop:=w.G.fits/\w.B.length<=1000000000000/\w.U.length<=1000000000000
def zp(k:Int):Int:=if k=0 then 24576 else if k=2 then 81920 else 32768
def j5(k:Int):Int:=if k=0 then 16384 else if k=1 then 24576 else if k=2 then 8192 else 16384
def yu(k:Int):Int:=if k=0 then 0 else if k=1 then 1 else if k=2 then 0 else 2
def xx(k:Int):Int:=if k=2 then 1 else 0
def xi(k:Int):Int:=if k=0 then 0 else if k=1 then 0 else if k=2 then 0 else 4
def Cw(k:Int):List AV:=[int (zp k),int (j5 k),int (yu k),int (xx k),int (xi k)]
def vy(k:Int):Prop:=0<=k/\k<=3
def wv(c:Int)(t:Nat):Int:=((if c=0 then [2,1,3,5,0,0]else if c=1 then [2,1,6,0,0,0]else [2,1,0,3,2,0]):List Int).getD t 0
def yc(b:Bld):Prop:=(1<=b.id/\b.id<=1099511627776)/\(1<=b.owner/\b.owner<=8)/\(1<=b.w/\b.w<=4)/\(1<=b.h/\b.h<=4)
def onP(g:Gnd)(b:Bld):Prop:=(0<=b.x/\b.x+b.w<=g.W)/\(0<=b.y/\b.y+b.h<=g.H)
def jt(g:Gnd)(b:Bld)(t:Nat):Prop:=(b.x<=(t:Int)%g.W/\(t:Int)%g.W<b.x+b.w)/\(b.y<=(t:Int)/g.W/\(t:Int)/g.W<b.y+b.h)
instance(g:Gnd)(b:Bld)(t:Nat):Decidable (jt g b t):=inferInstanceAs (Decidable (_/\_))
def Az(g:Gnd)(b:Bld):Prop:=∀t,t<g.T.length->jt g b t->(g.T.getD t 0).toNat<=1
def xu(a b:Bld):Prop:=(a.x<b.x+b.w/\b.x<a.x+a.w)/\(a.y<b.y+b.h/\b.y<a.y+a.h)
def Ld(l:List Bld):Prop:=∀j,(h:j<l.length)->0<j->(l[j-1]'(by omega)).id<l[j].id
def yg(l:List Unt):Prop:=∀j,(h:j<l.length)->0<j->(l[j-1]'(by omega)).id<l[j].id
def Rc(l:List Bld):Prop:=∀j,(h:j<l.length)->∀i,(hi:i<j)->¬xu l[j] (l[i]'(by omega))
def Fo(g:Gnd)(l:List Bld):Prop:=l.length<=256/\Ld l/\(∀b∈l,yc b/\onP g b/\Az g b)/\Rc l
def qc(g:Gnd)(l:List Bld)(t:Nat):Bool:=l.any λb=>decide (jt g b t)
def yi(g:Gnd)(l:List Bld)(c:Int)(t:Nat):Bool:= !qc g l t&&decide (0<wv c (g.T.getD t 0).toNat)
def tx(g:Gnd)(t:Nat):Int:=(t:Int)%g.W*65536
def ty(g:Gnd)(t:Nat):Int:=(t:Int)/g.W*65536
def off(x lo:Int):Int:=if x<lo then lo-x else if x>lo+65536 then x-(lo+65536)else 0
def xm(g:Gnd)(t:Nat)(p:Vc)(r:Int):Prop:=off p.1 (tx g t)*off p.1 (tx g t)+off p.2 (ty g t)*off p.2 (ty g t)<r*r
instance(g:Gnd)(t:Nat)(p:Vc)(r:Int):Decidable (xm g t p r):=inferInstanceAs (Decidable (_<_))
def Ag(g:Gnd)(l:List Bld)(c:Int)(p:Vc)(r:Int):Prop:=
 ((r<=p.1/\p.1+r<=g.W*65536)/\(r<=p.2/\p.2+r<=g.H*65536))/\∀t,t<g.T.length->yi g l c t=false->¬xm g t p r
def jx(p:Vc)(r:Int)(q:Vc)(s:Int):Bool:= !near p q (r+s)
def qf(w:Wld)(id k:Int)(p:Vc):Prop:=
 Ag w.G w.B (yu k) p (zp k)/\∀u∈w.U,u.inn=0->u.id≠id->jx p (zp k) u.pos (zp u.kind)=true
def vg(g:Gnd)(t:Int):Prop:=t=-1\/(0<=t/\t<g.W*g.H)
def xt(w:Wld)(u:Unt):Prop:=
 ((1<=u.id/\u.id<w.next)/\(1<=u.owner/\u.owner<=w.players)/\vy u.kind)/\(vg w.G u.goal/\vg w.G u.next/\(0<=u.stuck/\u.stuck<8))∧
 ((0<=u.state/\u.state<=4)/\(u.state=1↔u.goal≠-1))/\(u.goal=-1->u.next=-1/\u.stuck=0)
def Gj(w:Wld):Prop:=
 ((0<=w.tick/\w.tick<=1099511627776)/\(1<=w.players/\w.players<=8)/\(1<=w.next/\w.next<=1099511627776))∧
 (zn w.G/\Fo w.G w.B/\w.U.length<=4096)/\∀b∈w.B,b.owner<=w.players/\b.id<w.next
def Gz(w:Wld):Prop:=yg w.U/\∀u∈w.U,xt w u/\∀b∈w.B,b.id≠u.id
def zv(l:List Unt)(id:Int):List Int:=(l.filter λu=>u.inn==id).map (·.id)
def wu(w:Wld)(u:Unt):Prop:=
 ∃x∈w.U,x.id=u.inn/\(x.inn=0/\x.owner=u.owner)/\((zv w.U u.inn).length:Int)<=xi x.kind/\xi u.kind=0/\u.pos=(0,0)/\u.goal=-1/\u.state=0
def z7(w:Wld):Prop:=(Gj w/\Gz w)/\(∀u∈w.U,u.inn=0->qf w u.id u.kind u.pos)/\∀u∈w.U,u.inn≠0->wu w u
theorem bm(a b:Int):(a==b)=decide (a=b):=by rw[Fbr];simp
theorem qi{g:Gnd}(h:zn g):1<=g.W*g.H/\g.W*g.H<=16384/\(g.T.length:Int)=g.W*g.H:=by
 obtain⟨⟨h1,h2⟩,⟨h3,h4⟩,h5,_⟩:=h
 have:1*1<=g.W*g.H:=Fbk h1 h3 (by decide) (by omega)
 have:g.W*g.H<=128*128:=Fbk h2 h4 (by omega) (by decide)
 omega
def Pe(w:Wld):Prop:=(w.G.T.length>700\/w.B.length>30)\/w.U.length>30
section
variable {x r w lo a:Int} {g:Gnd} {t:Nat}
theorem cy{a b:Vc}(h1:-2305843009213693952<=a.1/\a.1<=2305843009213693952)(h2:-2305843009213693952<=a.2/\a.2<=2305843009213693952)(h3:-2305843009213693952<=b.1/\b.1<=2305843009213693952)(h4:-2305843009213693952<=b.2/\b.2<=2305843009213693952):
  qq a b=(a.1-b.1,a.2-b.2):=by
 have n:∀x:Int,-4611686018427387904<=x/\x<=4611686018427387904->nrm x=x:=λx hx=>by unfold nrm;rw[if_neg (by omega)]
 have c:∀x:Int,-4611686018427387904<=x/\x<=4611686018427387904->xo x=x:=λx hx=>by unfold xo;rw[if_neg (by omega),if_neg (by omega)]
 unfold qq yn yy
 rw[n a.1 (by omega),n b.1 (by omega),n a.2 (by omega),n b.2 (by omega),n (-b.1) (by omega),n (-b.2) (by omega),c _ (by omega),c _ (by omega)]
 rfl
theorem P9(h:-4611686018427387904<=x/\x<=4611686018427387904):asz x*asz x=x*x:=by
 have n:nrm x=x:=by unfold nrm;rw[if_neg (by omega)]
 unfold asz
 rw[n]
 split
 ·rw[Fdg]
 ·rfl
theorem Ok{a b:Vc}(h1:-2305843009213693952<=a.1/\a.1<=2305843009213693952)(h2:-2305843009213693952<=a.2/\a.2<=2305843009213693952)(h3:-2305843009213693952<=b.1/\b.1<=2305843009213693952)(h4:-2305843009213693952<=b.2/\b.2<=2305843009213693952)(hr:0<r):
  near a b r=decide ((a.1-b.1)*(a.1-b.1)+(a.2-b.2)*(a.2-b.2)<r*r):=by
 unfold near sqr
 rw[cy h1 h2 h3 h4,P9 (by dsimp only;omega),P9 (by dsimp only;omega)]
 rw[Fbr,decide_eq_true_iff,decide_eq_true_iff]
 exact⟨λh=>h.2,λh=>⟨hr,h⟩⟩
theorem Cm(hg:zn g){t:Nat}(ht:(t:Int)<g.W*g.H):(0<=(t:Int)%g.W/\(t:Int)%g.W<g.W)/\(0<=(t:Int)/g.W/\(t:Int)/g.W<g.H):=by
 obtain⟨⟨h1,h2⟩,⟨h3,h4⟩,_⟩:=hg
 have h5:=Fc9 (t:Int) (show g.W≠0 by omega)
 have h6:=Fdz (t:Int) (show 0<g.W by omega)
 have h7:0<=(t:Int)/g.W:=Fcs (by omega) (by omega)
 have h8:(t:Int)/g.W<g.H:=Fea (by omega) (by rw[Fcm];exact ht)
 exact⟨⟨h5,h6⟩,h7,h8⟩
theorem Fy(hw:1<=w):(t:Int).tdiv w=(t:Int)/w:=Fba (by omega)
theorem Fx(hw:1<=w):(t:Int).tmod w=(t:Int)%w:=Fej (by omega)
theorem Ie(hg:zn g){t:Nat}(ht:(t:Int)<g.W*g.H):(0<=tx g t/\tx g t<=8323072)/\(0<=ty g t/\ty g t<=8323072):=by
 have:=Cm hg ht
 obtain⟨⟨h1,h2⟩,⟨h3,h4⟩,_⟩:=hg
 unfold tx ty
 omega
def Dy(x lo:Int):Int:=min2 (max2 x lo) (lo+65536)
theorem min2_eq(a b:Int):min2 a b=min a b:=by unfold min2;by_cases h:b<a<;>simp[h]<;>omega
theorem max2_eq(a b:Int):max2 a b=max a b:=by unfold max2;by_cases h:b>a<;>simp[h]<;>omega
theorem s7(x lo:Int):Dy x lo=min (max x lo) (lo+65536):=by unfold Dy;rw[min2_eq,max2_eq]
theorem sy(x lo:Int):(x-Dy x lo)*(x-Dy x lo)=off x lo*off x lo:=by
 rw[s7]
 unfold off
 by_cases h1:x<lo
 ·rw[if_pos h1,show min (max x lo) (lo+65536)=lo by omega]
  rw[<-Fdg (x-lo),Int.neg_sub]
 ·rw[if_neg h1]
  by_cases h2:x>lo+65536
  ·rw[if_pos h2,show min (max x lo) (lo+65536)=lo+65536 by omega]
  ·rw[if_neg h2,show min (max x lo) (lo+65536)=x by omega]
   simp
theorem P0(h:0<=lo/\lo<=8323072):0<=Dy x lo/\Dy x lo<=8388608:=by rw[s7];omega
theorem l7(h:0<=lo/\lo<=8323072)(hx:-1099511627776<=x/\x<=1099511627776):0<=off x lo/\off x lo<=1099519950848:=by
 unfold off;split
 ·omega
 ·split<;>omega
theorem zyu(hg:zn g){t:Nat}(ht:(t:Int)<g.W*g.H){p:Vc}(hp:qm p.1 p.2)(hr:0<r):
  near p (Dy p.1 (tx g t),Dy p.2 (ty g t)) r=decide (xm g t p r):=by
 have hb:=Ie hg ht
 have h1:=P0 (x:=p.1) hb.1
 have h2:=P0 (x:=p.2) hb.2
 obtain⟨h3,h4⟩:=hp
 rw[Ok (by omega) (by omega) (by dsimp only;omega) (by dsimp only;omega) hr]
 dsimp only
 rw[sy,sy]
 rfl
theorem Ik(ha:0<=a)(hr:0<r)(h:a*a<r*r):a<r:=by
 apply Decidable.byContradiction
 intro hn
 have:r*r<=a*a:=Fbk (by omega) (by omega) (by omega) ha
 omega
theorem zy8{dx dy:Int}(h1:0<=dx)(h2:0<=dy)(hr:0<r):(dx<r/\dy<r/\dx*dx+dy*dy<r*r)↔dx*dx+dy*dy<r*r:=by
 refine⟨λh=>h.2.2,λh=>⟨Ik h1 hr ?_,Ik h2 hr ?_,h⟩⟩
 ·have:=Fay h2 h2;omega
 ·have:=Fay h1 h1;omega
theorem Sf(h:0<=a/\a<=262144):0<=a*a/\a*a<=68719476736:=
 ⟨Fay h.1 h.1,by have:a*a<=262144*262144:=Fbk h.2 h.2 h.1 (by decide);omega⟩
end
section
variable {b:Nat} {P:Program} {c:Cfg} {A:Fr}
def Store.dO(st:Store)(b:Nat):Store:={st with obj:=λi=>bif Nat.beq i b then none else st.obj i}
theorem Dw{st:Store}{b':Nat}{x:AObj}(h:(st.dO b).obj b'=some x):b'≠b/\st.obj b'=some x:=by
  have h:(bif Nat.beq b' b then none else st.obj b')=some x:=h
  cases hb:Nat.beq b' b with
  |true=>rw[hb]at h;cases h
  | false=>
    rw[hb]at h
    exact⟨λe=>(by rw[e,Fbs]at hb;cases hb),h⟩
theorem AWp.freeze{code:Code}{Q:Exit->Fr->Store->Prop}{st:Store}{d n cap k:Nat}{rows:List (List AV)}{pad:List AV}
    (hA:A.t d=.av (.s (.slice (some ⟨b,0,none⟩) n cap))) (ho:st.obj b=some (.cells (rows.flatten++pad))) (ht:st.tok b=none) (hn:rows.length=n) (hcap:n<=cap)
    (hk:∀row∈rows,row.length=k) (hall:∀row∈rows,∀x∈row,∃v,x=AV.s v/\qo v=true)
    (h:AWp P c code Q (A.put d (.av (.lst k rows none))) (st.dO b)):AWp P c code Q A st:=by
  refine⟨λOth M a w ⟨β,sim⟩=>?_⟩
  have hs:∀b' o,((M b' o/\b'≠b)\/Oth b' o)->(M b' o\/Oth b' o):=λ_ _ h=>h.imp (·.1) id
  have sim':SimB c.N Oth β (A.put d (.av (.lst k rows none))) (st.dO b) (λb' o=>M b' o/\b'≠b) a w:=by
    refine{tsz:=sim.tsz,dfr:=sim.dfr.sub λ_ _ h=>h.1,tm:=λi=>?_,bx:=λj l hj=>⟨(sim.bx j l hj).1.mono hs,λo=>⟨(sim.bx j l hj).2 o,?_⟩⟩,inj:=sim.inj,sep:=λj b' hj hb'=>?_,sto:=?_}
    · by_cases hi:i=d
      · subst hi
        have e:(A.put i (.av (.lst k rows none))).t i=.av (.lst k rows none):=by
          show(bif Nat.beq i i then _ else A.t i)=_
          rw[Fbs];rfl
        rw[e]
        have h1:=sim.tm i
        rw[hA]at h1
        have h1:VRel w (λb o=>M b o\/Oth b o) (.s (.slice (some ⟨b,0,none⟩) n cap)) (a.tmps.getD i undef):=h1
        generalize a.tmps.getD i undef=v at h1
        cases h1
        obtain⟨⟨cs,e0,fr,hb0,huf,hlen,hrel⟩,hM⟩:=sim.sto.obj b _ ho
        subst hn
        have at1:∀(i:Nat) (row:List AV) (j:Nat) (x:AV),rows[i]?=some row->row[j]?=some x->∃v,x=.s v/\qo v=true/\cs[i*k+j]?=some v:=by
          intro i row j x hi hj
          obtain⟨v,rfl,hv⟩:=hall row (Fau hi) x (Fau hj)
          have h5:=Hw hk hi hj
          have hlt:=(Faf.1 h5).1
          have h6:(rows.flatten++pad)[i*k+j]?=some (.s v):=by rw[Fam hlt];exact h5
          have hlt2:i*k+j<cs.size:=by rw[<-hlen,Fag];omega
          have h7:=hrel _ _ cs[i*k+j] h6 (by simp[hlt2])
          have:cs[i*k+j]=v:=by generalize cs[i*k+j]=y at h7;cases h7;rfl
          exact⟨v,rfl,hv,by rw[<-this];simp[hlt2]⟩
        refine VRel.lst rows none b 0 cap k (λp=>cs.getD p undef) hcap (λi row hi=>hk row (Fau hi)) (λ_ h=>by cases h) (λi row j x hi hj=>?_) (λi row j x hi hj=>?_) (λi row j x hi hj=>?_)
        · obtain⟨v,rfl,hv,h5⟩:=at1 i row j x hi hj
          refine⟨?_,?_⟩
          · rw[Fbd]
            simp only[World.cell?,hb0]
            rw[Fav,h5]
            simp[h5]
          · rintro(⟨_,h⟩|h)
            · exact h rfl
            · exact sim.sto.dis _ _ h (hM _)
        · obtain⟨v,rfl,hv,h5⟩:=at1 i row j x hi hj
          rw[Fav,h5];exact hv
        · obtain⟨v,rfl,hv,h5⟩:=at1 i row j x hi hj
          rw[Fav,h5];exact .s _
      · have e:(A.put d (.av (.lst k rows none))).t i=A.t i:=by
          show(bif Nat.beq i d then _ else A.t i)=_
          have:Nat.beq i d=false:=by
            cases hb:Nat.beq i d with
            |false=>rfl
            |true=>exact absurd ((xe _ _).1 hb) hi
          rw[this];rfl
        rw[e]
        have h1:=sim.tm i
        generalize A.t i=x at h1
        cases x with
        |any=>trivial
        |und=>exact h1
        |av x=>exact VRel.mono hs h1
        |bx k off=>exact h1
    · exact sim.sep j b (λe=>by rw[show A.bx j=some l from hj]at e;cases e) (.inl (by rw[ho];simp))
    · refine sim.sep j b' hj ?_
      rcases hb' with hb'|hb'
      · cases hx:(st.dO b).obj b' with
        |none=>exact absurd hx hb'
        |some y=>exact .inl (by rw[(Dw hx).2];simp)
      · exact .inr hb'
    · exact { obj:=λb' y hy=>⟨(sim.sto.obj b' y (Dw hy).2).1.mono hs,λo=>⟨(sim.sto.obj b' y (Dw hy).2).2 o,(Dw hy).1⟩⟩
              tok:=λb' top htk=>by
                obtain⟨c,e,fr,h1,h2,h3,h4⟩:=sim.sto.tok b' top htk
                exact⟨c,e,fr,h1,h2,h3,λo ho=>⟨h4 o ho,λe=>by subst e;rw[show st.tok b'=some top from htk]at ht;cases ht⟩⟩
              mlt:=λb' o hm=>sim.sto.mlt b' o hm.1,olt:=sim.sto.olt,dis:=λb' o ho hm=>sim.sto.dis b' o ho hm.1}
  refine Code.wpF_mono ?_ (h.out Oth _ a w ⟨β,sim'⟩)
  rintro e a' w' ⟨A',st',M',h1,h2,h3⟩
  exact⟨A',st',M',h1,h2,{size:=h3.size,keep:=λb' o hb hm=>h3.keep b' o hb λh=>hm h.1,blk:=λb' hb hm=>h3.blk b' hb λo h=>hm o h.1,shp:=h3.shp,sub:=λb' o hm hb=>(h3.sub b' o hm hb).1,tape:=h3.tape,os:=h3.os,output:=h3.output}⟩
theorem AWp.loopA{σ:Type}(H:LoopHead σ){b:Code}{Q:Exit->Fr->Store->Prop}{st:Store}(h0:H.at A st λ_=>True)
    (round:∀s st,H.inv s st->AWp P c b (ij H s Q) (Bz (H.t s) (H.bx s)) st):AWp P c (.loop b) Q A st:=by
  obtain⟨s0,_,hi0,ht0,hb0⟩:=h0
  refine⟨λOth M a w sim=>?_⟩
  refine wpIn_loop_ghost (λn a' w'=>∃s st' M',H.μ s=n/\H.inv s st'/\Sim c.N Oth (Bz (H.t s) (H.bx s)) st' M' a' w'/\Chg M w M' w') (H.μ s0)
    ⟨s0,st,M,rfl,hi0,sim.fits ht0 hb0 (Store.Has.refl st),Chg.refl M w⟩ ?_
  rintro n a' w' ⟨s,st',M',rfl,hi,hsim,hchg⟩
  refine Code.wpF_mono ?_ ((round s st' hi).out Oth M' a' w' hsim)
  rintro e a'' w'' ⟨A'',st'',M'',h1,h2,h3⟩
  cases e with
  | normal=>
    obtain⟨s',hlt,hi',ht',hb'⟩:=h1
    exact⟨H.μ s',hlt,s',st'',M'',rfl,hi',h2.fits ht' hb' (Store.Has.refl st''),hchg.trans h3⟩
  |_=>exact⟨A'',st'',M'',h1,h2,hchg.trans h3⟩
end
section
variable {g:Gnd} {n t i:Nat}
theorem Mg{st:Store}{b:Nat}{x:AObj}(h:st.obj b=none):(st.sO b x).dO b=st:=by
 unfold Store.sO Store.dO
 congr 1
 funext i
 by_cases hi:i=b
 ·subst hi;simp[h]
 ·simp[yv hi]
def Al(W:Int)(b:Bld)(y k:Nat):List Int:=(List.range k).map λ(x:Nat)=>b.x+(x:Int)+W*(b.y+(y:Int))
def Bd(W:Int)(b:Bld)(k:Nat):List Int:=(List.range k).flatMap λy=>Al W b y b.w.toNat
def vp(W:Int)(b:Bld):List Int:=Bd W b b.h.toNat
theorem zc5(W:Int)(b:Bld)(y k:Nat):Al W b y (k+1)=Al W b y k++[b.x+(k:Int)+W*(b.y+(y:Int))]:=by
 unfold Al;rw[List.range_succ];simp
theorem R4(W:Int)(b:Bld)(k:Nat):Bd W b (k+1)=Bd W b k++Al W b k b.w.toNat:=by
 unfold Bd;rw[List.range_succ];simp
theorem ep(W:Int)(b:Bld)(y k:Nat):(Al W b y k).length=k:=by unfold Al;simp
theorem R5(W:Int)(b:Bld)(k:Nat):(Bd W b k).length=k*b.w.toNat:=by
 induction k with
 |zero=>simp[Bd]
 |succ k ih=>rw[R4,Fag,ih,ep,Fd9]
theorem R6(W:Int){b:Bld}(hb:yc b):(vp W b).length<=16:=by
 unfold vp
 rw[R5]
 unfold yc at hb
 have:b.h.toNat*b.w.toNat<=4*4:=Fd6 (by omega) (by omega)
 omega
theorem G8(hg:zn g){x y:Int}(hx:0<=x/\x<g.W)(hy:0<=y/\y<g.H):
  0<=x+g.W*y/\x+g.W*y<g.W*g.H/\(x+g.W*y)%g.W=x/\(x+g.W*y)/g.W=y:=by
 obtain⟨⟨h1,h2⟩,⟨h3,h4⟩,_⟩:=hg
 have a1:0<=g.W*y:=Fay (by omega) hy.1
 have a2:g.W*y<=g.W*(g.H-1):=Fdd (by omega) (by omega)
 have a3:g.W*(g.H-1)=g.W*g.H-g.W:=by rw[Int.mul_sub,Int.mul_one]
 refine⟨by omega,by omega,?_,?_⟩
 ·rw[Int.add_mul_emod_self_left];exact Feq hx.1 hx.2
 ·rw[Int.add_mul_ediv_left _ _ (by omega),Fd3 hx.1 hx.2];omega
theorem Fa(hg:zn g){b:Bld}(hb:yc b)(ho:onP g b)(t:Int):t∈vp g.W b↔∃n:Nat,t=(n:Int)/\(n:Int)<g.W*g.H/\jt g b n:=by
 have hb':=hb
 have ho':=ho
 unfold yc at hb'
 unfold onP at ho'
 unfold vp Bd Al
 rw[List.mem_flatMap]
 constructor
 ·rintro⟨y,hy,hx⟩
  obtain⟨x,hx2,rfl⟩:=Fac.1 hx
  have hy:=Fa4.1 hy
  have hx:=Fa4.1 hx2
  obtain⟨q1,q2,q3,q4⟩:=G8 hg (x:=b.x+x) (y:=b.y+y) (by omega) (by omega)
  refine⟨(b.x+(x:Int)+g.W*(b.y+(y:Int))).toNat,by omega,by omega,?_⟩
  unfold jt
  rw[show(((b.x+(x:Int)+g.W*(b.y+(y:Int))).toNat:Nat):Int)=b.x+(x:Int)+g.W*(b.y+(y:Int)) by omega,q3,q4]
  omega
 ·rintro⟨n,rfl,hn,hh⟩
  unfold jt at hh
  refine⟨((n:Int)/g.W-b.y).toNat,Fa4.2 (by omega),Fac.2 ⟨((n:Int)%g.W-b.x).toNat,Fa4.2 (by omega),?_⟩⟩
  have:=Fdh (n:Int) g.W
  rw[show(((n:Int)%g.W-b.x).toNat:Int)=(n:Int)%g.W-b.x by omega,show(((n:Int)/g.W-b.y).toNat:Int)=(n:Int)/g.W-b.y by omega]
  rw[show b.x+((n:Int)%g.W-b.x)=(n:Int)%g.W by omega,show b.y+((n:Int)/g.W-b.y)=(n:Int)/g.W by omega]
  exact this
def bl(n:Nat)(f:Nat->Bool):List AV:=(List.range n).map λt=>bool (f t)
theorem wy(n:Nat)(f:Nat->Bool):(bl n f).length=n:=by simp[bl]
theorem Fq{f:Nat->Bool}(h:t<n):(bl n f)[t]?=some (bool (f t)):=by simp[bl,h]
theorem Mn(n:Nat):List.replicate n (AV.s (.bool false))=bl n λ_=>false:=by
 unfold bl
 rw[List.map_const',Fdj]
 rfl
theorem Fp{f:Nat->Bool}(h:t<n)(g:Nat->Bool)(hg:∀s,s≠t->g s=f s):zu (bl n f) t [bool (g t)]=bl n g:=by
 unfold zu
 apply Fb9
 intro s
 by_cases h1:s<t
 ·rw[Fas,Fam (by rw[Fao,wy];omega),Fb7 h1,Fq (by omega),Fq (by omega),hg s (by omega)]
 ·by_cases h2:s=t
  ·subst h2
   rw[Fas,Faw (by rw[Fao,wy];omega),Fao,wy,show s-min s n=0 by omega,Fq h]
   rfl
  ·rw[Faw (by rw[Fag,Fao,wy];simp;omega),Fag,Fao,wy,Fcj]
   by_cases h3:s<n
   ·have e:t+[bool (g t)].length+(s-(min t n+[bool (g t)].length))=s:=by simp;omega
    rw[e,Fq h3,Fq h3,hg s h2]
   ·rw[Fbn (by rw[wy];simp;omega),Fbn (by rw[wy];omega)]
def jk(g:Gnd)(l:List Bld)(i:Nat)(ts:List Int)(k:Nat)(t:Nat):Bool:=qc g (l.take i) t||(ts.take k).contains (t:Int)
theorem sd(g:Gnd)(l:List Bld)(i:Nat)(ts:List Int)(t:Nat):jk g l i ts 0 t=qc g (l.take i) t:=by simp[jk]
theorem se{l:List Bld}{ts:List Int}{k n:Nat}(hk:k<ts.length)(hn:ts[k]=(n:Int)):
  jk g l i ts (k+1) n=true/\∀s,s≠n->jk g l i ts (k+1) s=jk g l i ts k s:=by
 unfold jk
 rw[Fae hk,hn]
 refine⟨by simp,λs hs=>?_⟩
 rw[List.contains_append]
 have:[((n:Nat):Int)].contains (s:Int)=false:=by simp;omega
 rw[this,Fev]
theorem sf(hg:zn g){l:List Bld}(hi:i<l.length)(hb:yc l[i]/\onP g l[i])(ht:t<g.T.length):
  jk g l i (vp g.W l[i]) (vp g.W l[i]).length t=qc g (l.take (i+1)) t:=by
 have ha:=qi hg
 unfold jk qc
 rw[Faz,Fae hi,List.any_append]
 congr 1
 rw[Fbr,List.contains_iff_mem,Fa hg hb.1 hb.2]
 simp only[List.any_cons,List.any_nil,Fev,decide_eq_true_eq]
 constructor
 ·rintro⟨n,h1,_,h2⟩
  have:n=t:=by omega
  subst this;exact h2
 ·intro h
  exact⟨t,rfl,by omega,h⟩
def vd(b:Bool):List AV:=[bool b]
def blL(n:Nat)(f:Nat->Bool):List Bool:=(List.range n).map f
theorem Ba(n:Nat)(f:Nat->Bool):(blL n f).length=n:=by simp[blL]
theorem Gq{f:Nat->Bool}(h:t<n):(blL n f)[t]'(by rw[Ba];exact h)=f t:=by simp[blL]
theorem yf6(n:Nat)(f:Nat->Bool):(rws vd (blL n f)).flatten=bl n f:=by
 unfold rws blL bl vd
 induction List.range n with
 |nil=>rfl
 |cons a l ih=>simp at ih⊢;exact ih
theorem ud{f:Nat->Bool}(h:t<n):(rws vd (blL n f))[t]?=some (vd (f t)):=by
 unfold rws blL
 simp[h]
end
section
variable {g:Gnd}
theorem zc4(W:Int)(b:Bld)(y k:Nat):(Al W b y k).Pairwise (·<·):=by
 unfold Al
 rw[List.pairwise_map]
 exact(List.pairwise_lt_range (n:=k)).imp λh=>by omega
theorem zc2{W:Int}{b:Bld}(hW:1<=W)(hx:0<=b.x/\b.x+b.w<=W)(hw:1<=b.w)(k:Nat):(Bd W b k).Pairwise (·<·)/\∀t∈Bd W b k,t<W*(b.y+(k:Int)):=by
 induction k with
 |zero=>exact⟨List.Pairwise.nil,λt ht=>(by simp[Bd]at ht)⟩
 |succ k ih=>
  rw[R4]
  have hrow:∀t∈Al W b k b.w.toNat,W*(b.y+(k:Int))<=t/\t<W*(b.y+(k:Int))+W:=by
   intro t ht
   obtain⟨x,hx2,rfl⟩:=Fac.1 ht
   have:=Fa4.1 hx2
   omega
  have e:W*(b.y+((k+1:Nat):Int))=W*(b.y+(k:Int))+W:=by
   rw[show b.y+((k+1:Nat):Int)=(b.y+(k:Int))+1 by omega,Fdt,Int.mul_one]
  refine⟨List.pairwise_append.2 ⟨ih.1,zc4 _ _ _ _,λa ha c hc=>?_⟩,λt ht=>?_⟩
  ·have h1:=ih.2 a ha
   have h2:=hrow c hc
   omega
  ·rw[e]
   rcases Fal.1 ht with ht|ht
   ·have:=ih.2 t ht;omega
   ·have:=hrow t ht;omega
theorem zc3(hg:zn g){b:Bld}(hb:yc b/\onP g b):(vp g.W b).Pairwise (·<·):=by
 unfold yc onP at hb
 exact(zc2 hg.1.1 hb.2.1 (by omega) _).1
theorem zyj{l:List Int}(h:l.Pairwise (·<·)){k:Nat}(hk:k<l.length):l[k]∉l.take k:=by
 intro hm
 obtain⟨j,hj,e⟩:=Fai hm
 rw[Fao]at hj
 rw[Fdk]at e
 have:=Fcp.1 h j k (by omega) hk (by omega)
 omega
theorem m8(hg:zn g){a b:Bld}(ha:yc a/\onP g a)(hb:yc b/\onP g b):xu a b↔∃t:Nat,(t:Int)<g.W*g.H/\jt g a t/\jt g b t:=by
 unfold yc onP at ha hb
 unfold xu
 constructor
 ·intro h
  obtain⟨q1,q2,q3,q4⟩:=G8 hg (x:=max a.x b.x) (y:=max a.y b.y) (by omega) (by omega)
  refine⟨(max a.x b.x+g.W*max a.y b.y).toNat,by omega,?_⟩
  unfold jt
  rw[show(((max a.x b.x+g.W*max a.y b.y).toNat:Nat):Int)=max a.x b.x+g.W*max a.y b.y by omega,q3,q4]
  omega
 ·rintro⟨t,_,h1,h2⟩
  unfold jt at h1 h2
  omega
theorem covB_iff{l:List Bld}{t:Nat}:qc g l t=true↔∃b∈l,jt g b t:=by
 unfold qc
 rw[Fcl]
 simp
def P3(g:Gnd)(l:List Bld)(i:Nat):Prop:=∀j,(h:j<l.length)->j<i->(yc l[j]/\onP g l[j]/\Az g l[j])/\∀k,(hk:k<j)->¬xu l[j] (l[k]'(by omega))
theorem tn{l:List Bld}(h:P3 g l l.length):(∀b∈l,yc b/\onP g b/\Az g b)/\Rc l:=by
 refine⟨λb hb=>?_,λj hj k hk=>(h j hj hj).2 k hk⟩
 obtain⟨j,hj,rfl⟩:=Fai hb
 exact(h j hj hj).1
theorem yep(hg:zn g){l:List Bld}{i:Nat}(hi:i<l.length)(hb:yc l[i]/\onP g l[i])(hup:P3 g l i):
  (∃t∈vp g.W l[i],qc g (l.take i) t.toNat=true)↔∃k,∃hk:k<i,xu l[i] (l[k]'(by omega)):=by
 constructor
 ·rintro⟨t,ht,hc⟩
  obtain⟨n,rfl,hn,hh⟩:=(Fa hg hb.1 hb.2 t).1 ht
  rw[Fa9]at hc
  obtain⟨b,hb2,hh2⟩:=covB_iff.1 hc
  obtain⟨k,hk,rfl⟩:=Fai hb2
  rw[Fao]at hk
  rw[Fdk]at hh2
  have:=(hup k (by omega) (by omega)).1
  exact⟨k,by omega,(m8 hg hb ⟨this.1,this.2.1⟩).2 ⟨n,hn,hh,hh2⟩⟩
 ·rintro⟨k,hk,hm⟩
  have:=(hup k (by omega) (by omega)).1
  obtain⟨n,hn,h1,h2⟩:=(m8 hg hb ⟨this.1,this.2.1⟩).1 hm
  refine⟨(n:Int),(Fa hg hb.1 hb.2 _).2 ⟨n,rfl,hn,h1⟩,?_⟩
  rw[Fa9]
  refine covB_iff.2 ⟨l[k],?_,h2⟩
  have:(l.take i)[k]'(by rw[Fao];omega)=l[k]:=Fdk
  rw[<-this]
  exact Faa _
end
def Cy(g:Gnd)(b:Bld)(k t:Nat):Prop:=(b.x<=(t:Int)%g.W/\(t:Int)%g.W<b.x+b.w)/\(b.y<=(t:Int)/g.W/\(t:Int)/g.W<b.y+(k:Int))
def Bj(g:Gnd)(b:Bld)(k m t:Nat):Prop:=(t:Int)/g.W=b.y+(k:Int)/\(b.x<=(t:Int)%g.W/\(t:Int)%g.W<b.x+(m:Int))
instance(g:Gnd)(b:Bld)(k t:Nat):Decidable (Cy g b k t):=inferInstanceAs (Decidable (_/\_))
instance(g:Gnd)(b:Bld)(k m t:Nat):Decidable (Bj g b k m t):=inferInstanceAs (Decidable (_/\_))
def Ah(g:Gnd)(l:List Bld)(i:Nat)(b:Bld)(k m t:Nat):Bool:=qc g (l.take i) t||decide (Cy g b k t\/Bj g b k m t)
theorem yeq(g:Gnd)(l:List Bld)(i:Nat)(b:Bld):Ah g l i b 0 0=qc g (l.take i):=by
 funext t
 unfold Ah
 rw[decide_eq_false (by unfold Cy Bj;omega),Fev]
theorem yeu(g:Gnd)(l:List Bld)(i:Nat)(b:Bld)(k:Nat)(hw:0<=b.w):Ah g l i b k b.w.toNat=Ah g l i b (k+1) 0:=by
 funext t
 unfold Ah
 have:(Cy g b k t\/Bj g b k b.w.toNat t)↔(Cy g b (k+1) t\/Bj g b (k+1) 0 t):=by
  unfold Cy Bj
  rw[show((b.w.toNat:Nat):Int)=b.w by omega]
  omega
 simp only[this]
theorem yev{g:Gnd}{l:List Bld}{i:Nat}(hi:i<l.length)(hh:0<=l[i].h):Ah g l i l[i] l[i].h.toNat 0=qc g (l.take (i+1)):=by
 funext t
 unfold Ah qc
 rw[Fae hi,List.any_append]
 congr 1
 simp only[List.any_cons,List.any_nil,Fev]
 have:(Cy g l[i] l[i].h.toNat t\/Bj g l[i] l[i].h.toNat 0 t)↔jt g l[i] t:=by
  unfold Cy Bj jt
  rw[show((l[i].h.toNat:Nat):Int)=l[i].h by omega]
  omega
 simp only[this]
theorem yer{g:Gnd}(hg:zn g){l:List Bld}{i:Nat}{b:Bld}(hb:yc b/\onP g b){k m:Nat}(hk:(k:Int)<b.h)(hm:(m:Int)<b.w){n:Nat}(hn:(n:Int)=b.x+(m:Int)+g.W*(b.y+(k:Int))):
  Ah g l i b k (m+1) n=true/\∀s,s≠n->Ah g l i b k (m+1) s=Ah g l i b k m s:=by
 unfold yc onP at hb
 obtain⟨q1,q2,q3,q4⟩:=G8 hg (x:=b.x+m) (y:=b.y+k) (by omega) (by omega)
 unfold Ah
 refine⟨?_,λs hs=>?_⟩
 ·have:Bj g b k (m+1) n:=by
   unfold Bj
   rw[hn,q3,q4]
   omega
  rw[decide_eq_true (.inr this),Bool.or_true]
 ·have e:=Fdh (s:Int) g.W
  have:(Cy g b k s\/Bj g b k (m+1) s)↔(Cy g b k s\/Bj g b k m s):=by
   unfold Bj
   have hne:¬((s:Int)/g.W=b.y+(k:Int)/\(s:Int)%g.W=b.x+(m:Int)):=by
    rintro⟨e1,e2⟩
    rw[e1,e2]at e
    omega
   unfold Cy
   clear e hn q1 q2 q3 q4
   generalize(s:Int)%g.W=X at*
   generalize(s:Int)/g.W=Y at*
   omega
  simp only[this]
theorem Pa{g:Gnd}{t:Nat}{p:Vc}{r:Int}(hr:0<r)(h:xm g t p r):
  (tx g t<p.1+r/\p.1-r<tx g t+65536)/\(ty g t<p.2+r/\p.2-r<ty g t+65536):=by
 unfold xm at h
 have n:∀x lo:Int,0<=off x lo:=λx lo=>by unfold off;split<;>(try split)<;>omega
 have a:=Ik (n p.1 (tx g t)) hr (by have:=Fay (n p.2 (ty g t)) (n p.2 (ty g t));omega)
 have b:=Ik (n p.2 (ty g t)) hr (by have:=Fay (n p.1 (tx g t)) (n p.1 (tx g t));omega)
 unfold off at a b
 refine⟨?_,?_⟩
 ·generalize tx g t=X at a
  split at a
  ·omega
  ·split at a<;>omega
 ·generalize ty g t=Y at b
  split at b
  ·omega
  ·split at b<;>omega
section
variable {P:Program} {c:Cfg}
theorem ju{ops:Array Oper}{o:Oper}{A:Fr}{go skip:Fr->Prop}(hg:o.guard=none)(h:go A):Gk ops o A go skip:=by
 unfold Gk;rw[hg];exact h
theorem jo{o:Oper}{t:TypeId}{a x:Operand}{K:Fr->Store->Prop}{A:Fr}{st:Store}{i:TI}{v:AV}(ho:o.op=.store t a x)(hd:o.dst=none)(hi:c.I t=some i)(hx:A.ev x=.av v)(h:D3 i A st (A.ev a) v K):Bp P c o K A st:=by
 unfold Bp
 rw[ho]
 show De P c o K A st
 unfold De
 rw[ho]
 simp only[hd,Option.isNone_none,cond_true,hx]
 exact za i hi h
end
theorem my{A:Int}{m:Nat}(h:(m:Int)<A):A.toNat-(m+1)<A.toNat-m:=by omega
theorem bf(a:Int)(m:Nat):a+((m+1:Nat):Int)=a+(m:Int)+1:=by omega
theorem O2{A x:Int}{m:Nat}(h:x+(m:Int)<A):((m+1:Nat):Int)<=A-x:=by omega
def Kp(g:Gnd)(l:List Bld)(c:Int)(p:Vc)(r y:Int):Prop:=∀t,t<g.T.length->(t:Int)/g.W<y->yi g l c t=false->¬xm g t p r
def Mh(g:Gnd)(l:List Bld)(c:Int)(p:Vc)(r y x:Int):Prop:=∀t,t<g.T.length->(t:Int)/g.W=y->(t:Int)%g.W<x->yi g l c t=false->¬xm g t p r
theorem yfc{g:Gnd}{l:List Bld}{c:Int}{p:Vc}{r:Int}(hr:0<r)(hp:0<=p.2-r):Kp g l c p r ((p.2-r)/65536):=by
 intro t _ hy _ hh
 have:=(Pa hr hh).2
 unfold ty at this
 generalize(t:Int)/g.W=Y at*
 omega
theorem yff{g:Gnd}{l:List Bld}{c:Int}{p:Vc}{r y:Int}(hr:0<r)(hp:0<=p.1-r):Mh g l c p r y ((p.1-r)/65536):=by
 intro t _ _ hx _ hh
 have:=(Pa hr hh).1
 unfold tx at this
 generalize(t:Int)%g.W=X at*
 omega
theorem yfg{g:Gnd}(hg:zn g){l:List Bld}{c:Int}{p:Vc}{r y x:Int}(hr:0<r)(hp:0<=p.1+r)(hx:¬(x<=(p.1+r)/65536)\/¬(x<g.W))(hu:Kp g l c p r y)(h:Mh g l c p r y x):Kp g l c p r (y+1):=by
 intro t ht hy ho hh
 by_cases e:(t:Int)/g.W=y
 ·by_cases e2:(t:Int)%g.W<x
  ·exact h t ht e e2 ho hh
  ·have h1:=(Pa hr hh).1
   have h2:=(Cm hg (t:=t) (by have:=(qi hg).2.2;omega)).1
   unfold tx at h1
   generalize(t:Int)%g.W=X at*
   omega
 ·exact hu t ht (by omega) ho hh
theorem yfd{g:Gnd}(hg:zn g){l:List Bld}{c:Int}{p:Vc}{r y:Int}(hr:0<r)(hp:0<=p.2+r)(hy:¬(y<=(p.2+r)/65536)\/¬(y<g.H))(hu:Kp g l c p r y):∀t,t<g.T.length->yi g l c t=false->¬xm g t p r:=by
 intro t ht ho hh
 by_cases e:(t:Int)/g.W<y
 ·exact hu t ht e ho hh
 ·have h1:=(Pa hr hh).2
  have h2:=(Cm hg (t:=t) (by have:=(qi hg).2.2;omega)).2
  unfold ty at h1
  generalize(t:Int)/g.W=Y at*
  omega
theorem yfe{g:Gnd}(hg:zn g){l:List Bld}{c:Int}{p:Vc}{r y x:Int}(hx:0<=x/\x<g.W)(hy:0<=y/\y<g.H)(h:Mh g l c p r y x)(hn:yi g l c (x+g.W*y).toNat=false->¬xm g (x+g.W*y).toNat p r):Mh g l c p r y (x+1):=by
 intro t ht e1 e2 ho
 by_cases e:(t:Int)%g.W<x
 ·exact h t ht e1 e ho
 ·have e3:(t:Int)%g.W=x:=by omega
  have q:=Fdh (t:Int) g.W
  rw[e1,e3]at q
  have:(x+g.W*y).toNat=t:=by rw[q];omega
  rw[this]at hn
  exact hn ho
section
variable {g:Gnd} {x y:Int} {s:Nat}
def onG(g:Gnd)(x y:Int):Prop:=(0<=x/\x<g.W)/\(0<=y/\y<g.H)
instance(g:Gnd)(x y:Int):Decidable (onG g x y):=inferInstanceAs (Decidable (_/\_))
def tl(g:Gnd)(x y:Int):Nat:=(x+g.W*y).toNat
theorem Br(hg:zn g)(h:onG g x y):((tl g x y:Nat):Int)=x+g.W*y/\tl g x y<g.T.length/\(tl g x y:Int)%g.W=x/\(tl g x y:Int)/g.W=y:=by
 obtain⟨h1,h2,h3⟩:=qi hg
 obtain⟨⟨hx,hx2⟩,hy,hy2⟩:=h
 have hW:1<=g.W:=hg.1.1
 have e0:0<=g.W*y:=Fay (by omega) hy
 have e:((tl g x y:Nat):Int)=x+g.W*y:=by unfold tl;omega
 have e1:g.W*y<=g.W*(g.H-1):=Fbk (Fcx _) (by omega) hy (by omega)
 rw[Int.mul_sub,Int.mul_one]at e1
 refine⟨e,by omega,?_,?_⟩
 ·rw[e,Int.add_mul_emod_self_left,Feq hx hx2]
 ·rw[e,Int.add_mul_ediv_left _ _ (by omega),Fd3 hx hx2,Int.zero_add]
theorem Oi(hg:zn g){t:Nat}(ht:t<g.T.length):onG g ((t:Int)%g.W) ((t:Int)/g.W)/\tl g ((t:Int)%g.W) ((t:Int)/g.W)=t:=by
 obtain⟨h1,h2,h3⟩:=qi hg
 have hW:1<=g.W:=hg.1.1
 have a:=Fc9 (t:Int) (show g.W≠0 by omega)
 have b:=Fdz (t:Int) (show 0<g.W by omega)
 have c:=Fcs (show 0<=(t:Int) by omega) (show 0<=g.W by omega)
 have d:(t:Int)/g.W<g.H:=Fea (by omega) (by rw[Fcm];omega)
 refine⟨⟨⟨a,b⟩,c,d⟩,?_⟩
 unfold tl
 rw[Fdh]
 omega
def sqP(g:Gnd)(f:Nat->Bool)(s:Nat)(x y:Int):Prop:=∀a b:Int,-(s:Int)<=a->a<=s->-(s:Int)<=b->b<=s->onG g (x+a) (y+b)/\f (tl g (x+a) (y+b))=true
theorem sq_zero{f:Nat->Bool}:sqP g f 0 x y↔onG g x y/\f (tl g x y)=true:=by
 constructor
 ·intro h
  have:=h 0 0 (by decide) (by decide) (by decide) (by decide)
  simpa using this
 ·intro h a b h1 h2 h3 h4
  have ea:a=0:=by omega
  have eb:b=0:=by omega
  subst ea eb
  simpa using h
theorem sq_succ{f:Nat->Bool}:sqP g f (s+1) x y↔∀a b:Int,-1<=a->a<=1->-1<=b->b<=1->onG g (x+a) (y+b)/\sqP g f s (x+a) (y+b):=by
 constructor
 ·intro h a b h1 h2 h3 h4
  refine⟨(h a b (by omega) (by omega) (by omega) (by omega)).1,λa' b' k1 k2 k3 k4=>?_⟩
  have:=h (a+a') (b+b') (by omega) (by omega) (by omega) (by omega)
  rw[<-Int.add_assoc,<-Int.add_assoc]at this
  exact this
 ·intro h a b h1 h2 h3 h4
  obtain⟨a1,ha1,ha2,ha3,ha4⟩:∃a1:Int,-1<=a1/\a1<=1/\-(s:Int)<=a-a1/\a-a1<=s:=by
   by_cases c1:a>s
   ·exact⟨1,by omega,by omega,by omega,by omega⟩
   ·by_cases c2:a< -s
    ·exact⟨-1,by omega,by omega,by omega,by omega⟩
    ·exact⟨0,by omega,by omega,by omega,by omega⟩
  obtain⟨b1,hb1,hb2,hb3,hb4⟩:∃b1:Int,-1<=b1/\b1<=1/\-(s:Int)<=b-b1/\b-b1<=s:=by
   by_cases c1:b>s
   ·exact⟨1,by omega,by omega,by omega,by omega⟩
   ·by_cases c2:b< -s
    ·exact⟨-1,by omega,by omega,by omega,by omega⟩
    ·exact⟨0,by omega,by omega,by omega,by omega⟩
  have:=(h a1 b1 ha1 ha2 hb1 hb2).2 (a-a1) (b-b1) ha3 ha4 hb3 hb4
  rw[show x+a1+(a-a1)=x+a by omega,show y+b1+(b-b1)=y+b by omega]at this
  exact this
theorem fw{f:Nat->Bool}{s':Nat}(hs:s'<=s)(h:sqP g f s x y):sqP g f s' x y:=λa b h1 h2 h3 h4=>h a b (by omega) (by omega) (by omega) (by omega)
def m5(a b c d e:Int):Int:=min (min (min (min a (b+1)) (c+1)) (d+1)) (e+1)
theorem yfk{f:Nat->Bool}{A B:Int->Int->Int}(oA:∀x y,¬onG g x y->A x y=0)(oB:∀x y,¬onG g x y->B x y=0)
  (hA:∀x y,onG g x y->A x y=m5 (if f (tl g x y)then 128 else 0) (A (x-1) y) (A (x-1) (y-1)) (A x (y-1)) (A (x+1) (y-1)))
  (hB:∀x y,onG g x y->B x y=m5 (A x y) (B (x+1) y) (B (x+1) (y+1)) (B x (y+1)) (B (x-1) (y+1))) (hxy:onG g x y) (s:Nat) (hs:s<=127):(s:Int)<B x y↔sqP g f s x y:=by
 -- not below 0
 have nA:∀n:Nat,∀x y,onG g x y->y*200+x<n->0<=A x y:=by
  intro n
  induction n with
  |zero=>intro x y h hn;obtain⟨⟨h1,h2⟩,h3,h4⟩:=h;omega
  |succ n ih=>
   intro x y h hn
   have any:∀x' y',y'*200+x'<y*200+x->0<=A x' y':=λx' y' hl=>by
    by_cases ho:onG g x' y'
    ·exact ih x' y' ho (by omega)
    ·rw[oA x' y' ho];decide
   rw[hA x y h]
   have a1:=any (x-1) y (by omega)
   have a2:=any (x-1) (y-1) (by omega)
   have a3:=any x (y-1) (by omega)
   have a4:=any (x+1) (y-1) (by omega)
   have a5:(0:Int)<=(if f (tl g x y)then 128 else 0):=by split<;>decide
   unfold m5
   omega
 have pA:∀x y,0<=A x y:=λx y=>by
  by_cases ho:onG g x y
  ·exact nA (y*200+x+1).toNat x y ho (by obtain⟨⟨h1,h2⟩,h3,h4⟩:=ho;omega)
  ·rw[oA x y ho];decide
 have nB:∀n:Nat,∀x y,onG g x y->(g.H-y)*200+(g.W-x)<n->0<=B x y:=by
  intro n
  induction n with
  |zero=>intro x y h hn;obtain⟨⟨h1,h2⟩,h3,h4⟩:=h;omega
  |succ n ih=>
   intro x y h hn
   have any:∀x' y',(g.H-y')*200+(g.W-x')<(g.H-y)*200+(g.W-x)->0<=B x' y':=λx' y' hl=>by
    by_cases ho:onG g x' y'
    ·exact ih x' y' ho (by omega)
    ·rw[oB x' y' ho];decide
   rw[hB x y h]
   have a1:=any (x+1) y (by omega)
   have a2:=any (x+1) (y+1) (by omega)
   have a3:=any x (y+1) (by omega)
   have a4:=any (x-1) (y+1) (by omega)
   have a5:=pA x y
   unfold m5
   omega
 have pB:∀x y,0<=B x y:=λx y=>by
  by_cases ho:onG g x y
  ·exact nB ((g.H-y)*200+(g.W-x)+1).toNat x y ho (by obtain⟨⟨h1,h2⟩,h3,h4⟩:=ho;omega)
  ·rw[oB x y ho];decide
 constructor
 ·-- what is bad is not farther than its steps
  have up1:∀d:Nat,∀x y a b,onG g x y->-(d:Int)<=a->a<=d->-(d:Int)<=b->b<=0->a<=-b->¬(onG g (x+a) (y+b)/\f (tl g (x+a) (y+b))=true)->A x y<=d:=by
   intro d
   induction d with
   |zero=>
    intro x y a b h h1 h2 h3 h4 h5 hbad
    have ea:a=0:=by omega
    have eb:b=0:=by omega
    subst ea eb
    rw[Fcc,Fcc]at hbad
    have hf:¬f (tl g x y)=true:=λhf=>hbad ⟨h,hf⟩
    rw[hA x y h,if_neg hf]
    unfold m5
    omega
   |succ d ih=>
    intro x y a b h h1 h2 h3 h4 h5 hbad
    have go:∀u v:Int,-(d:Int)<=a-u->a-u<=d->-(d:Int)<=b-v->b-v<=0->a-u<=-(b-v)->A (x+u) (y+v)<=d:=λu v g1 g2 g3 g4 g5=>by
     by_cases ho:onG g (x+u) (y+v)
     ·refine ih (x+u) (y+v) (a-u) (b-v) ho g1 g2 g3 g4 g5 ?_
      rw[show x+u+(a-u)=x+a by omega,show y+v+(b-v)=y+b by omega]
      exact hbad
     ·rw[oA _ _ ho];omega
    have hk:=hA x y h
    unfold m5 at hk
    by_cases cb:b=0
    ·by_cases ca:a=0
     ·subst ca cb
      rw[Fcc,Fcc]at hbad
      have hf:¬f (tl g x y)=true:=λhf=>hbad ⟨h,hf⟩
      rw[if_neg hf]at hk
      omega
     ·have:=go (-1) 0 (by omega) (by omega) (by omega) (by omega) (by omega)
      rw[show x+-1=x-1 by omega,Fcc]at this
      omega
    ·by_cases ca:a=0
     ·have:=go 0 (-1) (by omega) (by omega) (by omega) (by omega) (by omega)
      rw[show y+-1=y-1 by omega,Fcc]at this
      omega
     ·by_cases ca2:a<0
      ·have:=go (-1) (-1) (by omega) (by omega) (by omega) (by omega) (by omega)
       rw[show y+-1=y-1 by omega,show x+-1=x-1 by omega]at this
       omega
      ·have:=go 1 (-1) (by omega) (by omega) (by omega) (by omega) (by omega)
       rw[show y+-1=y-1 by omega]at this
       omega
  have up2:∀d:Nat,∀x y a b,onG g x y->-(d:Int)<=a->a<=d->-(d:Int)<=b->b<=d->¬(onG g (x+a) (y+b)/\f (tl g (x+a) (y+b))=true)->B x y<=d:=by
   intro d
   induction d with
   |zero=>
    intro x y a b h h1 h2 h3 h4 hbad
    have:=up1 0 x y a b h h1 h2 h3 (by omega) (by omega) hbad
    have hk:=hB x y h
    unfold m5 at hk
    omega
   |succ d ih=>
    intro x y a b h h1 h2 h3 h4 hbad
    have hk:=hB x y h
    unfold m5 at hk
    by_cases cone:b<=0/\a<=-b
    ·have:=up1 (d+1) x y a b h h1 h2 h3 cone.1 cone.2 hbad
     omega
    have go:∀u v:Int,-(d:Int)<=a-u->a-u<=d->-(d:Int)<=b-v->b-v<=d->B (x+u) (y+v)<=d:=λu v g1 g2 g3 g4=>by
     by_cases ho:onG g (x+u) (y+v)
     ·refine ih (x+u) (y+v) (a-u) (b-v) ho g1 g2 g3 g4 ?_
      rw[show x+u+(a-u)=x+a by omega,show y+v+(b-v)=y+b by omega]
      exact hbad
     ·rw[oB _ _ ho];omega
    by_cases cb:b<=0
    ·have:=go 1 0 (by omega) (by omega) (by omega) (by omega)
     rw[Fcc]at this
     omega
    ·by_cases ca:a=0
     ·have:=go 0 1 (by omega) (by omega) (by omega) (by omega)
      rw[Fcc]at this
      omega
     ·by_cases ca2:a<0
      ·have:=go (-1) 1 (by omega) (by omega) (by omega) (by omega)
       rw[show x+-1=x-1 by omega]at this
       omega
      ·have:=go 1 1 (by omega) (by omega) (by omega) (by omega)
       omega
  intro hlt a b h1 h2 h3 h4
  refine Classical.byContradiction λhbad=>?_
  have:=up2 s x y a b hxy h1 h2 h3 h4 hbad
  omega
 ·-- what is good all about is far
  have loA:∀s:Nat,s<=127->∀x y,sqP g f s x y->(s:Int)<A x y:=by
   intro s
   induction s with
   |zero=>
    intro _ x y h
    obtain⟨ho,hf⟩:=sq_zero.1 h
    rw[hA x y ho,if_pos hf]
    have a1:=pA (x-1) y
    have a2:=pA (x-1) (y-1)
    have a3:=pA x (y-1)
    have a4:=pA (x+1) (y-1)
    unfold m5
    omega
   |succ s ih=>
    intro hs x y h
    have h2:=sq_succ.1 h
    have nb:=λ(a b:Int) h3 h4 h5 h6=>ih (by omega) _ _ (h2 a b h3 h4 h5 h6).2
    obtain⟨ho,hf⟩:=sq_zero.1 (fw (Faj _) h)
    have a1:=nb (-1) 0 (by decide) (by decide) (by decide) (by decide)
    have a2:=nb (-1) (-1) (by decide) (by decide) (by decide) (by decide)
    have a3:=nb 0 (-1) (by decide) (by decide) (by decide) (by decide)
    have a4:=nb 1 (-1) (by decide) (by decide) (by decide) (by decide)
    rw[show x+-1=x-1 by omega]at a1 a2
    rw[show y+-1=y-1 by omega]at a2 a3 a4
    rw[Fcc]at a1 a3
    rw[hA x y ho,if_pos hf]
    unfold m5
    omega
  have loB:∀s:Nat,s<=127->∀x y,sqP g f s x y->(s:Int)<B x y:=by
   intro s
   induction s with
   |zero=>
    intro hs x y h
    obtain⟨ho,hf⟩:=sq_zero.1 h
    rw[hB x y ho]
    have a1:=pB (x+1) y
    have a2:=pB (x+1) (y+1)
    have a3:=pB x (y+1)
    have a4:=pB (x-1) (y+1)
    have a5:=loA 0 hs x y h
    unfold m5
    omega
   |succ s ih=>
    intro hs x y h
    have h2:=sq_succ.1 h
    have nb:=λ(a b:Int) h3 h4 h5 h6=>ih (by omega) _ _ (h2 a b h3 h4 h5 h6).2
    obtain⟨ho,hf⟩:=sq_zero.1 (fw (Faj _) h)
    have a1:=nb 1 0 (by decide) (by decide) (by decide) (by decide)
    have a2:=nb 1 1 (by decide) (by decide) (by decide) (by decide)
    have a3:=nb 0 1 (by decide) (by decide) (by decide) (by decide)
    have a4:=nb (-1) 1 (by decide) (by decide) (by decide) (by decide)
    rw[show x+-1=x-1 by omega]at a4
    rw[Fcc]at a1 a3
    have a5:=loA (s+1) hs x y h
    rw[hB x y ho]
    unfold m5
    omega
  exact loB s hs x y
end
section
variable {g:Gnd} {x y j i:Int}
theorem p4{p q:Nat->Bool}{m:Nat}(hp:∀t,p t=true->t<m):∀{N:Nat},m<N->(∀t,t<N->(q t=true↔p t=true\/t=m))->(List.range N).filter q=(List.range N).filter p++[m]
 |0,h,_=>absurd h (Fbf m)
 |N+1,h,hq=>by
  rw[List.range_succ,Fc5,Fc5]
  have hpN:p N=false:=Bool.eq_false_iff.2 λhh=>by have:=hp N hh;omega
  by_cases e:m=N
  ·subst e
   have h1:(List.range m).filter q=(List.range m).filter p:=List.filter_congr λt ht=>by
    have ht:=Fa4.1 ht
    have:=hq t (by omega)
    rw[Fbr,this]
    exact⟨λh=>h.resolve_right (by omega),.inl⟩
   have h2:q m=true:=(hq m (by omega)).2 (.inr rfl)
   rw[h1]
   simp[hpN,h2]
  ·have h2:q N=false:=Bool.eq_false_iff.2 λhh=>by
    rcases(hq N (by omega)).1 hh with h|h
    ·rw[hpN]at h;cases h
    ·omega
   rw[p4 hp (by omega) (λt ht=>hq t (by omega))]
   simp[hpN,h2]
theorem Wo{p q:Nat->Bool}{N:Nat}(h:∀t,t<N->(q t=true↔p t=true)):(List.range N).filter q=(List.range N).filter p:=
 List.filter_congr λt ht=>by rw[Fbr];exact h t (Fa4.1 ht)
theorem zq5{α:Type}(L:List α)(a:α)(n:Nat):(L++[a]).take n=if L.length<n then L.take n++[a]else L.take n:=by
 split
 ·rw[Fcd (by simp;omega),Fcd (by omega)]
 ·rw[Fbv (by omega)]
theorem fa{α:Type}(L:List α)(n:Nat):(L.take n).length<n↔L.length<n:=by rw[Fao];omega
def y9(l:List Nat):List Int:=l.map λ(t:Nat)=>(t:Int)
theorem mh(a b:List Nat):y9 (a++b)=y9 a++y9 b:=Fbe
def Dc(i j:Int):Int:=max (max i (-i)) (max j (-j))
def Lf(g:Gnd)(x y k d:Int)(t:Nat):Bool:=decide (Dc ((t:Int)%g.W-x) ((t:Int)/g.W-y)=d/\((t:Int)%g.W-x).tmod k=0/\((t:Int)/g.W-y).tmod k=0)
def Dk(g:Gnd)(x y k d:Int):List Nat:=(List.range g.T.length).filter (Lf g x y k d)
def ui(g:Gnd)(x y j i:Int)(t:Nat):Bool:=decide ((t:Int)/g.W<y+j\/((t:Int)/g.W=y+j/\(t:Int)%g.W<x+i))
def Aa(g:Gnd)(x y k d j i:Int):List Nat:=(List.range g.T.length).filter λt=>Lf g x y k d t&&ui g x y j i t
theorem Nx{k d:Int}{t:Nat}(h:Lf g x y k d t=true):(x-d<=(t:Int)%g.W/\(t:Int)%g.W<=x+d)/\(y-d<=(t:Int)/g.W/\(t:Int)/g.W<=y+d):=by
 have:=(of_decide_eq_true h).1
 unfold Dc at this
 omega
theorem zwk(g:Gnd)(x y k d:Int):Aa g x y k d (-d) (-d)=[]:=by
 unfold Aa
 rw[Fd2]
 intro t _ hh
 obtain⟨h1,h2⟩:=(Fbc).1 hh
 have:=Nx h1
 have:=of_decide_eq_true h2
 omega
theorem zwl(g:Gnd)(x y k d j:Int):Aa g x y k d j (d+1)=Aa g x y k d (j+1) (-d):=Wo λt ht=>by
 rw[Fbc,Fbc]
 refine⟨λ⟨h1,h2⟩=>⟨h1,?_⟩,λ⟨h1,h2⟩=>⟨h1,?_⟩⟩
 ·have:=Nx h1
  have:=of_decide_eq_true h2
  exact decide_eq_true (by omega)
 ·have:=Nx h1
  have:=of_decide_eq_true h2
  exact decide_eq_true (by omega)
theorem zwo(g:Gnd)(x y k d:Int):Aa g x y k d (d+1) (-d)=Dk g x y k d:=Wo λt ht=>by
 rw[Fbc]
 refine⟨λh=>h.1,λh1=>⟨h1,?_⟩⟩
 have:=Nx h1
 exact decide_eq_true (by omega)
theorem zwj(hg:zn g){k d:Int}(ho:onG g (x+i) (y+j))(hd:Dc i j=d)(hi:i.tmod k=0)(hj:j.tmod k=0):Aa g x y k d j (i+1)=Aa g x y k d j i++[tl g (x+i) (y+j)]:=by
 obtain⟨e1,e2,e3,e4⟩:=Br hg ho
 have hW:1<=g.W:=hg.1.1
 refine p4 (m:=tl g (x+i) (y+j)) (λt hh=>?_) e2 (λt ht=>?_)
 ·obtain⟨h1,h2⟩:=(Fbc).1 hh
  have h2:=of_decide_eq_true h2
  have e5:=Fdh (t:Int) g.W
  rcases h2 with h2|⟨h2,h3⟩
  ·have b1:=Fdz (t:Int) (show 0<g.W by omega)
   have:g.W*((t:Int)/g.W+1)<=g.W*(y+j):=Fdd (by omega) (by omega)
   rw[Fdt,Int.mul_one]at this
   have:=ho.1.1
   omega
  ·rw[h2]at e5
   omega
 ·rw[Fbc,Fbc]
  constructor
  ·rintro⟨h1,h2⟩
   have h2:=of_decide_eq_true h2
   by_cases h3:(t:Int)/g.W=y+j/\(t:Int)%g.W=x+i
   ·right
    have:=(Oi hg ht).2
    rw[h3.1,h3.2]at this
    exact this.symm
   ·exact .inl ⟨h1,decide_eq_true (by omega)⟩
  ·rintro(⟨h1,h2⟩|rfl)
   ·have h2:=of_decide_eq_true h2
    exact⟨h1,decide_eq_true (by omega)⟩
   ·refine⟨decide_eq_true ?_,decide_eq_true ?_⟩
    ·rw[e3,e4,show x+i-x=i by omega,show y+j-y=j by omega]
     exact⟨hd,hi,hj⟩
    ·rw[e3,e4];omega
theorem zwm(hg:zn g){k d:Int}(hn:¬(Dc i j=d/\i.tmod k=0/\j.tmod k=0/\onG g (x+i) (y+j))):Aa g x y k d j (i+1)=Aa g x y k d j i:=Wo λt ht=>by
 rw[Fbc,Fbc]
 refine⟨λ⟨h1,h2⟩=>⟨h1,?_⟩,λ⟨h1,h2⟩=>⟨h1,?_⟩⟩
 ·have h2:=of_decide_eq_true h2
  refine decide_eq_true ?_
  by_cases h3:(t:Int)/g.W=y+j/\(t:Int)%g.W=x+i
  ·exfalso
   obtain⟨q1,q2,q3⟩:=of_decide_eq_true h1
   rw[h3.1,h3.2,show x+i-x=i by omega,show y+j-y=j by omega]at q1
   rw[h3.2,show x+i-x=i by omega]at q2
   rw[h3.1,show y+j-y=j by omega]at q3
   have:=(Oi hg ht).1
   rw[h3.1,h3.2]at this
   exact hn ⟨q1,q2,q3,this⟩
  ·omega
 ·have h2:=of_decide_eq_true h2
  exact decide_eq_true (by omega)
def Ao(g:Gnd)(f:Nat->Bool)(x y k d:Int):List Nat:=(Dk g x y k d).filter f
def ko(g:Gnd)(f:Nat->Bool)(x y k:Int):Nat->List Nat
 |0=>[]
 |d+1=>ko g f x y k d++Ao g f x y k d
def Im(g:Gnd)(f:Nat->Bool)(size goal:Int)(n:Nat):List Nat:=(ko g f (goal%g.W) (goal/g.W) (2*size+1) (g.W+g.H+1).toNat).take n
theorem gb(g:Gnd)(f:Nat->Bool)(x y k:Int)(d:Nat):∀e:Nat,∃m,ko g f x y k (d+e)=ko g f x y k d++m
 |0=>⟨[],by simp⟩
 |e+1=>by
  obtain⟨m,hm⟩:=gb g f x y k d e
  exact⟨m++Ao g f x y k ((d+e:Nat):Int),by rw[<-Fas,<-hm];rfl⟩
theorem zrw(hg:zn g){f:Nat->Bool}{k d:Int}(hx:0<=x/\x<g.W)(hy:0<=y/\y<g.H)(hd:max g.W g.H<=d):Ao g f x y k d=[]:=by
 unfold Ao Dk
 rw[List.filter_filter,Fd2]
 intro t ht hh
 obtain⟨h1,h2⟩:=(Fbc).1 hh
 have h3:=(of_decide_eq_true h2).1
 obtain⟨⟨o1,o2⟩,o3,o4⟩:=(Oi hg (Fa4.1 ht)).1
 unfold Dc at h3
 omega
theorem zrv{f:Nat->Bool}{k d:Int}(hd:¬k∣d):Ao g f x y k d=[]:=by
 unfold Ao Dk
 rw[List.filter_filter,Fd2]
 intro t ht hh
 obtain⟨h1,h2⟩:=(Fbc).1 hh
 obtain⟨h3,h4,h5⟩:=of_decide_eq_true h2
 have h4:=Int.dvd_of_tmod_eq_zero h4
 have h5:=Int.dvd_of_tmod_eq_zero h5
 refine hd ?_
 rw[<-h3]
 unfold Dc
 generalize(t:Int)%g.W-x=a at*
 generalize(t:Int)/g.W-y=b at*
 have ha:=(Int.dvd_neg (a:=k) (b:=a)).2 h4
 have hb:=(Int.dvd_neg (a:=k) (b:=b)).2 h5
 have mx:∀u v:Int,k∣u->k∣v->k∣max u v:=λu v h1 h2=>by
  by_cases h:u<=v
  ·rw[Int.max_eq_right h];exact h2
  ·rw[Int.max_eq_left (by omega)];exact h1
 exact mx _ _ (mx _ _ h4 ha) (mx _ _ h5 hb)
theorem zru{f:Nat->Bool}{k d:Nat}(hk:0<k)(hd:k∣d):ko g f x y k (d+k)=ko g f x y k d++Ao g f x y k d:=by
 have:∀e:Nat,e<k->ko g f x y k (d+(e+1))=ko g f x y k d++Ao g f x y k d:=by
  intro e
  induction e with
  |zero=>intro _;rfl
  |succ e ih=>
   intro he
   have h1:=ih (by omega)
   have h2:Ao g f x y k ((d+(e+1):Nat):Int)=[]:=zrv λhh=>by
    have hh:k∣d+(e+1):=by exact_mod_cast hh
    have:=(Nat.dvd_add_right hd).1 hh
    have:=Nat.le_of_dvd (by omega) this
    omega
   show ko g f x y k (d+(e+1))++Ao g f x y k ((d+(e+1):Nat):Int)=_
   rw[h1,h2,Fbp]
 have:=this (k-1) (by omega)
 rw[show k-1+1=k by omega]at this
 exact this
theorem zrs(hg:zn g){f:Nat->Bool}{size goal:Int}(hgl:0<=goal/\goal<g.W*g.H){d n:Nat}(h:n<=(ko g f (goal%g.W) (goal/g.W) (2*size+1) d).length\/max g.W g.H<=(d:Int)):
  (ko g f (goal%g.W) (goal/g.W) (2*size+1) d).take n=Im g f size goal n:=by
 have hW:1<=g.W/\g.W<=128:=hg.1
 have hH:1<=g.H/\g.H<=128:=hg.2.1
 have hx:0<=goal%g.W/\goal%g.W<g.W:=⟨Fc9 _ (by omega),Fdz _ (by omega)⟩
 have hy:0<=goal/g.W/\goal/g.W<g.H:=⟨Fcs hgl.1 (by omega),Fea (by omega) (by rw[Fcm];exact hgl.2)⟩
 unfold Im
 generalize goal%g.W=x at*
 generalize goal/g.W=y at*
 generalize 2*size+1=k at*
 generalize hm:(g.W+g.H+1).toNat=m at*
 have hmI:(m:Int)=g.W+g.H+1:=by omega
 -- from where nothing comes any more
 have flat:∀c:Nat,max g.W g.H<=(c:Int)->∀e:Nat,ko g f x y k (c+e)=ko g f x y k c:=λc hc e=>by
  induction e with
  |zero=>rfl
  |succ e ih=>
   show ko g f x y k (c+e)++Ao g f x y k ((c+e:Nat):Int)=_
   rw[ih,zrw hg hx hy (by omega),Fbp]
 rcases h with h|h
 ·by_cases hdm:d<=m
  ·obtain⟨r,hr⟩:=gb g f x y k d (m-d)
   rw[show d+(m-d)=m by omega]at hr
   rw[hr,Fbv h]
  ·have:=flat m (by omega) (d-m)
   rw[show m+(d-m)=d by omega]at this
   rw[this]
 ·by_cases hdm:d<=m
  ·have:=flat d h (m-d)
   rw[show d+(m-d)=m by omega]at this
   rw[this]
  ·have:=flat m (by omega) (d-m)
   rw[show m+(d-m)=d by omega]at this
   rw[this]
end
section
variable {n t:Nat} {g:Gnd}
def il(n:Nat)(f:Nat->Int):List AV:=(List.range n).map λt=>int (f t)
theorem qy(n:Nat)(f:Nat->Int):(il n f).length=n:=by simp[il]
theorem Cz{f:Nat->Int}(h:t<n):(il n f)[t]?=some (int (f t)):=by simp[il,h]
theorem Av{f:Nat->Int}(h:t<n):((il n f).drop (0+t*1)).head?=some (int (f t)):=by
 rw[Fci,show 0+t*1=t by omega,Cz h]
theorem uc{f:Nat->Bool}(h:t<n):((bl n f).drop (0+t*1)).head?=some (bool (f t)):=by
 rw[Fci,show 0+t*1=t by omega,Fq h]
theorem oj(n:Nat):List.replicate n (AV.s (.int .i64 0))=il n λ_=>0:=by
 unfold il
 rw[List.map_const',Fdj]
 rfl
def setI(f:Nat->Int)(t:Nat)(v:Int):Nat->Int:=λs=>if s=t then v else f s
theorem Lb(f:Nat->Int)(t:Nat)(v:Int):setI f t v t=v:=if_pos rfl
theorem Io(f:Nat->Int){s:Nat}(v:Int)(h:s≠t):setI f t v s=f s:=if_neg h
theorem zr4(f:Nat->Int)(t:Nat):setI f t (f t)=f:=funext λs=>by
 unfold setI
 split
 ·rename_i h;rw[h]
 ·rfl
theorem Sl(f:Nat->Int)(t:Nat)(v u:Int):setI (setI f t v) t u=setI f t u:=funext λs=>by
 unfold setI
 split<;>simp_all
theorem ol{f:Nat->Int}(h:t<n)(g:Nat->Int)(hg:∀s,s≠t->g s=f s):zu (il n f) t [int (g t)]=il n g:=by
 unfold zu
 apply Fb9
 intro s
 by_cases h1:s<t
 ·rw[Fas,Fam (by rw[Fao,qy];omega),Fb7 h1,Cz (by omega),Cz (by omega),hg s (by omega)]
 ·by_cases h2:s=t
  ·subst h2
   rw[Fas,Faw (by rw[Fao,qy];omega),Fao,qy,show s-min s n=0 by omega,Cz h]
   rfl
  ·rw[Faw (by rw[Fag,Fao,qy];simp;omega),Fag,Fao,qy,Fcj]
   by_cases h3:s<n
   ·have e:t+[int (g t)].length+(s-(min t n+[int (g t)].length))=s:=by simp;omega
    rw[e,Cz h3,Cz h3,hg s h2]
   ·rw[Fbn (by rw[qy];simp;omega),Fbn (by rw[qy];omega)]
theorem Gg{f:Nat->Int}(h:t<n)(v:Int):zu (il n f) t [int v]=il n (setI f t v):=by
 have:=ol h (setI f t v) (λs hs=>Io f v hs)
 rw[Lb]at this
 exact this
def ilL(n:Nat)(f:Nat->Int):List Int:=(List.range n).map f
theorem O8(n:Nat)(f:Nat->Int):(ilL n f).length=n:=by simp[ilL]
theorem ya1{f:Nat->Int}(h:t<n):(ilL n f)[t]'(by rw[O8];exact h)=f t:=by simp[ilL]
theorem yaz(n:Nat)(f:Nat->Int):(rws zz (ilL n f)).flatten=il n f:=by
 unfold rws ilL il
 rw[List.map_map]
 generalize List.range n=l
 induction l with
 |nil=>rfl
 |cons a l ih=>simp only[Fb6,Fcz,ih];rfl
theorem Lv{f g:Nat->Int}(h:∀t,t<n->f t=g t):il n f=il n g:=Fb0 λt ht=>by rw[h t (Fa4.1 ht)]
theorem yf7{f g:Nat->Bool}(h:∀t,t<n->f t=g t):bl n f=bl n g:=Fb0 λt ht=>by rw[h t (Fa4.1 ht)]
def gv(g:Gnd)(f:Nat->Int)(x y:Int):Int:=if onG g x y then f (tl g x y)else 0
def vx(g:Gnd)(f:Nat->Int)(x y:Int)(v:Int)(ws:List (Int×Int)):Int:=ws.foldl (λv d=>min v (gv g f (x+d.1) (y+d.2)+1)) v
theorem ov(hg:zn g){f:Nat->Int}(hf:∀t,t<g.T.length->0<=f t/\f t<=128)(x y:Int):0<=gv g f x y/\gv g f x y<=128:=by
 unfold gv
 split
 ·rename_i h;exact hf _ (Br hg h).2.1
 ·omega
theorem S7(hg:zn g){f:Nat->Int}(hf:∀t,t<g.T.length->0<=f t/\f t<=128)(x y:Int):∀(ws:List (Int×Int)) (v:Int),0<=v/\v<=128->0<=vx g f x y v ws/\vx g f x y v ws<=128
 |[],v,hv=>hv
 |d::r,v,hv=>by
  have:=ov hg hf (x+d.1) (y+d.2)
  exact S7 hg hf x y r (min v (gv g f (x+d.1) (y+d.2)+1)) (by omega)
theorem zxw(g:Gnd)(f:Nat->Int)(x y v:Int)(ws:List (Int×Int)){i:Nat}(hi:i<ws.length):vx g f x y v (ws.take (i+1))=min (vx g f x y v (ws.take i)) (gv g f (x+ws[i].1) (y+ws[i].2)+1):=by
 unfold vx
 rw[Fae hi,List.foldl_append]
 rfl
theorem zr5{f:Nat->Int}(hf:∀t,t<n->0<=f t/\f t<=128){v:Int}(hv:0<=v/\v<=128):∀s,s<n->0<=setI f t v s/\setI f t v s<=128:=λs hs=>by
 unfold setI
 split
 ·exact hv
 ·exact hf s hs
theorem ybe(hg:zn g)(f:Nat->Int)(v:Int){dx dy:Int}(hd:dx≠0\/dy≠0):gv g (setI f t v) ((t:Int)%g.W+dx) ((t:Int)/g.W+dy)=gv g f ((t:Int)%g.W+dx) ((t:Int)/g.W+dy):=by
 unfold gv
 split
 ·rename_i h
  obtain⟨_,_,h3,h4⟩:=Br hg h
  refine Io f v λe=>?_
  rw[e]at h3 h4
  omega
 ·rfl
def Ke:List (Int×Int):=[(-1,0),(-1,-1),(0,-1),(1,-1)]
def H1:List (Int×Int):=[(1,0),(1,1),(0,1),(-1,1)]
def Gy(d:Int×Int):List AV:=[int d.1,int d.2]
def Ig(g:Gnd)(f:Nat->Int)(ws:List (Int×Int))(t:Nat):Nat->Int:=setI f t (vx g f ((t:Int)%g.W) ((t:Int)/g.W) (f t) ws)
def vq(g:Gnd)(f:Nat->Int):Nat->Nat->Int
 |0=>f
 |i+1=>Ig g (vq g f i) Ke i
def Am(g:Gnd)(f:Nat->Int)(n:Nat):Nat->Nat->Int
 |0=>f
 |j+1=>Ig g (Am g f n j) H1 (n-1-j)
theorem fc(hg:zn g){f:Nat->Int}(hf:∀t,t<g.T.length->0<=f t/\f t<=128){ws:List (Int×Int)}(ht:t<g.T.length):∀s,s<g.T.length->0<=Ig g f ws t s/\Ig g f ws t s<=128:=
 zr5 hf (S7 hg hf _ _ _ _ (hf t ht))
theorem Sa(hg:zn g){f:Nat->Int}(hf:∀t,t<g.T.length->0<=f t/\f t<=128):∀i,i<=g.T.length->∀s,s<g.T.length->0<=vq g f i s/\vq g f i s<=128
 |0,_=>hf
 |i+1,hi=>fc hg (Sa hg hf i (by omega)) (by omega)
theorem ff(hg:zn g){f:Nat->Int}(hf:∀t,t<g.T.length->0<=f t/\f t<=128):∀i,i<=g.T.length->∀s,s<g.T.length->0<=Am g f g.T.length i s/\Am g f g.T.length i s<=128
 |0,_=>hf
 |i+1,hi=>fc hg (ff hg hf i (by omega)) (by omega)
theorem fg(g:Gnd)(f:Nat->Int):∀i s,i<=s->vq g f i s=f s
 |0,_,_=>rfl
 |i+1,s,h=>by
  show setI _ i _ s=_
  rw[Io _ _ (by omega),fg g f i s (by omega)]
theorem Ng(g:Gnd)(f:Nat->Int):∀i s,s<i->vq g f i s=vq g f (s+1) s
 |0,_,h=>absurd h (Fbf _)
 |i+1,s,h=>by
  by_cases e:s=i
  ·subst e;rfl
  ·show setI _ i _ s=_
   rw[Io _ _ e,Ng g f i s (by omega)]
theorem fe(g:Gnd)(f:Nat->Int)(n:Nat):∀j s,s+j<n->Am g f n j s=f s
 |0,_,_=>rfl
 |j+1,s,h=>by
  show setI _ (n-1-j) _ s=_
  rw[Io _ _ (by omega),fe g f n j s (by omega)]
theorem Nf(g:Gnd)(f:Nat->Int)(n:Nat):∀j s,s<n->j<=n->n<=s+j->Am g f n j s=Am g f n (n-1-s+1) s
 |0,s,h,_,h2=>absurd h2 (by omega)
 |j+1,s,h,h1,h2=>by
  by_cases e:s=n-1-j
  ·have:j+1=n-1-s+1:=by omega
   rw[this]
  ·show setI _ (n-1-j) _ s=_
   rw[Io _ _ e,Nf g f n j s h (by omega) (by omega)]
theorem zxy(g:Gnd)(f:Nat->Int)(x y v:Int):vx g f x y v Ke=m5 v (gv g f (x-1) y) (gv g f (x-1) (y-1)) (gv g f x (y-1)) (gv g f (x+1) (y-1)):=by
 unfold vx Ke m5
 simp only[Fcq,List.foldl_nil,Fcc,<-Fdy]
theorem zxx(g:Gnd)(f:Nat->Int)(x y v:Int):vx g f x y v H1=m5 v (gv g f (x+1) y) (gv g f (x+1) (y+1)) (gv g f x (y+1)) (gv g f (x-1) (y+1)):=by
 unfold vx H1 m5
 simp only[Fcq,List.foldl_nil,Fcc,<-Fdy]
def Co(g:Gnd)(o:Nat->Bool):Nat->Int:=Am g (vq g (λt=>if o t then 128 else 0) g.T.length) g.T.length g.T.length
theorem zwc(hg:zn g)(o:Nat->Bool)(ht:t<g.T.length)(s:Nat)(hs:s<=127):(s:Int)<Co g o t↔sqP g o s ((t:Int)%g.W) ((t:Int)/g.W):=by
 have hW:1<=g.W:=hg.1.1
 obtain⟨ho,he⟩:=Oi hg ht
 have key:=yfk (g:=g) (f:=o) (A:=gv g (vq g (λt=>if o t then 128 else 0) g.T.length)) (B:=gv g (Co g o))
  (λx y h=>if_neg h) (λx y h=>if_neg h) (λx y h=>?_) (λx y h=>?_) ho s hs
 ·rw[<-key]
  unfold gv
  rw[if_pos ho,he]
 ·obtain⟨e1,e2,e3,e4⟩:=Br hg h
  have nb:∀dx dy:Int,(dy=-1\/dy=0/\dx=-1)->dx<=1->gv g (vq g (λt=>if o t then 128 else 0) (tl g x y)) (x+dx) (y+dy)=gv g (vq g (λt=>if o t then 128 else 0) g.T.length) (x+dx) (y+dy):=λdx dy hd hx=>by
   unfold gv
   split
   ·rename_i h2
    obtain⟨f1,f2,f3,f4⟩:=Br hg h2
    have hlt:tl g (x+dx) (y+dy)<tl g x y:=by
     have hb:=h.1
     have hb2:=h2.1
     rcases hd with rfl|⟨rfl,rfl⟩
     ·have:g.W*(y+-1)=g.W*y-g.W:=by rw[Fdt];omega
      rw[this]at f1
      have hne:(tl g (x+dx) (y+-1):Int)≠tl g x y:=λe=>by
       rw[e,e4]at f4
       omega
      omega
     ·rw[Fcc]at f1⊢
      omega
    rw[Ng g _ _ _ hlt,Ng g _ _ _ f2]
   ·rfl
  have h1:gv g (vq g (λt=>if o t then 128 else 0) g.T.length) x y=vx g (vq g (λt=>if o t then 128 else 0) (tl g x y)) x y (if o (tl g x y)then 128 else 0) Ke:=by
   unfold gv
   rw[if_pos h,Ng g _ _ _ e2]
   show setI _ _ _ _=_
   rw[Lb,e3,e4,fg g _ _ _ (Fak _)]
  rw[h1,zxy]
  have n1:=nb (-1) 0 (by omega) (by decide)
  have n2:=nb (-1) (-1) (by omega) (by decide)
  have n3:=nb 0 (-1) (by omega) (by decide)
  have n4:=nb 1 (-1) (by omega) (by decide)
  rw[Fcc]at n1 n3
  rw[<-Fdy]at n1 n2 n3 n4
  rw[<-Fdy]at n2
  rw[n1,n2,n3,n4]
 ·obtain⟨e1,e2,e3,e4⟩:=Br hg h
  have hj:g.T.length-1-(g.T.length-1-tl g x y)=tl g x y:=by omega
  unfold Co
  generalize hF:vq g (λt=>if o t then 128 else 0) g.T.length=F
  have nb:∀dx dy:Int,(dy=1\/dy=0/\dx=1)->-1<=dx->gv g (Am g F g.T.length (g.T.length-1-tl g x y)) (x+dx) (y+dy)=gv g (Am g F g.T.length g.T.length) (x+dx) (y+dy):=λdx dy hd hx=>by
   unfold gv
   split
   ·rename_i h2
    obtain⟨f1,f2,f3,f4⟩:=Br hg h2
    have hlt:tl g x y<tl g (x+dx) (y+dy):=by
     have hb:=h.1
     have hb2:=h2.1
     rcases hd with rfl|⟨rfl,rfl⟩
     ·have:g.W*(y+1)=g.W*y+g.W:=by rw[Fdt];omega
      rw[this]at f1
      have hne:(tl g (x+dx) (y+1):Int)≠tl g x y:=λe=>by
       rw[e,e4]at f4
       omega
      omega
     ·rw[Fcc]at f1⊢
      omega
    rw[Nf g _ _ _ _ f2 (by omega) (by omega),Nf g _ _ _ _ f2 (Fak _) (by omega)]
   ·rfl
  have h1:gv g (Am g F g.T.length g.T.length) x y=vx g (Am g F g.T.length (g.T.length-1-tl g x y)) x y (gv g F x y) H1:=by
   unfold gv
   rw[if_pos h,if_pos h,Nf g _ _ _ _ e2 (Fak _) (by omega)]
   show setI _ _ _ _=_
   rw[hj,Lb,e3,e4,fe g _ _ _ _ (by omega)]
  rw[h1,zxx]
  have n1:=nb 1 0 (by omega) (by decide)
  have n2:=nb 1 1 (by omega) (by decide)
  have n3:=nb 0 1 (by omega) (by decide)
  have n4:=nb (-1) 1 (by omega) (by decide)
  rw[Fcc]at n1 n3
  rw[<-Fdy]at n4
  rw[n1,n2,n3,n4]
def sqB(g:Gnd)(f:Nat->Bool)(s:Nat)(x y:Int):Bool:=(List.range (2*s+1)).all λa=>(List.range (2*s+1)).all λb=>decide (onG g (x-s+a) (y-s+b))&&f (tl g (x-s+a) (y-s+b))
theorem zrh{f:Nat->Bool}{s:Nat}{x y:Int}:sqB g f s x y=true↔sqP g f s x y:=by
 unfold sqB
 rw[Fb5]
 constructor
 ·intro h a b h1 h2 h3 h4
  have h5:=h (a+s).toNat (Fa4.2 (by omega))
  rw[Fb5]at h5
  have h6:=h5 (b+s).toNat (Fa4.2 (by omega))
  rw[show x-s+((a+s).toNat:Int)=x+a by omega,show y-s+((b+s).toNat:Int)=y+b by omega,Fbc]at h6
  exact⟨of_decide_eq_true h6.1,h6.2⟩
 ·intro h a ha
  have ha:=Fa4.1 ha
  rw[Fb5]
  intro b hb
  have hb:=Fa4.1 hb
  have:=h (a-s) (b-s) (by omega) (by omega) (by omega) (by omega)
  rw[show x-s+(a:Int)=x+(a-s) by omega,show y-s+(b:Int)=y+(b-s) by omega,Fbc]
  exact⟨decide_eq_true this.1,this.2⟩
def zx(g:Gnd)(l:List Bld)(c s:Int)(t:Nat):Bool:=sqB g (yi g l c) s.toNat ((t:Int)%g.W) ((t:Int)/g.W)
theorem ybn(hg:zn g)(l:List Bld)(c:Int){s:Int}(hs:0<=s/\s<=3)(ht:t<g.T.length):decide (s<Co g (yi g l c) t)=zx g l c s t:=by
 rw[Fbr,decide_eq_true_iff]
 unfold zx
 rw[zrh,<-zwc hg _ ht _ (by omega)]
 omega
def o7(g:Gnd)(l:List Bld)(c s:Int):AV:=lst 1 vd (blL g.T.length (zx g l c s))
end
def dirL:List (Int×Int):=[(0,-1),(1,0),(0,1),(-1,0),(1,-1),(1,1),(-1,1),(-1,-1)]
def Hl(g:Gnd)(x y:Int)(d:Int×Int):Int:=if onG g (x+d.1) (y+d.2)then x+d.1+g.W*(y+d.2)else -1
def Dq(g:Gnd)(t:Nat):List Int:=dirL.map (Hl g ((t:Int)%g.W) ((t:Int)/g.W))
theorem Ol(g:Gnd)(t:Nat):(Dq g t).length=8:=by simp[Dq,dirL]
theorem zyx{g:Gnd}(hg:zn g)(x y:Int)(d:Int×Int):Hl g x y d=-1/\¬onG g (x+d.1) (y+d.2)\/onG g (x+d.1) (y+d.2)/\Hl g x y d=(tl g (x+d.1) (y+d.2):Nat)/\tl g (x+d.1) (y+d.2)<g.T.length:=by
 unfold Hl
 split
 ·rename_i h
  exact .inr ⟨h,(Br hg h).1.symm,(Br hg h).2.1⟩
 ·rename_i h
  exact .inl ⟨rfl,h⟩
theorem zyw{g:Gnd}(hg:zn g){t:Nat}{u:Int}(h:u∈Dq g t):u=-1\/∃m:Nat,u=m/\m<g.T.length:=by
 unfold Dq at h
 obtain⟨d,_,rfl⟩:=Fac.1 h
 rcases zyx hg ((t:Int)%g.W) ((t:Int)/g.W) d with⟨q1,_⟩|⟨_,q2,q3⟩
 ·exact .inl q1
 ·exact .inr ⟨_,q2,q3⟩
section
variable {g:Gnd} {c:Int} {t way goal:Nat}
def yd(g:Gnd)(t way:Nat):Int:=(Dq g t).getD way (-1)
def C9(g:Gnd)(c:Int)(t:Nat):Int:=wv c (g.T.getD t 5).toNat
def ky(ok:Nat->Bool)(u:Int):Bool:=decide (0<=u)&&ok u.toNat
def Hc(way:Nat):Nat:=way-4
def Hb(way:Nat):Nat:=(way-3)%4
def qe(g:Gnd)(ok:Nat->Bool)(c:Int)(t way:Nat):Int:=
 if ky ok (yd g t way)then
  (if way<4 then 5*(C9 g c t+C9 g c (yd g t way).toNat)
   else if ky ok (yd g t (Hc way))/\ky ok (yd g t (Hb way))then 7*(C9 g c t+C9 g c (yd g t way).toNat)else 0)
 else 0
def wk(g:Gnd)(ok:Nat->Bool)(c:Int)(t u:Nat)(k:Int):Prop:=ok t=true/\t<g.T.length/\∃way,way<8/\yd g t way=(u:Int)/\ok u=true/\k=qe g ok c t way/\0<k
theorem Ps{ok:Nat->Bool}:∀t u k,wk g ok c t u k->0<k:=λt u k h=>by
 obtain⟨_,_,w,_,_,_,_,h⟩:=h
 exact h
theorem P7(hg:zn g)(hw:way<8):yd g t way=-1\/∃u:Nat,yd g t way=u/\u<g.T.length:=by
 unfold yd
 have h8:way<(Dq g t).length:=by rw[Ol];exact hw
 rw[Fa6,Fab h8]
 exact zyw hg (Faa h8)
theorem Wg{ok:Nat->Bool}{u:Int}(h:ky ok u=true):0<=u/\ok u.toNat=true:=by
 unfold ky at h
 simpa using h
theorem Se{ok:Nat->Bool}(h:qe g ok c t way≠0):ky ok (yd g t way)=true:=by
 unfold qe at h
 split at h
 ·assumption
 ·exact absurd rfl h
theorem ydp{ok:Nat->Bool}(ht:ok t=true)(htl:t<g.T.length)(hw:way<8)(h:0<qe g ok c t way):wk g ok c t (yd g t way).toNat (qe g ok c t way):=by
 obtain⟨h1,h2⟩:=Wg (Se (g:=g) (ok:=ok) (c:=c) (t:=t) (way:=way) (by omega))
 exact⟨ht,htl,way,hw,by omega,h2,rfl,h⟩
theorem Ob(c:Int)(t:Nat):0<=wv c t/\wv c t<=6:=by
 have h:∀l∈[[2,1,3,5,0,0],[2,1,6,0,0,0],[2,1,0,3,2,0]],∀t:Nat,0<=(l:List Int).getD t 0/\(l:List Int).getD t 0<=6:=by
  intro l hl t
  simp only[Fat,Fbw,or_false]at hl
  by_cases h6:t<6
  ·have:t=0\/t=1\/t=2\/t=3\/t=4\/t=5:=by omega
   rcases hl with rfl|rfl|rfl<;>rcases this with rfl|rfl|rfl|rfl|rfl|rfl<;>decide
  ·rcases hl with rfl|rfl|rfl<;>(rw[Fa6,Fbn (by simp;omega)];decide)
 unfold wv
 split
 ·exact h _ (by simp) t
 ·split
  ·exact h _ (by simp) t
  ·exact h _ (by simp) t
theorem fo(g:Gnd)(ok:Nat->Bool)(c:Int)(t way:Nat):0<=qe g ok c t way/\qe g ok c t way<=84:=by
 have h1:=Ob c (g.T.getD t 5).toNat
 have h2:=Ob c (g.T.getD (yd g t way).toNat 5).toNat
 unfold qe C9
 split
 ·split
  ·omega
  ·split<;>omega
 ·omega
open Classical in
noncomputable def jj(g:Gnd)(ok:Nat->Bool)(c:Int)(goal:Nat):Nat->Int:=
 if ok goal=true then(if h:∃d,FarOK (wk g ok c) goal d then h.choose else λ_=>-1)else λ_=>-1
theorem p8{ok:Nat->Bool}(hok:ok goal=true){d:Nat->Int}(h:FarOK (wk g ok c) goal d):jj g ok c goal=d:=by
 unfold jj
 rw[if_pos hok]
 have hx:∃d,FarOK (wk g ok c) goal d:=⟨d,h⟩
 rw[dif_pos hx]
 exact ydb Ps hx.choose_spec h
theorem ydc{ok:Nat->Bool}(hok:ok goal=false):jj g ok c goal=λ_=>-1:=by
 unfold jj
 rw[if_neg (by simp[hok])]
noncomputable def xk(g:Gnd)(ok:Nat->Bool)(c:Int)(d:Nat->Int)(t:Nat):Int:=
 if d t<=0 then -1 else match(List.range 8).find? λway=>decide (0<qe g ok c t way/\0<=d (yd g t way).toNat/\qe g ok c t way+d (yd g t way).toNat=d t)with
  |some way=>(way:Int)
  |none=>-1
end
theorem ot{F N S:Store}(hd:zh F N):((F.un N).un S).Has (F.un S):=by
 refine⟨λb y h=>?_,λb x h=>?_⟩
 ·rcases dz h with h1|⟨h1,h2⟩
  ·exact zf h1
  ·have h3:(F.un N).obj b=some y:=z8 hd h2
   show(match S.obj b with|some y=>some y|none=>(F.un N).obj b)=some y
   rw[h1];exact h3
 ·rcases dw h with h1|⟨h1,h2⟩
  ·exact D2 h1
  ·have h3:(F.un N).tok b=some x:=K1 hd h2
   show(match S.tok b with|some y=>some y|none=>(F.un N).tok b)=some x
   rw[h1];exact h3
theorem Dj{l:List Unt}(hr:yg l){a b:Nat}(hab:a<b)(hb:b<l.length):(l[a]'(by omega)).id<l[b].id:=by
 induction b with
 |zero=>omega
 |succ b ih=>
  have h3:=hr (b+1) hb (by omega)
  simp only[Fdv]at h3
  by_cases e:a=b
  ·subst e;exact h3
  ·have:=ih (by omega) (by omega)
   omega
theorem Gb{l:List Unt}(hr:yg l){u v:Unt}(hu:u∈l)(hv:v∈l)(h:u.id=v.id):u=v:=by
 obtain⟨a,ha,rfl⟩:=Fai hu
 obtain⟨b,hb,rfl⟩:=Fai hv
 rcases Fep a b with q|q|q
 ·have:=Dj hr q hb;omega
 ·subst q;rfl
 ·have:=Dj hr q ha;omega
def Bx(w:Wld)(L:List Ent):Prop:=∀e,e∈L↔∃u∈w.U,u.inn=0/\e=(u.id,u.pos)
theorem Hg{w:Wld}{L:List Ent}(h:Bx w L)(hn:∀u∈w.U,u.pos.ok):∀e∈L,e.2.ok:=λe he=>by
 obtain⟨u,hu,_,rfl⟩:=(h e).1 he
 exact hn u hu
def Hk(w:Wld)(p:Vc)(r:Int)(us:List Unt):Prop:=∀u,u∈us↔(u∈w.U/\u.inn=0)/\near p u.pos r=true
theorem mc{w:Wld}{L:List Ent}(hr:yg w.U)(hL:Bx w L){p:Vc}{r:Int}{ns:List Int}(hn:Mr L p r ns){us:List Unt}(h1:us.map (·.id)=ns)(h2:∀u∈us,u∈w.U/\u.inn=0):Hk w p r us:=by
 intro u
 constructor
 ·intro hu
  refine⟨h2 u hu,?_⟩
  have:u.id∈ns:=by rw[<-h1];exact Fac.2 ⟨u,hu,rfl⟩
  obtain⟨e,he,h3,h4⟩:=(hn.2 _).1 this
  obtain⟨v,hv,_,rfl⟩:=(hL e).1 he
  rw[Gb hr (h2 u hu).1 hv h3.symm]
  exact h4
 ·rintro⟨⟨h3,h4⟩,h5⟩
  have:u.id∈ns:=(hn.2 _).2 ⟨(u.id,u.pos),(hL _).2 ⟨u,h3,h4,rfl⟩,rfl,h5⟩
  rw[<-h1]at this
  obtain⟨v,hv,h6⟩:=Fac.1 this
  rw[Gb hr h3 (h2 v hv).1 h6.symm]
  exact hv
theorem Bi(k:Int):0<zp k/\zp k<=81920:=by unfold zp;split<;>(try split)<;>omega
theorem I9(k:Int):yu k=0\/yu k=1\/yu k=2:=by unfold yu;split<;>(try split)<;>(try split)<;>omega
theorem l9{a b:Vc}{r r':Int}(h:r<=r')(hn:near a b r=true):near a b r'=true:=by
 unfold near at*
 rw[decide_eq_true_iff]at*
 have:r*r<=r'*r':=Fbk h h (by omega) (by omega)
 omega
theorem sw{w:Wld}{id k:Int}{q:Vc}{us:List Unt}(hf:Ag w.G w.B (yu k) q (zp k))(hus:Hk w q (zp k+81920) us):
  qf w id k q↔∀u∈us,u.id≠id->jx q (zp k) u.pos (zp u.kind)=true:=by
 constructor
 ·intro h u hu hne
  have:=(hus u).1 hu
  exact h.2 u this.1.1 this.1.2 hne
 ·intro h
  refine⟨hf,λu hu h0 hne=>?_⟩
  unfold jx
  cases hc:near q u.pos (zp k+zp u.kind)with
  |false=>rfl
  |true=>
   have h1:=l9 (r':=zp k+81920) (by have:=Bi u.kind;omega) hc
   have:=h u ((hus u).2 ⟨⟨hu,h0⟩,h1⟩) hne
   unfold jx at this
   rw[hc]at this
   exact this
end Go.V
namespace Go.V
def yk{α:Type}(f:α->AV)(e:Int×α):AV×AV:=(int e.1,f e.2)
def yl{α:Type}(cs:List (Int×α))(k:Int):Option α:=(cs.find? λe=>k==e.1).map (·.2)
def yh{α:Type}:List (Int×α)->Int->α->List (Int×α)
 |[],k,v=>[(k,v)]
 |e::l,k,v=>if k==e.1 then(k,v)::l else e::yh l k v
theorem Wm{α:Type}(f:α->AV)(cs:List (Int×α))(k:Int):(cs.map (yk f)).find? (qA k)=(cs.find? λe=>k==e.1).map (yk f):=by
 rw[List.find?_map];rfl
theorem Fe{α:Type}(f:α->AV)(cs:List (Int×α))(k:Int)(z:AV):Ct false z ((cs.map (yk f)).find? (qA k))=((yl cs k).map f).getD z:=by
 rw[Wm]
 unfold yl
 cases cs.find? λe=>k==e.1 with
 |none=>rfl
 |some e=>rfl
theorem lh{α:Type}(f:α->AV)(k:Int)(v:α):∀cs:List (Int×α),
  (match(cs.map (yk f)).findIdx? (qA k)with|some i=>(cs.map (yk f)).set i (int k,f v)|none=>cs.map (yk f)++[(int k,f v)])=(yh cs k v).map (yk f)
 |[]=>rfl
 |e::l=>by
  have ih:=lh f k v l
  rw[Fb6,Fdx]
  unfold yh
  by_cases h:k==e.1
  ·have h2:qA k (yk f e)=true:=h
   rw[h2]
   simp only[h,if_true,List.set_cons_zero,Fb6]
   rfl
  ·have h:(k==e.1)=false:=by simpa using h
   have h2:qA k (yk f e)=false:=h
   rw[h2]
   simp only[h,if_false,Fb6]
   cases hx:(l.map (yk f)).findIdx? (qA k)with
   |none=>rw[hx]at ih;simp at ih⊢;exact ih
   |some i=>rw[hx]at ih;simp at ih⊢;exact ih
theorem Hn{α:Type}(f:α->AV)(cs:List (Int×α))(bs:List Nat)(clk:Nat)(k:Int)(v:α):∃bs' clk',j3 (cs.map (yk f)) bs clk (qA k) (int k) (f v)=.map ((yh cs k v).map (yk f)) bs' clk':=by
 have h:=lh f k v cs
 unfold j3
 cases hx:(cs.map (yk f)).findIdx? (qA k)with
 |none=>rw[hx]at h;exact⟨_,_,by rw[<-h]⟩
 |some i=>rw[hx]at h;exact⟨_,_,by rw[<-h]⟩
theorem Ax{α:Type}(k:Int)(v:α)(j:Int):∀cs:List (Int×α),yl (yh cs k v) j=if j=k then some v else yl cs j
 |[]=>by
  unfold yh yl
  by_cases h:j=k<;>simp[h]
 |e::l=>by
  have ih:=Ax k v j l
  unfold yl at ih⊢
  by_cases h:k=e.1
  ·have h1:(k==e.1)=true:=by simpa using h
   rw[show yh (e::l) k v=(k,v)::l by unfold yh;simp[h1]]
   by_cases h2:j=k
   ·simp[h2]
   ·have e1:(j==k)=false:=by simpa using h2
    have e2:(j==e.1)=false:=by rw[<-h];exact e1
    rw[Fdf,Fdf,if_neg h2]
    simp only[e1,e2]
  ·have h1:(k==e.1)=false:=by simpa using h
   rw[show yh (e::l) k v=e::yh l k v by rw[yh];simp[h1]]
   rw[Fdf,Fdf]
   by_cases h2:j=e.1
   ·have e1:(j==e.1)=true:=by simpa using h2
    simp only[e1]
    rw[if_neg (by omega)]
   ·have e1:(j==e.1)=false:=by simpa using h2
    simp only[e1]
    exact ih
end Go.V
namespace Go.V
theorem Lu{l:List Unt}{i:Nat}(hi:i<l.length)(id:Int):((zv (l.take (i+1)) id).length:Int)=((zv (l.take i) id).length:Int)+(if l[i].inn=id then 1 else 0):=by
 unfold zv
 rw[Fae hi,Fc5,Fbe,Fag]
 by_cases h:l[i].inn=id
 ·simp[h]
 ·simp[h]
theorem O4{l:List Unt}(i:Nat)(id:Int):(zv (l.take i) id).length<=(zv l id).length:=by
 have h:(zv l id).length=(zv (l.take i) id).length+(zv (l.drop i) id).length:=by
  unfold zv
  rw[<-Fag,<-Fbe,<-Fc5,Fb8]
 omega
def Sp(w:Wld)(i:Nat):Prop:=
 (∀j,(h:j<w.U.length)->j<i->w.U[j].inn≠0->∃x∈w.U,x.id=w.U[j].inn/\(x.inn=0/\x.owner=w.U[j].owner)/\xi w.U[j].kind=0/\w.U[j].pos=(0,0)/\w.U[j].goal=-1/\w.U[j].state=0)∧
 ∀x∈w.U,x.id≠0->((zv (w.U.take i) x.id).length:Int)<=xi x.kind
theorem zwr{w:Wld}(h:Sp w w.U.length):∀u∈w.U,u.inn≠0->wu w u:=by
 intro u hu hne
 obtain⟨j,hj,rfl⟩:=Fai hu
 obtain⟨x,hx,h1,h2,h3,h4,h5,h6⟩:=h.1 j hj hj hne
 have:=h.2 x hx (by rw[h1];exact hne)
 rw[Faz,h1]at this
 exact⟨x,hx,h1,h2,this,h3,h4,h5,h6⟩
theorem I8(k:Int):0<=xi k/\xi k<=4:=by unfold xi;split<;>(try split)<;>(try split)<;>omega
end Go.V
namespace Go.V
def Fw(w:Wld)(i:Nat):Prop:=∀j,(h:j<w.U.length)->j<i->(xt w w.U[j]/\∀b∈w.B,b.id≠w.U[j].id)/\(0<j->(w.U[j-1]'(by omega)).id<w.U[j].id)
theorem dq{w:Wld}(h:Fw w w.U.length):Gz w:=by
 refine⟨λj hj h0=>(h j hj hj).2 h0,λu hu=>?_⟩
 obtain⟨j,hj,rfl⟩:=Fai hu
 exact(h j hj hj).1
theorem dp{w:Wld}(h:Gz w)(i:Nat):Fw w i:=λj hj _=>⟨h.2 _ (Faa hj),h.1 j hj⟩
end Go.V
namespace Go.V
def RowsO{α:Type}(k:Nat)(f:α->List AV)(st:Store)(v:AV)(l:List α):Prop:=
 (v=.s (.slice none 0 0)/\l=[])\/∃b cap L,v=.s (.slice (some ⟨b,0,none⟩) l.length cap)/\st.obj b=some (.cells ((rws f l).flatten++L))/\l.length<=cap/\cap*k<=l.length*k+L.length/\cap<=9223372036854775807
section
variable {α:Type} {f:α->List AV} {k:Nat}
theorem kr(hf:∀x,(f x).length=k)(l:List α):(rws f l).flatten.length=l.length*k:=by
 induction l with
 |nil=>simp[rws]
 |cons a l ih=>
  show(f a++(rws f l).flatten).length=(l.length+1)*k
  rw[Fag,hf,ih,Fd9];omega
theorem F9(a b:List α):(rws f (a++b)).flatten=(rws f a).flatten++(rws f b).flatten:=by
 rw[<-g9,Fef]
theorem No{l:List α}{i:Nat}(hi:i<l.length):(rws f l).flatten=(rws f (l.take i)).flatten++(f l[i]++(rws f (l.drop (i+1))).flatten):=by
 have e:l=l.take i++(l[i]::l.drop (i+1)):=by
  rw[<-Fen hi,Fb8]
 have e2:(rws f (l[i]::l.drop (i+1))).flatten=f l[i]++(rws f (l.drop (i+1))).flatten:=rfl
 rw[<-e2,<-F9,<-e]
theorem zri{X Y ys:List AV}{j:Nat}(h:j+ys.length<=X.length):zu (X++Y) j ys=zu X j ys++Y:=by
 unfold zu
 rw[Fbv (by omega),List.drop_append_of_le_length (by omega)]
 simp only[Fas]
theorem fz(hf:∀x,(f x).length=k){l:List α}{i j:Nat}(hi:i<l.length){x':α}{ys L:List AV}(hj:j+ys.length<=k)(hx:f x'=zu (f l[i]) j ys):
  zu ((rws f l).flatten++L) (i*k+j) ys=(rws f (l.set i x')).flatten++L:=by
 have h1:(rws f (l.take i)).flatten.length=i*k:=by rw[kr hf,Fao,Fdu (by omega)]
 have hi2:i<(l.set i x').length:=by rw[Fa8];exact hi
 rw[No hi,No hi2,Fas,Fas,<-h1,fy]
 have e1:(l.set i x').take i=l.take i:=by rw[List.take_set_of_le (Fak i)]
 have e2:(l.set i x').drop (i+1)=l.drop (i+1):=by rw[List.drop_set_of_lt (by omega)]
 rw[e1,e2,List.getElem_set_self,hx]
 have h3:=hf l[i]
 rw[Fas,zri (by omega)]
 simp only[Fas]
theorem RowsO.un{a g:Store}{v:AV}{l:List α}(h:RowsO k f g v l):RowsO k f (a.un g) v l:=by
 rcases h with h|⟨b1,cap,L,h1,h2,h3⟩
 ·exact .inl h
 ·exact .inr ⟨b1,cap,L,h1,zf h2,h3⟩
theorem RowsO.unL{a g:Store}{v:AV}{l:List α}(h:RowsO k f a v l)(hd:zh a g):RowsO k f (a.un g) v l:=by
 rcases h with h|⟨b1,cap,L,h1,h2,h3⟩
 ·exact .inl h
 ·exact .inr ⟨b1,cap,L,h1,z8 hd h2,h3⟩
theorem RowsO.at{st:Store}{v:AV}{l:List α}(h:RowsO k f st v l){i:Nat}(hi:i<l.length):
  ∃b cap L,v=.s (.slice (some ⟨b,0,none⟩) l.length cap)/\st.obj b=some (.cells ((rws f l).flatten++L))/\l.length<=cap/\cap*k<=l.length*k+L.length/\cap<=9223372036854775807:=by
 rcases h with⟨_,rfl⟩|h
 ·exact absurd hi (Fbf i)
 ·exact h
theorem RowsO.borrow{st:Store}{v:AV}{l:List α}(hf:∀x,(f x).length=k)(hs:∀x,∀y∈f x,∃u,y=AV.s u/\qo u=true)(hv:RowsO k f st v l){Oth M:Nat->Nat->Prop}{w:World}(sto:StoreOK st Oth M w){x:Value}(hx:VRel w (λb o=>M b o\/Oth b o) v x):
  VRel w (λb o=>(M b o\/Oth b o)/\st.obj b=none) (lst k f l) x:=by
 rcases hv with⟨rfl,rfl⟩|⟨b,cap,L,rfl,ho,h1,h2,h3⟩
 ·cases hx
  exact AV.le_nil k _ _ _ (.s _)
 ·cases hx
  exact tu (sto.obj b _ ho).1 (λo hT=>by rw[ho]at hT;exact absurd hT.2 (by simp)) (zm l) h1
   (λrow hr=>by obtain⟨n,_,rfl⟩:=Fac.1 hr;exact hf n) (λrow hr y hy=>by
    obtain⟨n,_,rfl⟩:=Fac.1 hr
    exact hs n y hy)
theorem ygm{P:Program}{c:Cfg}{e:TypeId}{ie:TI}(hie:c.I e=some ie)(hf:∀x,(f x).length=ie.size)(hby:ie.bytes<=1000){st:Store}{v:AV}{l:List α}(hv:RowsO ie.size f st v l)(x:α){src:AV}(hsrc:vi ie.size (.av src)=some [f x])(hlen:l.length<=1000000000){K:Ja}
  (h:∀b cap L,(Fresh st b\/∃c0,v=.s (.slice (some ⟨b,0,none⟩) l.length c0))->(l++[x]).length<=cap->cap*ie.size<=(l++[x]).length*ie.size+L.length->cap<=9223372036854775807->
   K (.s (.slice (some ⟨b,0,none⟩) (l++[x]).length cap)) (st.sO b (.cells ((rws f (l++[x])).flatten++L)))):appendK P c st e (.av v) (.av src) K:=by
 refine⟨.inr ⟨v,_,rfl,rfl,?_⟩⟩
 have hl:(l++[x]).length=l.length+1:=by simp
 have hfl:=kr hf l
 have hmul:(l.length+1)*ie.bytes<=1000000001*1000:=Fd6 (by omega) hby
 have happ:(rws f (l++[x])).flatten=(rws f l).flatten++f x:=by
  rw[F9]
  show _++(f x++[])=_
  rw[Fbp]
 rcases hv with⟨rfl,rfl⟩|⟨b,cap,L,rfl,ho,h1,h2,h3⟩
 ·refine uw hie hsrc ⟨by simp at hmul⊢;omega,by simp⟩ (by simp) (λb' cap' hb hc hc2=>?_)
  have:=h b' cap' (List.replicate ((cap'-[f x].length)*ie.size) .any) (.inl hb) (by simpa using hc) (by
   simp only[Fbm,Fc0,Fa1,<-Fb2]
   exact Fa7 _ (by omega)) hc2
  exact this
 ·refine b7 hie (cap:=cap) ho (by rw[Fag,hfl];exact h2) h1 hsrc ⟨by simp;omega,by simp;omega⟩ (λhc=>?_) (λhc b' cap' hb hc1 hc2=>?_)
  ·have hc:l.length+1<=cap:=hc
   have hcm:(l.length+1)*ie.size<=cap*ie.size:=Fa7 _ hc
   rw[Fd9]at hcm
   have e1:zu ((rws f l).flatten++L) (l.length*ie.size) [f x].flatten=(rws f (l++[x])).flatten++L.drop ie.size:=by
    rw[Cn hfl,happ]
    simp[hf x]
   have:=h b cap (L.drop ie.size) (.inr ⟨cap,rfl⟩) (by omega) (by rw[hl,Fd9,Fck];omega) h3
   rw[hl,<-e1]at this
   exact this
  ·have hc1:l.length+1<=cap':=hc1
   have e1:((rws f l).flatten++L).take (l.length*ie.size)++[f x].flatten++List.replicate ((cap'-(l.length+1))*ie.size) .any=(rws f (l++[x])).flatten++List.replicate ((cap'-(l.length+1))*ie.size) .any:=by
    rw[Fbv (by omega),Fcd (by omega),happ]
    simp
   have:=h b' cap' (List.replicate ((cap'-(l.length+1))*ie.size) .any) (.inl hb) (by omega) (by
    rw[hl,Fbm,<-Fb2]
    exact Fa7 _ (by omega)) hc2
   rw[hl,<-e1]at this
   exact this
end
theorem w9(u:Unt):(zk u).length=10:=rfl
theorem Rt(u:Unt):∀y∈zk u,∃x,y=AV.s x/\qo x=true:=by
 intro y hy
 simp[zk]at hy
 rcases hy with rfl|rfl|rfl|rfl|rfl|rfl|rfl|rfl|rfl|rfl<;>exact⟨_,rfl,rfl⟩
def qv(w:Wld)(v:AV):List AV:=[int w.tick,int w.players,int w.next,int w.G.W,int w.G.H,xc w.G.T,lst 6 zi w.B,v]
theorem D6{l:List Unt}(hr:yg l){a b:Nat}(hab:a<b)(hb:b<l.length):(l[a]'(by omega)).id<l[b].id:=by
 induction b with
 |zero=>omega
 |succ b ih=>
  have h3:=hr (b+1) hb (by omega)
  simp only[Fdv]at h3
  by_cases e:a=b
  ·subst e;exact h3
  ·have:=ih (by omega) (by omega)
   omega
theorem wt{i:TI}{A:Fr}{st:Store}{b o:Nat}{v:AV}{xs l:List AV}{K:Fr->Store->Prop}(hc:cellsOf v=some xs)(h1:xs.all AV.one=true)(hi:i.size=xs.length)(ho:st.obj b=some (.cells l))(hl:o+xs.length<=l.length)
  (hk:K A (st.sO b (.cells (zu l o xs)))):D3 i A st (.av (.s (.pointer (some ⟨b,o,none⟩)))) v K:=by
 unfold D3
 rw[hc]
 show(bif Nat.beq xs.length i.size&&(xs.all AV.one)then _ else False)
 rw[hi]
 simp only[h1,Fbs,Bool.and_self,cond_true]
 rw[ho]
 exact⟨hl,Hv hk⟩
theorem He(k:Int):24576<=zp k/\zp k<=81920:=by unfold zp;split<;>(try split)<;>omega
theorem Ph{g:Gnd}(hg:zn g){l:List Bld}{c:Int}{p:Vc}{k:Int}(h:Ag g l c p (zp k)):(24576<=p.1/\p.1+24576<=g.W*65536)/\(24576<=p.2/\p.2+24576<=g.H*65536)/\(p.1<=8388608/\p.2<=8388608):=by
 have h1:=h.1
 have h2:=He k
 obtain⟨⟨_,h3⟩,⟨_,h4⟩,_⟩:=hg
 omega
def jg(g:Gnd)(p:Vc):Nat:=(p.1/65536+g.W*(p.2/65536)).toNat
theorem er{g:Gnd}(hg:zn g){p:Vc}(h:(0<=p.1/\p.1<g.W*65536)/\(0<=p.2/\p.2<g.H*65536)):
  ((jg g p:Nat):Int)=p.1/65536+g.W*(p.2/65536)/\jg g p<g.T.length/\((jg g p:Nat):Int)%g.W=p.1/65536/\((jg g p:Nat):Int)/g.W=p.2/65536:=by
 have hs:=G8 hg (x:=p.1/65536) (y:=p.2/65536) (by omega) (by omega)
 have ha:=qi hg
 unfold jg
 generalize p.1/65536=x at*
 generalize p.2/65536=y at*
 have e:((x+g.W*y).toNat:Int)=x+g.W*y:=by omega
 rw[e]
 exact⟨rfl,by omega,hs.2.2.1,hs.2.2.2⟩
theorem ACalls.frozen{P:Program}{f:FuncId}{xs:List AV}{Q:Ja}{R:AV->Prop}(h:ACalls P f xs Store.empty Q)
  (hQ:∀r S,Q r S->∃r2,R r2/\∀(Oth M:Nat->Nat->Prop) (w:World) (v:Value),StoreOK S Oth M w->VRel w (λb o=>M b o\/Oth b o) r v->VRel w (λb o=>(M b o\/Oth b o)/\S.obj b=none) r2 v):
  ACalls P f xs Store.empty λr _=>R r:=by
 refine⟨λOth M w vs sto hr=>?_⟩
 have h1:=h.out Oth M w vs sto hr
 have key:∀v w',qn Store.empty Q Oth M w v w'->qn Store.empty (λr _=>R r) Oth M w v w':=by
  rintro v w' ⟨r,S,M',hq,hv,hs,hc⟩
  obtain⟨r2,hr2,hk⟩:=hQ r S hq
  refine⟨r2,Store.empty,λb o=>M' b o/\S.obj b=none,hr2,(hk Oth M' w' v hs hv).mono λb o hT=>?_,?_,?_⟩
  ·rcases hT with⟨h1,h2⟩|h1
   ·exact⟨.inl h1,h2⟩
   ·refine⟨.inr h1,?_⟩
    cases hb:S.obj b with
    |none=>rfl
    |some y=>exact absurd ((hs.obj b y hb).2 o) (hs.dis b o h1)
  ·exact{obj:=λb x hx=>(by cases hx),tok:=λb x hx=>(by cases hx),mlt:=λb o hm=>hs.mlt b o hm.1,olt:=hs.olt,dis:=λb o ho hm=>hs.dis b o ho hm.1}
  ·exact{size:=hc.size,keep:=hc.keep,blk:=hc.blk,shp:=hc.shp,sub:=λb o hm hb=>hc.sub b o hm.1 hb,tape:=hc.tape,os:=hc.os,output:=hc.output}
 generalize(callFunc f vs).run P w=res at h1
 cases res with
 |ok n w'=>
  cases n with
  |enter g args=>exact Calls.mono h1 λe w'' ⟨v,he,hv⟩=>⟨v,he,key _ _ hv⟩
  |value v=>exact key _ _ h1
  |_=>exact h1
 |_=>exact h1
theorem ACalls.frozenTo{P:Program}{f:FuncId}{xs:List AV}{st0:Store}{Q:Ja}{R:Ja}(h:ACalls P f xs st0 Q)
    (hQ:∀r S,Q r S->∃r2 S2,R r2 S2/\(∀b x,S2.obj b=some x->S.obj b=some x)/\(∀b x,S2.tok b≠some x)∧
      ∀(Oth M:Nat->Nat->Prop) (w:World) (v:Value),StoreOK S Oth M w->VRel w (λb o=>M b o\/Oth b o) r v->VRel w (λb o=>(M b o\/Oth b o)/\(S.obj b=none\/S2.obj b≠none)) r2 v):
    ACalls P f xs st0 R:=by
  refine⟨λOth M w vs sto hr=>?_⟩
  have h1:=h.out Oth M w vs sto hr
  have key:∀v w',qn st0 Q Oth M w v w'->qn st0 R Oth M w v w':=by
    rintro v w' ⟨r,S,M',hq,hv,hs,hc⟩
    obtain⟨r2,S2,hr2,hsub,htok,hk⟩:=hQ r S hq
    have hT:∀b o,((M' b o/\(S.obj b=none\/S2.obj b≠none))\/Oth b o)->(M' b o\/Oth b o):=λb o h=>h.imp (·.1) id
    refine⟨r2,S2,λb o=>M' b o/\(S.obj b=none\/S2.obj b≠none),hr2,(hk Oth M' w' v hs hv).mono λb o hT=>?_,?_,?_⟩
    · rcases hT with⟨h1,h2⟩|h1
      · exact⟨.inl h1,h2⟩
      · refine⟨.inr h1,?_⟩
        cases hb:S.obj b with
        |none=>exact .inl rfl
        |some y=>exact absurd ((hs.obj b y hb).2 o) (hs.dis b o h1)
    · exact { obj:=λb x hx=>⟨(hs.obj b x (hsub b x hx)).1.mono hT,λo=>⟨(hs.obj b x (hsub b x hx)).2 o,.inr (by rw[hx];simp)⟩⟩
              tok:=λb x hx=>absurd hx (htok b x),mlt:=λb o hm=>hs.mlt b o hm.1,olt:=hs.olt,dis:=λb o ho hm=>hs.dis b o ho hm.1}
    · exact{size:=hc.size,keep:=hc.keep,blk:=hc.blk,shp:=hc.shp,sub:=λb o hm hb=>hc.sub b o hm.1 hb,tape:=hc.tape,os:=hc.os,output:=hc.output}
  generalize(callFunc f vs).run P w=res at h1
  cases res with
  | ok n w'=>
    cases n with
    |enter g args=>exact Calls.mono h1 λe w'' ⟨v,he,hv⟩=>⟨v,he,key _ _ hv⟩
    |value v=>exact key _ _ h1
    |_=>exact h1
  |_=>exact h1
def Il(a:Option Addr):Prop:=∀x,a=some x->x.spot=none
section
variable {P:Program} {c:Cfg} {st:Store}
theorem uu{e:TypeId}{ie:TI}(hie:c.I e=some ie){a:Option Addr}{x:AV}{rows:List (List AV)}(hx:vi ie.size (.av x)=some rows)(hroom:room rows.length ie.bytes)(hne:0<rows.length){K:Ja}
  (h2:∀b' cap',Fresh st b'->rows.length<=cap'->cap'<=9223372036854775807->K (.s (.slice (some ⟨b',0,none⟩) rows.length cap')) (st.sO b' (.cells (rows.flatten++List.replicate ((cap'-rows.length)*ie.size) .any)))):
  AppX P c st e (.s (.slice a 0 0)) x K:=by
 refine⟨⟨ie,hie⟩,λie' hie' Oth M w sv xv argTypes ty args t sto hs hxv hat ht1 hu hti h0 h1'=>?_⟩
 rw[hie]at hie'
 cases hie'
 have hs:=VRel.eq_s hs
 subst hs
 have A:AppArgs P c argTypes args t e ie a 0 0 xv:=⟨hat,ht1,hu,hti,h0,h1'⟩
 obtain⟨hl1,hl2,new,hnew,hone,hnsz,hfc⟩:=Ij (P:=P) (β:=λ_=>0) (k:=ie.size) (x:=.av x) hxv hx
 obtain⟨newCap,rest,g1,g0,g2,g3⟩:=H3 (old:=#[]) ty A hl1 (hfc w.drew rfl) (by cases a<;>simp[Builtin.firstCells,loadCells,loadCellsFrom]) (by omega) (by simpa using hroom)
 have gd:Grow w w.drew:=Grow.drew w
 have sto1:=sto.grow gd
 obtain⟨f1,f2,f3⟩:=D8 sto1 (#[]++new++rest) e (l:=rows.flatten++List.replicate rest.size .any) (by
  rw[Fbb,Fbb]
  refine((show Reads w _ rows.flatten ([]++new.toList)from hnew).append ⟨by simp,λi x y hx hy=>?_⟩).keep (gd.keeps _)
  rw[Fb3]at hx
  split at hx
  ·cases hx;exact .any _
  ·cases hx)
 rw[g2]at f2
 simp only[Fbd]at g1 g3 f2
 exact⟨_,_,g3,_,_,_,h2 _ newCap f1 g1 g0,.s _,f2,(gd.chg M).trans f3⟩
theorem ygl{e:TypeId}{ie:TI}(hie:c.I e=some ie){x:AV}{rows:List (List AV)}(hx:vi ie.size (.av x)=some rows)(hroom:room rows.length ie.bytes){K:Ja}
  (h1:rows=[]->∀a,Il a->K (.s (.slice a 0 0)) st)
  (h2:0<rows.length->∀b' cap',Fresh st b'->rows.length<=cap'->cap'<=9223372036854775807->K (.s (.slice (some ⟨b',0,none⟩) rows.length cap')) (st.sO b' (.cells (rows.flatten++List.replicate ((cap'-rows.length)*ie.size) .any)))):
  AppX P c st e .emp x K:=by
 refine⟨⟨ie,hie⟩,λie' hie' Oth M w sv xv argTypes ty args t sto hs hxv hat ht1 hu hti h0 h1'=>?_⟩
 cases hs with
 |emp a ha=>
  by_cases hr:0<rows.length
  ·exact(uu hie hx hroom hr (h2 hr)).out ie' hie' Oth M w _ xv argTypes ty args t sto (.s _) hxv hat ht1 hu hti h0 h1'
  ·rw[hie]at hie'
   cases hie'
   have hr0:rows=[]:=Fa0 (by omega)
   subst hr0
   have A:AppArgs P c argTypes args t e ie a 0 0 xv:=⟨hat,ht1,hu,hti,h0,h1'⟩
   obtain⟨hl1,hl2,new,hnew,hone,hnsz,hfc⟩:=Ij (P:=P) (β:=λ_=>0) (k:=ie.size) (x:=.av x) hxv hx
   have hn0:new.toList=[]:=by
    have:new.toList.length=0:=by rw[Fb4,hnsz];simp
    exact Fa0 this
   have hrun:=Kv (w':=w) ty A hl1 (hfc w rfl) (by simp) (λb hb=>by rw[hn0];simp[storeCells]) (λ_=>rfl)
   exact⟨_,_,hrun,_,_,M,h1 rfl a ha,.s _,sto,Chg.refl M w⟩
end
def RowsQ{α:Type}(k:Nat)(f:α->List AV)(st:Store)(v:AV)(l:List α):Prop:=
 RowsO k f st v l\/∃a,Il a/\v=.s (.slice a 0 0)/\l=[]
section
variable {α:Type} {f:α->List AV} {k:Nat}
theorem RowsO.q{st:Store}{v:AV}{l:List α}(h:RowsO k f st v l):RowsQ k f st v l:=.inl h
theorem RowsQ.un{a g:Store}{v:AV}{l:List α}(h:RowsQ k f g v l):RowsQ k f (a.un g) v l:=h.imp (·.un) id
theorem RowsQ.unL{a g:Store}{v:AV}{l:List α}(h:RowsQ k f a v l)(hd:zh a g):RowsQ k f (a.un g) v l:=h.imp (·.unL hd) id
theorem RowsQ.form{st:Store}{v:AV}{l:List α}(h:RowsQ k f st v l):∃oa cap,v=.s (.slice oa l.length cap)/\∀i,i<l.length->∃b L,oa=some ⟨b,0,none⟩/\st.obj b=some (.cells ((rws f l).flatten++L)):=by
 rcases h with(⟨rfl,rfl⟩|⟨b,cap,L,rfl,ho,_⟩)|⟨a,_,rfl,rfl⟩
 ·exact⟨none,0,rfl,λi hi=>absurd hi (Fbf i)⟩
 ·exact⟨_,cap,rfl,λi _=>⟨b,L,rfl,ho⟩⟩
 ·exact⟨a,0,rfl,λi hi=>absurd hi (Fbf i)⟩
theorem RowsQ.borrow{st:Store}{v:AV}{l:List α}(hf:∀x,(f x).length=k)(hs:∀x,∀y∈f x,∃u,y=AV.s u/\qo u=true)(hv:RowsQ k f st v l){Oth M:Nat->Nat->Prop}{w:World}(sto:StoreOK st Oth M w){x:Value}(hx:VRel w (λb o=>M b o\/Oth b o) v x):
  VRel w (λb o=>(M b o\/Oth b o)/\st.obj b=none) (lst k f l) x:=by
 rcases hv with hv|⟨a,ha,rfl,rfl⟩
 ·exact hv.borrow hf hs sto hx
 ·cases hx
  exact .nil k a
theorem RowsQ.sub{S S2:Store}{v:AV}{l:List α}(h:RowsQ k f S v l)(hk:∀b n c,v=.s (.slice (some ⟨b,0,none⟩) n c)->S2.obj b=S.obj b):RowsQ k f S2 v l:=by
 rcases h with(h|⟨b,cap,L,rfl,ho,h2⟩)|h
 ·exact .inl (.inl h)
 ·exact .inl (.inr ⟨b,cap,L,rfl,by rw[hk b _ _ rfl];exact ho,h2⟩)
 ·exact .inr h
theorem Gu{P:Program}{c:Cfg}{e:TypeId}{ie:TI}(hie:c.I e=some ie)(hf:∀x,(f x).length=ie.size)(hby:ie.bytes<=1000){st:Store}{v:AV}{l:List α}(hv:RowsQ ie.size f st v l)(x:α){src:AV}(hsrc:vi ie.size (.av src)=some [f x])(hlen:l.length<=1000000000){K:Ja}
  (h:∀b cap L,(Fresh st b\/∃c0,0<c0/\v=.s (.slice (some ⟨b,0,none⟩) l.length c0))->(l++[x]).length<=cap->cap*ie.size<=(l++[x]).length*ie.size+L.length->cap<=9223372036854775807->
   K (.s (.slice (some ⟨b,0,none⟩) (l++[x]).length cap)) (st.sO b (.cells ((rws f (l++[x])).flatten++L)))):appendK P c st e (.av v) (.av src) K:=by
 refine⟨.inr ⟨v,_,rfl,rfl,?_⟩⟩
 have hl:(l++[x]).length=l.length+1:=by simp
 have hfl:=kr hf l
 have hmul:(l.length+1)*ie.bytes<=1000000001*1000:=Fd6 (by omega) hby
 have happ:(rws f (l++[x])).flatten=(rws f l).flatten++f x:=by
  rw[F9]
  show _++(f x++[])=_
  rw[Fbp]
 have empty:∀a:Option Addr,l=[]->v=.s (.slice a 0 0)->AppX P c st e v src K:=λa hl0 hva=>by
  subst hl0 hva
  refine uu hie hsrc ⟨by simp;omega,by simp⟩ (by simp) (λb' cap' hb hc hc2=>?_)
  have:=h b' cap' (List.replicate ((cap'-[f x].length)*ie.size) .any) (.inl hb) (by simpa using hc) (by
   simp only[Fbm,Fc0,Fa1,<-Fb2]
   exact Fa7 _ (by omega)) hc2
  exact this
 rcases hv with(⟨hv,hl0⟩|⟨b,cap,L,rfl,ho,h1,h2,h3⟩)|⟨a,ha,hv,hl0⟩
 ·exact empty _ hl0 hv
 ·refine b7 hie (cap:=cap) ho (by rw[Fag,hfl];exact h2) h1 hsrc ⟨by simp;omega,by simp;omega⟩ (λhc=>?_) (λhc b' cap' hb hc1 hc2=>?_)
  ·have hc:l.length+1<=cap:=hc
   have hcm:(l.length+1)*ie.size<=cap*ie.size:=Fa7 _ hc
   rw[Fd9]at hcm
   have e1:zu ((rws f l).flatten++L) (l.length*ie.size) [f x].flatten=(rws f (l++[x])).flatten++L.drop ie.size:=by
    rw[Cn hfl,happ]
    simp[hf x]
   have:=h b cap (L.drop ie.size) (.inr ⟨cap,by omega,rfl⟩) (by omega) (by rw[hl,Fd9,Fck];omega) h3
   rw[hl,<-e1]at this
   exact this
  ·have hc1:l.length+1<=cap':=hc1
   have e1:((rws f l).flatten++L).take (l.length*ie.size)++[f x].flatten++List.replicate ((cap'-(l.length+1))*ie.size) .any=(rws f (l++[x])).flatten++List.replicate ((cap'-(l.length+1))*ie.size) .any:=by
    rw[Fbv (by omega),Fcd (by omega),happ]
    simp
   have:=h b' cap' (List.replicate ((cap'-(l.length+1))*ie.size) .any) (.inl hb) (by omega) (by
    rw[hl,Fbm,<-Fb2]
    exact Fa7 _ (by omega)) hc2
   rw[hl,<-e1]at this
   exact this
 ·exact empty _ hl0 hv
theorem b8{P:Program}{c:Cfg}{e:TypeId}{ie:TI}(hie:c.I e=some ie)(hf:∀x,(f x).length=ie.size)(hby:ie.bytes<=1000){st:Store}{l:List α}(hlen:l.length<=1000000000){K:Ja}
  (h:∀v N,RowsQ ie.size f N v l->zh N st->K v (N.un st)):appendK P c st e (.av .emp) (.av (lst ie.size f l)) K:=by
 refine⟨.inr ⟨_,_,rfl,rfl,?_⟩⟩
 have hmul:l.length*ie.bytes<=1000000000*1000:=Fd6 (by omega) hby
 refine ygl hie (rows:=rws f l) (by simp[vi,lst]) ⟨by rw[zm];omega,by rw[zm];omega⟩ (λhr a ha=>?_) (λhr b cap hb hc hc2=>?_)
 ·have hl:l=[]:=by
   have:=congrArg List.length hr
   rw[zm]at this
   exact Fa0 this
  subst hl
  have:=h (.s (.slice a 0 0)) Store.empty (.inr ⟨a,ha,rfl,rfl⟩) (λb hb=>(hb.elim (λh=>h rfl) (λh=>h rfl):False).elim)
  rwa [vm]at this
 ·rw[zm]at hc⊢
  have:=h (.s (.slice (some ⟨b,0,none⟩) l.length cap)) (Store.empty.sO b (.cells ((rws f l).flatten++List.replicate ((cap-l.length)*ie.size) .any))) (.inl (.inr ⟨b,cap,_,rfl,zd _ _ _,hc,by
   simp only[Fbm,<-Fb2]
   exact Fa7 _ (by omega),hc2⟩)) (λi hi hs=>by
    have:i=b:=Decidable.byContradiction λhne=>by
     rcases hi with hi|hi
     ·rw[zg hne]at hi;exact hi rfl
     ·exact hi rfl
    subst this
    exact fresh_iff.1 hb hs)
  have e:(Store.empty.sO b (.cells ((rws f l).flatten++List.replicate ((cap-l.length)*ie.size) .any))).un st=st.sO b (.cells ((rws f l).flatten++List.replicate ((cap-l.length)*ie.size) .any)):=by
   rw[<-G4 (fresh_iff.1 hb),vm]
  rw[e]at this
  exact this
end
section
variable {w:Wld} {v:AV} {k p:Nat} {S:Store}
theorem cq{st:Store}(hv:RowsQ 10 zk st v w.U){Oth M:Nat->Nat->Prop}{W:World}(sto:StoreOK st Oth M W){x:Value}(hx:VRel W (λb o=>M b o\/Oth b o) (.agg (qv w v)) x):
  VRel W (λb o=>(M b o\/Oth b o)/\st.obj b=none) (.agg (zw w)) x:=by
 cases hx with
 |agg _ c hl hc=>
  refine .agg _ c hl λi x y hx hy=>?_
  match i with
  |0=>simp only[zw,Fan,Fah]at hx;subst hx;exact jr (hc 0 _ y rfl hy)
  |1=>simp only[zw,Far,Fan,Fah]at hx;subst hx;exact jr (hc 1 _ y rfl hy)
  |2=>simp only[zw,Far,Fan,Fah]at hx;subst hx;exact jr (hc 2 _ y rfl hy)
  |3=>simp only[zw,Far,Fan,Fah]at hx;subst hx;exact jr (hc 3 _ y rfl hy)
  |4=>simp only[zw,Far,Fan,Fah]at hx;subst hx;exact jr (hc 4 _ y rfl hy)
  |5=>simp only[zw,Far,Fan,Fah]at hx;subst hx;exact jr (hc 5 _ y rfl hy)
  |6=>simp only[zw,Far,Fan,Fah]at hx;subst hx;exact jr (hc 6 _ y rfl hy)
  |7=>simp only[zw,Far,Fan,Fah]at hx;subst hx;exact hv.borrow w9 Rt sto (hc 7 _ y rfl hy)
  |i+8=>simp[zw]at hx
def ja(v:AV)(p:Nat):Prop:=∀b n c,v=.s (.slice (some ⟨b,0,none⟩) n c)->0<c->b≠p
theorem RowsQ.set{α:Type}{f:α->List AV}{l:List α}(h:RowsQ k f S v l)(hp:ja v p)(x:AObj):RowsQ k f (S.sO p x) v l:=by
 rcases h with(h|⟨b,cap,L,rfl,ho,h2,h3⟩)|h
 ·exact .inl (.inl h)
 ·by_cases hc:0<cap
  ·exact .inl (.inr ⟨b,cap,L,rfl,by rw[zg (hp b _ _ rfl hc)];exact ho,h2,h3⟩)
  ·have h0:cap=0:=by omega
   subst h0
   have hl:l=[]:=Fa0 (by omega)
   subst hl
   exact .inr ⟨_,λx hx=>by cases hx;rfl,rfl,rfl⟩
 ·exact .inr h
theorem Hh{α:Type}{f:α->List AV}{l:List α}(h:RowsQ k f S v l)(hp:S.obj p=none):ja v p:=by
 rcases h with(⟨rfl,rfl⟩|⟨b,cap,L,rfl,ho,h2⟩)|⟨a,ha,rfl,rfl⟩
 ·intro b n c e
  simp at e
 ·intro b' n c e _
  simp only[AV.s.injEq,Value.slice.injEq,Fah,Addr.mk.injEq]at e
  obtain⟨⟨rfl,_⟩,_⟩:=e
  intro e2
  subst e2
  rw[hp]at ho
  cases ho
 ·intro b n c e hc
  simp only[AV.s.injEq,Value.slice.injEq]at e
  omega
def spU(w:Wld)(c:Cmd):Unt:=⟨w.next,c.P,c.N,(c.X,c.Y),-1,-1,0,0,0⟩
def spW(w:Wld)(c:Cmd):Wld:={w with U:=w.U++[spU w c],next:=w.next+1}
def Ds(w:Wld):Prop:=4096<=w.U.length\/1099511627776<=w.next
open Classical in
noncomputable def spE(w:Wld)(c:Cmd):Int:=if Ds w then 4 else if qf w 0 c.N (c.X,c.Y)then 0 else 5
open Classical in
noncomputable def doE(E:Wld->Cmd->Int)(w:Wld)(c:Cmd):Int:=if¬z7 w\/¬vn c\/w.players<c.P then 1 else E w c
open Classical in
noncomputable def doW(E:Wld->Cmd->Int)(W:Wld->Cmd->Wld)(w:Wld)(c:Cmd):Wld:=if doE E w c=0 then W w c else w
theorem rx{E:Wld->Cmd->Int}{c:Cmd}(h:¬z7 w\/¬vn c\/w.players<c.P):doE E w c=1:=by unfold doE;rw[if_pos h]
theorem ru{E:Wld->Cmd->Int}{c:Cmd}(h1:z7 w)(h2:vn c)(h3:c.P<=w.players):doE E w c=E w c:=by
 unfold doE
 rw[if_neg]
 rintro(h|h|h)
 ·exact h h1
 ·exact h h2
 ·omega
theorem rr{E:Wld->Cmd->Int}{W:Wld->Cmd->Wld}{c:Cmd}(h:doE E w c=0):doW E W w c=W w c:=by unfold doW;rw[if_pos h]
theorem Wv{E:Wld->Cmd->Int}{W:Wld->Cmd->Wld}{c:Cmd}(h:doE E w c≠0):doW E W w c=w:=by unfold doW;rw[if_neg h]
end
structure Scr where
 W:Wld
 L:List Cmd
def Sm(s:Scr):List AV:=[int s.W.tick,int s.W.players,int s.W.next,int s.W.G.W,int s.W.G.H,xc s.W.G.T,lst 6 zi s.W.B,lst 10 zk s.W.U,lst 10 qu s.L]
end Go.V
namespace Go.V
section
variable {id P:Int} {i:Nat} {w:Wld}
def jd(f:Int->Int):List Int->Int
 |[]=>0
 |a::l=>if f a=0 then jd f l else f a
theorem ce{f:Int->Int}:∀{l:List Int},(∀j,(h:j<l.length)->f l[j]=0)->jd f l=0
 |[],_=>rfl
 |a::l,h=>by
  have h0:=h 0 (by simp)
  simp only[Fcn]at h0
  unfold jd
  rw[if_pos h0]
  exact ce λj hj=>by
   have:=h (j+1) (by simp;omega)
   simpa using this
theorem cd{f:Int->Int}:∀{l:List Int} {i:Nat} (hi:i<l.length),(∀j,(h:j<l.length)->j<i->f l[j]=0)->f l[i]≠0->jd f l=f l[i]
 |[],i,hi,_,_=>absurd hi (Fbf i)
 |a::l,0,hi,_,h=>by
  simp only[Fcn]at h⊢
  unfold jd
  rw[if_neg h]
 |a::l,i+1,hi,h,h2=>by
  have h0:=h 0 (by simp) (by omega)
  simp only[Fcn]at h0
  simp only[List.getElem_cons_succ]at h2⊢
  unfold jd
  rw[if_pos h0]
  exact cd (by simpa using hi) (λj hj hji=>by
   have:=h (j+1) (by simp;omega) (by omega)
   simpa using this) h2
theorem H4{f:Int->Int}:∀{l:List Int},jd f l=0->∀a∈l,f a=0
 |[],_,a,ha=>by cases ha
 |b::l,h,a,ha=>by
  unfold jd at h
  by_cases hb:f b=0
  ·rw[if_pos hb]at h
   rcases Fat.1 ha with rfl|ha
   ·exact hb
   ·exact H4 h a ha
  ·rw[if_neg hb]at h
   exact absurd h hb
def yw(l:List Unt)(id:Int):Option Nat:=l.findIdx? λu=>decide (u.id=id)
def unt0:Unt:=⟨0,0,0,(0,0),0,0,0,0,0⟩
theorem Gm{l:List Unt}(h:yw l id=some i):∃hi:i<l.length,l[i].id=id:=by
 unfold yw at h
 rw[Fbh]at h
 obtain⟨h1,h2,_⟩:=h
 exact⟨h1,of_decide_eq_true h2⟩
theorem pu{l:List Unt}(h:yw l id=none):∀u∈l,u.id≠id:=by
 unfold yw at h
 rw[Fbq]at h
 exact λu hu=>of_decide_eq_false (h u hu)
theorem L7{l:List Unt}(hr:yg l)(hi:i<l.length)(e:l[i].id=id):yw l id=some i:=by
 cases h:yw l id with
 |none=>exact absurd e (pu h _ (Faa hi))
 |some k=>
  obtain⟨hk,e2⟩:=Gm h
  by_cases h1:k<i
  ·have:=D6 hr h1 hi;omega
  ·by_cases h2:i<k
   ·have:=D6 hr h2 hk;omega
   ·rw[show k=i by omega]
def uAt(w:Wld)(id:Int):Unt:=match yw w.U id with|none=>unt0|some i=>w.U.getD i unt0
def xj(w:Wld)(P id:Int):Int:=match yw w.U id with|none=>3|some i=>if(w.U.getD i unt0).owner=P then(if(w.U.getD i unt0).inn=0 then 0 else 9)else 6
theorem M7(h:yw w.U id=some i):∃hi:i<w.U.length,w.U[i].id=id/\uAt w id=w.U[i]:=by
 obtain⟨hi,e⟩:=Gm h
 refine⟨hi,e,?_⟩
 unfold uAt
 rw[h]
 simp[Fa6,hi]
theorem br(h:yw w.U id=none):xj w P id=3/\uAt w id=unt0:=by
 unfold xj uAt
 rw[h]
 exact⟨rfl,rfl⟩
theorem uo(h:yw w.U id=some i)(hi:i<w.U.length):xj w P id=if w.U[i].owner=P then(if w.U[i].inn=0 then 0 else 9)else 6:=by
 unfold xj
 rw[h]
 simp[Fa6,hi]
theorem Gs(h:xj w P id=0):∃i,∃hi:i<w.U.length,yw w.U id=some i/\w.U[i].id=id/\uAt w id=w.U[i]/\w.U[i].owner=P/\w.U[i].inn=0:=by
 cases hf:yw w.U id with
 |none=>rw[(br (P:=P) hf).1]at h;cases h
 |some i=>
  obtain⟨hi,e,e2⟩:=M7 hf
  rw[uo hf hi]at h
  refine⟨i,hi,rfl,e,e2,?_⟩
  split at h
  ·split at h
   ·exact⟨‹_›,‹_›⟩
   ·cases h
  ·cases h
theorem d9(hn:∀u∈w.U,u.pos.ok)(id:Int):(uAt w id).pos.ok:=by
 cases hf:yw w.U id with
 |none=>rw[(br (P:=0) hf).2];unfold unt0 Vc.ok ya;decide
 |some i=>
  obtain⟨hi,e,e2⟩:=M7 hf
  rw[e2]
  exact hn _ (Faa hi)
def Di(u:Unt):Unt:={u with goal:=-1,next:=-1,stuck:=0,state:=0}
def qk(l:List Int)(g:Unt->Unt)(U:List Unt):List Unt:=U.map λu=>if u.id∈l then g u else u
theorem Nj(g:Unt->Unt)(U:List Unt):qk [] g U=U:=by
 unfold qk
 simp
theorem Be(l:List Int)(g:Unt->Unt)(U:List Unt):(qk l g U).length=U.length:=by unfold qk;rw[Faq]
theorem Nl{l:List Int}{g:Unt->Unt}{U:List Unt}(hi:i<U.length):(qk l g U)[i]'(by rw[Be];exact hi)=if U[i].id∈l then g U[i]else U[i]:=by unfold qk;rw[Fbx]
theorem Nk{l:List Int}{g:Unt->Unt}(hg:∀u,(g u).id=u.id){U:List Unt}(hi:i<U.length):((qk l g U)[i]'(by rw[Be];exact hi)).id=U[i].id:=by
 rw[Nl hi]
 split
 ·exact hg _
 ·rfl
theorem Sj{l:List Int}{g:Unt->Unt}(hg:∀u,(g u).id=u.id){U:List Unt}(hr:yg U):yg (qk l g U):=by
 intro i hi h0
 have hi2:i<U.length:=by rw[Be]at hi;exact hi
 rw[Nk hg hi2,Nk hg (show i-1<U.length by omega)]
 exact hr i hi2 h0
theorem gj{l:List Int}{g:Unt->Unt}{U:List Unt}(hr:yg U)(hi:i<U.length):(qk l g U).set i (g U[i])=qk (l++[U[i].id]) g U:=by
 apply Fdr
 ·rw[Fa8,Be,Be]
 intro j h1 h2
 have hj:j<U.length:=by rw[Be]at h2;exact h2
 rw[Nl hj,Fcf]
 by_cases e:i=j
 ·subst e
  rw[if_pos rfl,if_pos (by simp)]
 ·rw[if_neg e,Nl hj]
  have hne:U[j].id≠U[i].id:=by
   by_cases h:i<j
   ·have:=D6 hr h hj;omega
   ·have:=D6 hr (show j<i by omega) hi;omega
  have:(U[j].id∈l++[U[i].id])↔U[j].id∈l:=by simp[hne]
  simp only[this]
def stW(w:Wld)(c:Cmd):Wld:={w with U:=qk c.U Di w.U}
def stE(w:Wld)(c:Cmd):Int:=jd (xj w c.P) c.U
theorem zvw{α:Type}{f:α->List AV}{k:Nat}(hf:∀x,(f x).length=k){U:List α}(hi:i<U.length)(x:α)(J:List AV):zu ((rws f U).flatten++J) (i*k) (f x)=(rws f (U.set i x)).flatten++J:=by
 have:=fz (j:=0) (ys:=f x) (L:=J) (x':=x) hf hi (by rw[hf];omega) (by
  unfold zu
  rw[hf x,Fch,Fc0,Fbd,Fc1 (by rw[hf];exact Fak _),Fbp])
 rw[Fel]at this
 exact this
end
end Go.V
