/- Ground of laws of thronglaw30: contracts and plain lemmas; no condition beyond the row's own. -/
import Derived.Test.YtieceacpbjcddaaGreatKQ
set_option linter.unusedSimpArgs false
set_option linter.unusedVariables false
set_option linter.defProp false
namespace Go.V
end Go.V
namespace Go.V
theorem AWp.freezeBx{P:Program}{c:Cfg}{code:Code}{Q:Exit->Fr->Store->Prop}{A:Fr}{st:Store}{d j b n cap k:Nat}{l:List AV}{rows:List (List AV)}{pad:List AV}
    (hA:A.bx d=some l) (hl:l[j]?=some (.s (.slice (some ⟨b,0,none⟩) n cap))) (ho:st.obj b=some (.cells (rows.flatten++pad))) (ht:st.tok b=none) (hn:rows.length=n) (hcap:n<=cap)
    (hk:∀row∈rows,row.length=k) (hall:∀row∈rows,∀x∈row,∃v,x=AV.s v/\ql v=true)
    (h:AWp P c code Q (A.setBx d (l.set j (.lst k rows none))) (st.dO b)):AWp P c code Q A st:=by
  refine⟨λOth M a w ⟨β,sim⟩=>?_⟩
  have hs:∀b' o,((M b' o/\b'≠b)\/Oth b' o)->(M b' o\/Oth b' o):=λ_ _ h=>h.imp (·.1) id
  have hbd:β d≠b:=sim.sep d b (λe=>by rw[hA]at e;cases e) (.inl (by rw[ho];simp))
  obtain⟨hcell,hM⟩:=sim.sto.obj b _ ho
  have sim':SimB c.N Oth β (A.setBx d (l.set j (.lst k rows none))) (st.dO b) (λb' o=>M b' o/\b'≠b) a w:=by
    refine{tsz:=sim.tsz,dfr:=sim.dfr.sub λ_ _ h=>h.1,tm:=λi=>?_,bx:=λq l' hq=>?_,inj:=λq q' h1 h2=>?_,sep:=λq b' hq hb'=>?_,sto:=?_}
    · have h1:=sim.tm i
      show LRel w _ β (A.t i) _
      generalize A.t i=x at h1
      cases x with
      |any=>trivial
      |und=>exact h1
      |av x=>exact VRel.mono hs h1
      |bx k off=>exact h1
    · have hq2:(bif Nat.beq q d then some (l.set j (.lst k rows none))else A.bx q)=some l':=hq
      clear hq
      cases hb:Nat.beq q d with
      | true=>
        rw[hb]at hq2
        have hqd:=(xj _ _).1 hb
        subst hqd
        have hq3:l.set j (.lst k rows none)=l':=Option.some.inj hq2
        subst hq3
        obtain⟨⟨cs,e,fr,h1,h2,h3,h4⟩,h5⟩:=sim.bx q l hA
        refine⟨⟨cs,e,fr,h1,h2,by rw[Faw];exact h3,λi x y hx hy=>?_⟩,λo=>⟨h5 o,hbd⟩⟩
        rw[Fc8]at hx
        by_cases e9:j=i
        · subst e9
          rw[if_pos rfl]at hx
          have hjl:=(Faq.1 hl).1
          rw[if_pos hjl]at hx
          have hx:=Option.some.inj hx
          subst hx
          have h6:=h4 j _ y hl hy
          cases h6
          exact sw hcell (λo hT=>hT.elim (λq=>q.2 rfl) (λq=>sim.sto.dis _ _ q (hM o))) hn hcap hk hall
        · rw[if_neg e9]at hx
          exact(h4 i x y hx hy).mono hs
      | false=>
        rw[hb]at hq2
        have hqb:β q≠b:=sim.sep q b (λe=>by rw[show A.bx q=some l' from hq2]at e;cases e) (.inl (by rw[ho];simp))
        obtain⟨⟨cs,e,fr,h1,h2,h3,h4⟩,h5⟩:=sim.bx q l' hq2
        exact⟨⟨cs,e,fr,h1,h2,h3,λi x y hx hy=>(h4 i x y hx hy).mono hs⟩,λo=>⟨h5 o,hqb⟩⟩
    · refine sim.inj q q' (λe=>?_) (λe=>?_)
      · refine h1 ?_
        show(bif Nat.beq q d then some (l.set j (.lst k rows none))else A.bx q)=none
        cases hb:Nat.beq q d with
        | true=>
          have:=(xj _ _).1 hb
          subst this
          rw[hA]at e;cases e
        |false=>exact e
      · refine h2 ?_
        show(bif Nat.beq q' d then some (l.set j (.lst k rows none))else A.bx q')=none
        cases hb:Nat.beq q' d with
        | true=>
          have:=(xj _ _).1 hb
          subst this
          rw[hA]at e;cases e
        |false=>exact e
    · refine sim.sep q b' (λe=>?_) ?_
      · refine hq ?_
        show(bif Nat.beq q d then some (l.set j (.lst k rows none))else A.bx q)=none
        cases hb:Nat.beq q d with
        | true=>
          have:=(xj _ _).1 hb
          subst this
          rw[hA]at e;cases e
        |false=>exact e
      · rcases hb' with hb'|hb'
        · cases hx:(st.dO b).obj b' with
          |none=>exact absurd hx hb'
          |some y=>exact .inl (by rw[(Df hx).2];simp)
        · exact .inr hb'
    · exact { obj:=λb' y hy=>⟨(sim.sto.obj b' y (Df hy).2).1.mono hs,λo=>⟨(sim.sto.obj b' y (Df hy).2).2 o,(Df hy).1⟩⟩
              tok:=λb' top htk=>by
                obtain⟨c,e,fr,h1,h2,h3,h4⟩:=sim.sto.tok b' top htk
                exact⟨c,e,fr,h1,h2,h3,λo ho=>⟨h4 o ho,λe=>by subst e;rw[show st.tok b'=some top from htk]at ht;cases ht⟩⟩
              mlt:=λb' o hm=>sim.sto.mlt b' o hm.1,olt:=sim.sto.olt,dis:=λb' o ho hm=>sim.sto.dis b' o ho hm.1}
  refine Code.wpF_mono ?_ (h.out Oth _ a w ⟨β,sim'⟩)
  rintro e a' w' ⟨A',st',M',h1,h2,h3⟩
  exact⟨A',st',M',h1,h2,{size:=h3.size,keep:=λb' o hb hm=>h3.keep b' o hb λh=>hm h.1,blk:=λb' hb hm=>h3.blk b' hb λo h=>hm o h.1,shp:=h3.shp,sub:=λb' o hm hb=>(h3.sub b' o hm hb).1,tape:=h3.tape,os:=h3.os,output:=h3.output}⟩
end Go.V
