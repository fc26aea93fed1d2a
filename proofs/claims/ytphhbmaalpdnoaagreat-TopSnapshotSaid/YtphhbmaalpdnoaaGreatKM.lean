/- Ground of laws of throngtop: contracts and plain lemmas; no condition beyond the row's own. -/
import Derived.Test.YtphhbmaalpdnoaaGreatKE
import Derived.Test.YtphhbmaalpdnoaaGreatKL
set_option linter.unusedSimpArgs false
set_option linter.unusedVariables false
set_option linter.defProp false
namespace Go.Proofs
open Go Go.V
set_option maxRecDepth 20000
set_option maxHeartbeats 4000000
section
variable {F:Store} {s p:Nat} {w:Wld} {o0 o1 o2:AV}
theorem zzg{L:List Ent}(hS:StandAt F s p w L o0 o1 o2)(hr:yl w.U)(hU:w.U.length<=1000000)(hn:∀u∈w.U,u.pos.ok)(hLl:L.length<=w.U.length)(hL:D3 w L)(q:Vc)(hq:q.ok)(r:Int)(hrr:0<r/\r<=262144)(R:Ja)
  (h:∀F' us,StandAt F' s p w L o0 o1 o2->K4 w q (r+81920) us->us.length<=1000000->R (lst 10 zn us) (F'.un (stS s w o0 o1 o2 p))):Jb 188 [ptr s,.agg (yd q),int r] (F.un (stS s w o0 o1 o2 p)) R:=by
 have ho:=zf (a:=F) (Hb s w o0 o1 o2 p);refine Qa (c:=cfg 47) zb Tryz.func188 ?_;refine Qc zb uk ?_;refine za (o:=(F.un (stS s w _ _ _ p)).obj s) _ ho ?_;refine Qd ?_;refine⟨zfx hS.hc hS.hd θ (Kw hL hn) hq (r:=r+81920) ⟨θ,θ⟩ _ (λF' N v ns g1 g2 g3 g4 g5 g6=>⟨Tv,?_⟩),Tv⟩;have hS':StandAt F' s p w L o0 o1 o2:=⟨g1,g3,hS.h0,hS.h1,hS.h2⟩
 have ho':((F'.un N).un (stS s w o0 o1 o2 p)).obj s=some (.cells (stC w o0 o1 o2 p)):=zf (Hb s w o0 o1 o2 p);have g4':zh (F'.un N) (stS s w o0 o1 o2 p):=disj_un.2 ⟨g3,g4⟩;have hv:∃oa cap,v=.s (.slice oa ns.length cap)/\∀i,i<ns.length->∃b J,oa=some ⟨b,0,none⟩/\((F'.un N).un (stS s w o0 o1 o2 p)).obj b=some (.cells (ns.map aI++J)):=by
  rcases Pg g5 with⟨rfl,rfl⟩|⟨b,cap,J,rfl,hob,_⟩
  ·exact⟨none,0,rfl,λi hi=>absurd hi (Fa3 i)⟩
  ·exact⟨_,cap,rfl,λi _=>⟨b,J,rfl,yj g4' (zf hob)⟩⟩
 obtain⟨oa,cap,rfl,hget⟩:=hv;have hnl:ns.length<=w.U.length:=by have:=Fbp (l₂:=L.map (·.1)) (g6.1.imp λh=>θ) (λid hid=>by obtain⟨e,he,h2,_⟩:=(g6.2 id).1 hid;exact Fai.2 ⟨e,he,h2⟩);rw[Fap]at this;omega
 have hfin:∀us:List Unt,us.map (·.id)=ns->(∀u∈us,u∈w.U/\u.inn=0)->R (lst 10 zn us) (F'.un (stS s w o0 o1 o2 p)):=λus e1 e2=>
  h F' us hS' (zbt hr hL g6 e1 e2) (by have:=congrArg List.length e1;rw[Fap]at this;omega)
 have hback:=zdd (S:=stS s w o0 o1 o2 p) g2;generalize(F'.un N).un (stS s w o0 o1 o2 p)=st1 at*
 refine AWp.loop (σ:=Nat×AV×List Unt) ⟨λx=>[(0,.av (ptr s)),(6,.av x.2.1),(18,.av (.s (.slice oa ns.length cap))),(19,.av (int (ns.length:Nat))),(20,.av (int (x.1:Nat)))],λ_=>[],
  λx st'=>x.1<=ns.length/\App 10 st1 x.2.1 (rws zn x.2.2) st'/\x.2.2.map (·.id)=ns.take x.1/\∀u∈x.2.2,u∈w.U/\u.inn=0,λx=>ns.length-x.1⟩ zb ?_ ?_
 ·exact⟨(0,_,[]),Tv,⟨Fae _,App.start 10 st1,rfl,λu hu=>(by cases hu)⟩,⟨Tq,Tq,Tq,Tq,Tq,Tv⟩,Tv⟩
 rintro⟨i,v2,us⟩ st' ⟨hi,ha,hus,hin⟩;dsimp only at hi ha hus hin⊢;refine bcd (λh1=>?_) (λh1=>?_);rotate_left
 ·have:i=ns.length:=θ;subst this;rw[Fal]at hus;exact⟨_,_,AV.le_trans ha.le (Tt),ha.has.trans hback,hfin us hus hin⟩
 have hlt:i<ns.length:=θ;obtain⟨b,J,rfl,hob⟩:=hget i hlt;have hob':st'.obj b=some (.cells (ns.map aI++J)):=by rw[ha.obj];exact hob
 have hos:st'.obj s=some (.cells (stC w o0 o1 o2 p)):=by rw[ha.obj];exact ho'
 refine⟨i,rfl,hlt,?_⟩;refine Qav ?_;refine za (o:=List.head? _) (int ns[i]) ψt ?_;refine Qav ?_;refine oz w.U θ hr ns[i] _ _ (λk hk z hz=>?_);obtain⟨e,he,hid,_⟩:=(g6.2 ns[i]).1 (Faa hlt);obtain⟨u,hu,hu0,rfl⟩:=(hL e).1 he;have hfound:∃hk2:k<w.U.length,w.U[k].id=ns[i]:=by
  obtain⟨j,hj,rfl⟩:=Faj hu;have h5:j>=k:=Decidable.byContradiction λhn2=>by have:=hk.2.1 j hj θ;have h6:(w.U[j]).id=ns[i]:=hid;omega
  have h7:k<w.U.length:=θ;refine⟨h7,?_⟩;have h8:=hk.2.2 k h7 (Fak _);have h6:(w.U[j]).id=ns[i]:=hid;by_cases e:k=j
  ·subst e;exact h6
  ·have:=Gg hr (show k<j by omega) hj;omega
 obtain⟨hk2,hk3⟩:=hfound;refine Qav ?_;refine⟨k,rfl,za _ (zq hk2) ?_⟩;refine⟨ψ,?_⟩;have hul:us.length=i:=by have:=congrArg List.length hus;rw[Fap,Fam]at this;omega
 refine Bj (ie:=ti72) (rows':=[zn w.U[k]]) ha ?_ ?_ ⟨?_,?_⟩ (λv3 st3 ha3=>?_)
 ·rfl
 ·rfl
 ·simp only[zj,Fas,ti72];omega
 ·simp only[zj,Fas];omega
 refine Qd ?_;have huk:w.U[k]=u:=Ic hr (Faa hk2) hu (by rw[hk3];exact hid.symm);refine⟨(i+1,v3,us++[w.U[k]]),?_,⟨ζ,?_,?_,λu2 hu2=>?_⟩,Qaq,Tv⟩
 ·show ns.length-(i+1)<ns.length-i;omega
 ·dsimp only;unfold rws at ha3⊢;rw[Fax];exact ha3
 ·dsimp only;rw[Fax,hus,Fab hlt];simp[hk3]
 ·rcases Fat.1 hu2 with h9|h9
  ·exact hin u2 h9
  ·simp at h9;subst h9;rw[huk];exact⟨hu,hu0⟩
theorem zzb{L:List Ent}(hS:StandAt F s p w L o0 o1 o2)(hg:zt w.G)(hB:w.B.length<=1000000000000)(hb:∀b∈w.B,yk b/\onP w.G b)(hr:yl w.U)(hU:w.U.length<=1000000)(hn:∀u∈w.U,u.pos.ok)(hLl:L.length<=w.U.length)(hL:D3 w L)
  (id k:Int) (q:Vc) (hq:q.ok) (R:Ja)
  (h:∀z F' q0 q1 q2,(z=true↔qu w id k q)->StandAt F' s p w L q0 q1 q2->R (V.bool z) (F'.un (stS s w q0 q1 q2 p))):Jb 110 [ptr s,int id,int k,.agg (yd q)] (F.un (stS s w o0 o1 o2 p)) R:=by
 have ho:=zf (a:=F) (Hb s w o0 o1 o2 p);have hk:=Dk k;have hc:=Mw k;refine Qa (c:=cfg 56) zb Tryz.func110 ?_;refine ju k _ _ ?_;refine Qc zb uo ?_;refine za (o:=(F.un (stS s w _ _ _ p)).obj s) _ ho ?_;refine⟨zyw hS hg hB hb (qi k) hc _ (λa0 a1 a2 hS1=>⟨?_,?_⟩),Tv⟩
 ·have ho1:=zf (a:=F) (Hb s w a0 a1 a2 p);repeat(first|exact Tv|refine⟨rfl,?_⟩|refine⟨za (o:=(F.un (stS s w a0 a1 a2 p)).obj s) _ ho1 rfl,?_⟩)
 refine⟨zd1 w.G hg w.B (qi k) q hq (zx k) ⟨hk.1,θ⟩ _ _ (λz hz=>⟨Tv,?_⟩),Tv⟩;refine yi ?_;refine zk (λc1=>?_) (λc1=>ret (h false _ _ _ _ ψu hS1));have hfree:=hz.1 c1;refine zzg hS1 hr hU hn hLl hL q hq (zx k) ⟨hk.1,θ⟩ _ (λF' us hS2 hus hul=>?_);have hci:=zfi (id:=id) hfree hus;have no:¬qu w id k q->R (V.bool false) (F'.un (stS s w a0 a1 a2 p)):=λhh=>h false _ _ _ _ θ1 hS2
 refine AWp.loop (σ:=Nat) ⟨λi=>[(1,.av (int id)),(7,.bx 7 0),(9,.bx 9 0),(32,.av (lst 10 zn us)),(33,.av (int (us.length:Nat))),(34,.av (int (i:Nat)))],λ_=>[(7,yd q),(9,Fw k)],
  λi st'=>st'=F'.un (stS s w a0 a1 a2 p)/\i<=us.length/\∀j,(hj:j<us.length)->j<i->us[j].id≠id->vf q (zx k) us[j].pos (zx us[j].kind)=true,λi=>us.length-i⟩ zb ?_ ?_
 ·refine⟨0,Tv,⟨rfl,Fae _,λj _ hj=>θ⟩,⟨Tq,Tq,Tq,Tq,?_,Tq,Tv⟩,⟨rfl,rfl,Tv⟩⟩;rw[<-zj (f:=zn) us];exact Tq
 rintro i st' ⟨rfl,hi,hall⟩;refine bcd (λh1=>?_) (λh1=>?_);rotate_left
 ·refine ret (h true _ _ _ _ ψv hS2)
 have hlt:i<us.length:=θ;have hui:=(hus us[i]).1 (Faa hlt);have next:(us[i].id≠id->vf q (zx k) us[i].pos (zx us[i].kind)=true)->∀j,(hj:j<us.length)->j<i+1->us[j].id≠id->vf q (zx k) us[j].pos (zx us[j].kind)=true:=λhh j hj hji=>by
  by_cases e:j=i
  ·subst e;exact hh
  ·exact hall j hj θ
 refine⟨i,rfl,za _ (zq hlt) ?_⟩;refine Qc zb um ?_;refine qf (λc2=>?_) (λc2=>?_)
 ·refine⟨ju us[i].kind _ _ ⟨Qe,?_⟩,Tv⟩;have hk2:=Dk us[i].kind;refine⟨zgt q (zx k) us[i].pos (zx us[i].kind) hq (hn _ hui.1.1) ⟨hk.1,θ⟩ ⟨hk2.1,θ⟩ _ _ ⟨Tv,?_⟩,Tv⟩;refine yi ?_;refine zk (λc3=>?_) (λc3=>?_)
  ·refine Qd ?_;refine⟨i+1,?_,⟨rfl,θ,next λ_=>c3⟩,Qaq,⟨rfl,rfl,Tv⟩⟩;show us.length-(i+1)<us.length-i;omega
  ·refine ret (no λhh=>?_);have:=hci.1 hh us[i] (Faa hlt) c2;rw[this]at c3;cases c3
 ·refine Qat ?_;refine Qau ?_;refine Qd ?_;refine⟨i+1,?_,⟨rfl,θ,next λhne=>absurd c2 hne⟩,Qaq,⟨rfl,rfl,Tv⟩⟩;show us.length-(i+1)<us.length-i;omega
end
theorem ykw{R:Ja}{b:Bool}{st:Store}(h:R (V.bool b) st)(hb:b=true):R (V.bool true) st:=by rw[hb]at h;exact h
theorem ynp(w:Wld)(b:Bld)(p:Nat)(st:Store)(hp:st.obj p=some (.cells (zo w)))(R:Ja)(h:R (V.bool (decide (b.owner>w.players\/b.id>=w.next))) st):
  Jb 180 ([.agg (zi b)]++[ptr p]) st R:=by
 refine Qa (c:=cfg 16) zb Tryz.func180 ?_;refine za _ hp ?_;refine bcd (λc1=>ret (ykw h (decide_eq_true (.inl c1)))) (λc1=>?_);refine za _ hp ?_;refine ret ?_;have e:decide (b.owner>w.players\/b.id>=w.next)=decide (b.id>=w.next):=by rw[Fbu,decide_eq_true_iff,decide_eq_true_iff];omega
 rw[e]at h;exact h
theorem yno(w:Wld)(hw:w.fits)(st:Store)(R:Ja)(h:∀z:Bool,(z=true↔Iy w)->R (V.bool z) st):Jb 107 [.agg (zo w)] st R:=by
 obtain⟨hw1,hw2,hw3⟩:=hw;refine Qa (c:=cfg 54 [1] []) zb Tryz.func107 ?_;intro p hp;have ho:(st.sO p (.cells (zo w))).obj p=some (.cells (zo w)):=zd _ _ _;have nof:¬Iy w->∃r st',AV.le (V.bool false) r/\(st.sO p (.cells (zo w))).Has st'/\R r st':=λhn=>Cw (Tt) (C0 hp.1) (h false θ0);refine za _ ho ?_;refine bcd (λc1=>nof λq=>γ) (λc1=>?_);refine za _ ho ?_;refine bcd (λc2=>nof λq=>γ) (λc2=>?_);refine za _ ho ?_;refine bcd (λc3=>nof λq=>γ) (λc3=>?_);refine za _ ho ?_;refine bcd (λc4=>nof λq=>γ) (λc4=>?_);refine za _ ho ?_;refine bcd (λc5=>nof λq=>γ) (λc5=>?_);refine za _ ho ?_;refine bcd (λc6=>nof λq=>γ) (λc6=>?_);refine za _ ho ?_;refine zdj w.G hw1 _ _ (λz hz=>?_);refine yi ?_;refine zk (λc7=>?_) (λc7=>nof λq=>by have:=hz.2 q.2.1.1;rw[this]at c7;cases c7);have hg:=hz.1 c7;refine za _ ho ?_;refine za _ ho ?_;refine yrk w.G hg w.B hw2 _ _ (λz hz=>?_);refine yi ?_;refine zk (λc8=>?_) (λc8=>nof λq=>by have:=hz.2 q.2.1.2.1;rw[this]at c8;cases c8);have hb:=hz.1 c8;refine za _ ho ?_;have hUl:((rws zn w.U).length:Int)=(w.U.length:Int):=θc;refine bcd (λc9=>nof λq=>by have:=q.2.1.2.2;omega) (λc9=>?_);refine za _ ho ?_;refine zf8 w.B hw2 _ _ (λb=>decide (b.owner>w.players\/b.id>=w.next)) _ (λb hb R h=>ynp w b p _ ho R h) _ ?_;refine Cw (Tt) (C0 hp.1) (h _ ?_);rw[Fb9,Fdq];constructor
 ·intro hh;refine⟨θ,⟨hg,hb,θ⟩,λb hb2=>?_⟩;have:=hh b hb2;rw[decide_eq_true_iff]at this;omega
 ·intro hh b hb2;have:=hh.2.2 b hb2;rw[decide_eq_true_iff];omega
def Nm(cs:List (Int×Int))(bs:List Nat)(clk:Nat):AObj:=.map (cs.map (yu int)) bs clk
def bh(m:Nat):AV:=.s (.map (some m))
theorem yfh(w:Wld)(hU:w.U.length<=1000000)(hr:yl w.U)(st:Store)(R:Ja)(h:∀z:Bool,(z=true↔∀u∈w.U,u.inn≠0->Bs w u)->R (V.bool z) st):Jb 111 [.agg (zo w)] st R:=by
 refine Qa (c:=cfg 85) zb Tryz.func111 ?_;refine Hw rfl (λm hm=>?_);have hhas:∀x,(st.sO m x).Has st:=λx=>C0 hm.1;have nof:∀x,¬(∀u∈w.U,u.inn≠0->Bs w u)->∃r st',AV.le (V.bool false) r/\(st.sO m x).Has st'/\R r st':=λx hn=>Cw (Tt) (hhas x) (h false θ0)
 refine AWp.loop (σ:=Nat×List (Int×Int)×List Nat×Nat) ⟨λx=>[(1,.bx 1 0),(3,.av (bh m)),(11,.av (lst 10 zn w.U)),(12,.av (int (w.U.length:Nat))),(13,.av (int (x.1:Nat)))],λ_=>[(1,zo w)],
  λx st'=>x.1<=w.U.length/\st'=st.sO m (Nm x.2.1 x.2.2.1 x.2.2.2)/\(∀id,id≠0->(yw x.2.1 id).getD 0=((z8 (w.U.take x.1) id).length:Int))/\fq w x.1,λx=>w.U.length-x.1⟩ zb ?_ ?_
 ·refine⟨(0,[],[],0),Tv,⟨Fae _,rfl,λid _=>rfl,λj _ hj=>θ,λx _ _=>(Mv _).1⟩,⟨Tq,Tq,Tq,?_,Tq,Tv⟩,⟨rfl,Tv⟩⟩;rw[<-zj (f:=zn) w.U];exact Tq
 rintro⟨i,cs,bs,clk⟩ st' ⟨hi,rfl,hcnt,hup⟩;dsimp only at hi hcnt hup⊢;refine bcd (λh1=>?_) (λh1=>?_);rotate_left
 ·have:i=w.U.length:=θ;subst this;exact Cw (Tt) (hhas _) (h true (by simp only[true_iff];exact yfj hup))
 have hlt:i<w.U.length:=θ;have hui:=Faa hlt;refine⟨i,rfl,za _ (zq hlt) ?_⟩;refine zw (λc1=>?_) (λc1=>?_)
 ·refine Qd ?_;refine⟨(i+1,cs,bs,clk),?_,⟨ζ,rfl,λid hid=>?_,λj hj hji hne=>?_,λx hx hx0=>?_⟩,Qaq,⟨rfl,Tv⟩⟩
  ·show w.U.length-(i+1)<w.U.length-i;omega
  ·dsimp only;rw[hcnt id hid,Pj hlt,if_neg (by rw[c1];omega)];omega
  ·by_cases e:j=i
   ·subst e;exact absurd c1 hne
   ·exact hup.1 j hj ψc hne
  ·dsimp only;rw[Pj hlt,if_neg (by rw[c1];omega)];have:=hup.2 x hx hx0;omega
 refine oz w.U θ hr w.U[i].inn _ _ (λk hk z hz=>?_);have nou:∀x,¬Bs w w.U[i]->∃r st',AV.le (V.bool false) r/\(st.sO m x).Has st'/\R r st':=λx hn=>nof x λhh=>hn (hh _ hui c1);have found:Bs w w.U[i]->z=true:=λ⟨x,hx,e,_⟩=>by
  obtain⟨j,hj,rfl⟩:=Faj hx;refine hz.2 ?_;have h5:j>=k:=Decidable.byContradiction λhn2=>by have:=hk.2.1 j hj θ;omega
  have h7:k<w.U.length:=θ;refine⟨h7,?_⟩;have h8:=hk.2.2 k h7 (Fak _);by_cases e2:k=j
  ·subst e2;exact e
  ·have:=Gg hr (show k<j by omega) hj;omega
 refine yi ?_;refine zk (λc2=>?_) (λc2=>nou _ λhh=>by rw[found hh]at c2;cases c2);obtain⟨hkl,hkid⟩:=hz.1 c2;have uniq:Bs w w.U[i]->(w.U[k].inn=0/\w.U[k].owner=w.U[i].owner)/\((z8 w.U w.U[i].inn).length:Int)<=jh w.U[k].kind:=λ⟨x,hx,e,e2,e3,_⟩=>by have:=Ic hr hx (Faa hkl) (by rw[e,hkid]);subst this;exact⟨e2,e3⟩
 refine ju w.U[i].kind _ _ ?_;refine bcd (λc3=>nou _ λ⟨x,_,_,_,_,e,_⟩=>θ) (λc3=>?_);have hroom:jh w.U[i].kind=0:=by have:=Mv w.U[i].kind;omega
 refine yi ?_;refine zk (λc4=>?_) (λc4=>nou _ λ⟨x,_,_,_,_,_,e,_⟩=>by rw[e]at c4;cases c4);have hpos:w.U[i].pos=(0,0):=by have:(w.U[i].pos.1==0&&(w.U[i].pos.2==0&&true))=true:=c4;simp at this;exact Prod.ext this.1 this.2
 refine qf (λc5=>nou _ λ⟨x,_,_,_,_,_,_,e,_⟩=>c5 e) (λc5=>?_);refine qf (λc6=>nou _ λ⟨x,_,_,_,_,_,_,_,e⟩=>c6 e) (λc6=>?_);refine⟨k,rfl,za _ (zq hkl) ?_⟩;have hmo:(st.sO m (Nm cs bs clk)).obj m=some (Nm cs bs clk):=zd _ _ _;refine Ak rfl (it:=ti308) (ie:=ti2) (ik:=ti2) rfl rfl rfl rfl hmo rfl (qA w.U[k].id) (λe he=>?_) ?_
 ·obtain⟨e,_,rfl⟩:=Fai.1 he;rfl
 rw[Hk];have hz0:w.U[k].id≠0:=by rw[hkid];exact c1
 have hcv:(Option.map int (yw cs w.U[k].id)).getD (Dq ti2)=int ((z8 (w.U.take i) w.U[k].id).length:Int):=by rw[<-hcnt _ hz0];cases yw cs w.U[k].id<;>rfl
 rw[hcv];have hcl:(z8 (w.U.take i) w.U[k].id).length<=1000000:=by have h1:=Wh (l:=w.U) i w.U[k].id;have h2:(z8 w.U w.U[k].id).length<=w.U.length:=θ2;omega
 refine Qd ?_;refine Fg (.inl rfl) rfl (it:=ti308) (ik:=ti2) rfl rfl rfl (es:=cs.map (yu int)) (bs:=bs) (clk:=clk) (k:=int w.U[k].id) (v:=int (((z8 (w.U.take i) w.U[k].id).length:Int)+1)) hmo rfl rfl (qA w.U[k].id) (λe he=>?_) (λe1 he hq=>?_) ?_
 ·obtain⟨e,_,rfl⟩:=Fai.1 he;rfl
 ·obtain⟨g1,_,rfl⟩:=Fai.1 he;have:w.U[k].id=g1.1:=by simpa [qA,yu,int]using hq
  show int g1.1=_;rw[this]
 obtain⟨bs',clk',hput⟩:=K8 int cs bs clk w.U[k].id (((z8 (w.U.take i) w.U[k].id).length:Int)+1);have hput:vq (cs.map (yu int)) bs clk (qA w.U[k].id) (int w.U[k].id) (int (((z8 (w.U.take i) w.U[k].id).length:Int)+1))=Nm (yp cs w.U[k].id (((z8 (w.U.take i) w.U[k].id).length:Int)+1)) bs' clk':=hput;rw[hput,ym];have hmo2:(st.sO m (Nm (yp cs w.U[k].id (((z8 (w.U.take i) w.U[k].id).length:Int)+1)) bs' clk')).obj m=some (Nm (yp cs w.U[k].id (((z8 (w.U.take i) w.U[k].id).length:Int)+1)) bs' clk'):=zd _ _ _;have hlook:Ft false (Dq ti2) (((yp cs w.U[k].id (((z8 (w.U.take i) w.U[k].id).length:Int)+1)).map (yu int)).find? (qA w.U[k].id))=int (((z8 (w.U.take i) w.U[k].id).length:Int)+1):=by rw[Hk,C7,if_pos rfl];rfl
 have hsucc:=Pj hlt w.U[k].id;rw[if_pos hkid.symm]at hsucc;have hcnt2:∀id,id≠0->(yw (yp cs w.U[k].id (((z8 (w.U.take i) w.U[k].id).length:Int)+1)) id).getD 0=((z8 (w.U.take (i+1)) id).length:Int):=λid hid=>by
  rw[C7];by_cases e:id=w.U[k].id
  ·rw[if_pos e,e,hsucc];rfl
  ·rw[if_neg e,hcnt id hid,Pj hlt,if_neg (by rw[<-hkid];exact Ne.symm e)];omega
 generalize yp cs w.U[k].id (((z8 (w.U.take i) w.U[k].id).length:Int)+1)=cs2 at*;have over:jh w.U[k].kind<((z8 (w.U.take i) w.U[k].id).length:Int)+1->¬Bs w w.U[i]:=λhh hp=>by have h2:=(uniq hp).2;have h3:=Wh (l:=w.U) (i+1) w.U[k].id;rw[<-hkid]at h2;omega
 have good:w.U[k].inn=0->w.U[k].owner=w.U[i].owner->((z8 (w.U.take i) w.U[k].id).length:Int)+1<=jh w.U[k].kind->fq w (i+1):=λe1 e2 e3=>by
  refine⟨λj hj hji hne=>?_,λx hx hx0=>?_⟩
  ·by_cases e:j=i
   ·subst e;exact⟨w.U[k],Faa hkl,hkid,⟨e1,e2⟩,hroom,hpos,c5,c6⟩
   ·exact hup.1 j hj θ hne
  ·by_cases e:x.id=w.U[k].id
   ·have:=Ic hr hx (Faa hkl) e;subst this;omega
   ·rw[Pj hlt,if_neg (by rw[<-hkid];exact Ne.symm e)];have:=hup.2 x hx hx0;omega
 refine Qc zb ydw ?_;refine qf (λc7=>?_) (λc7=>?_)
 ·refine⟨⟨Qe,⟨⟨Qe,nou _ (λhh=>c7 (uniq hh).1.1)⟩,Tv⟩⟩,⟨⟨Qe,⟨⟨Qe,nou _ (λhh=>c7 (uniq hh).1.1)⟩,Tv⟩⟩,Tv⟩⟩
 refine qf (λc8=>?_) (λc8=>?_)
 ·refine⟨⟨Qe,⟨⟨Qe,nou _ (λhh=>c8 (uniq hh).1.2)⟩,Tv⟩⟩,⟨⟨Qe,⟨⟨Qe,nou _ (λhh=>c8 (uniq hh).1.2)⟩,Tv⟩⟩,Tv⟩⟩
 refine⟨?_,?_,Tv⟩
 ·refine Ak rfl (it:=ti308) (ie:=ti2) (ik:=ti2) rfl rfl rfl rfl hmo2 rfl (qA w.U[k].id) (λe he=>ψo) ?_;rw[hlook];refine⟨Qe,?_⟩;refine⟨ju w.U[k].kind _ _ ⟨Qe,?_⟩,Tv⟩;refine bcd (λc9=>nou _ (over θ)) (λc9=>?_);refine Qd ?_;refine⟨(i+1,cs2,bs',clk'),?_,⟨ζ,rfl,hcnt2,good c7 c8 θ⟩,Qaq,⟨rfl,Tv⟩⟩;show w.U.length-(i+1)<w.U.length-i;omega
 ·refine ju w.U[k].kind _ _ ⟨Qe,?_⟩;refine⟨?_,Tv⟩;refine Ak rfl (it:=ti308) (ie:=ti2) (ik:=ti2) rfl rfl rfl rfl hmo2 rfl (qA w.U[k].id) (λe he=>ψo) ?_;rw[hlook];refine⟨Qe,?_⟩;refine bcd (λc9=>nou _ (over θ)) (λc9=>?_);refine Qd ?_;refine⟨(i+1,cs2,bs',clk'),?_,⟨ζ,rfl,hcnt2,good c7 c8 θ⟩,Qaq,⟨rfl,Tv⟩⟩;show w.U.length-(i+1)<w.U.length-i;omega
def tkO(cs:List (Int×Bool))(bs:List Nat)(clk:Nat):AObj:=.map (cs.map (yu V.bool)) bs clk
theorem yjn(w:Wld)(hw:w.fits)(hn:∀u∈w.U,u.pos.ok):Jb 47 [.agg (zo w)] Store.empty λr _=>∃z,r=V.bool z/\(z=true↔z7 w):=by
 have no:¬z7 w->∃z,V.bool false=V.bool z/\(z=true↔z7 w):=λhn=>⟨false,rfl,δ⟩
 refine Qb (c:=cfg 87) zb Tryz.func47 ?_;refine AWp.seq (AWp.of_vc zb ?_);refine AWp.seq (AWp.of_vc zb ?_);refine yno w hw _ _ (λz hz=>?_);refine yi ?_;refine zk (λc1=>?_) (λc1=>ret (no λq=>by have:=hz.2 q.1.1;rw[this]at c1;cases c1));have hh:=hz.1 c1;have hg:=hh.2.1.1;have hbl:=hh.2.1.2.1;have hBl:w.B.length<=256:=hbl.1;have hU:w.U.length<=4096:=hh.2.1.2.2;have hbb:∀b∈w.B,yk b/\onP w.G b:=λb hb=>⟨(hbl.2.2.1 b hb).1,(hbl.2.2.1 b hb).2.1⟩
 refine AWp.seq (AWp.of_vc zb ?_);refine Hw rfl (λm hm=>?_);refine AWp.meetA (σ:=List (Int×Bool)×List Nat×Nat) ⟨λ_=>[(1,.bx 1 0),(3,.av (bh m))],λ_=>[(1,zo w)],λx st'=>st'=Store.empty.sO m (tkO x.1 x.2.1 x.2.2)/\∀id,(yw x.1 id).getD false=true↔∃b∈w.B,b.id=id⟩ ?_ ?_
 ·refine AWp.of_vc zb ?_
  refine AWp.loop (σ:=Nat×List (Int×Bool)×List Nat×Nat) ⟨λx=>[(1,.bx 1 0),(3,.av (bh m)),(16,.av (lst 6 zi w.B)),(17,.av (int (w.B.length:Nat))),(18,.av (int (x.1:Nat)))],λ_=>[(1,zo w)],
   λx st'=>x.1<=w.B.length/\st'=Store.empty.sO m (tkO x.2.1 x.2.2.1 x.2.2.2)/\∀id,(yw x.2.1 id).getD false=true↔∃b∈w.B.take x.1,b.id=id,λx=>w.B.length-x.1⟩ zb ?_ ?_
  ·refine⟨(0,[],[],0),Tv,⟨Fae _,rfl,λid=>⟨λh=>ω,λ⟨b,hb,_⟩=>(by simp at hb)⟩⟩,⟨Tq,Tq,Tq,?_,Tq,Tv⟩,⟨rfl,Tv⟩⟩;rw[<-zj (f:=zi) w.B];exact Tq
  rintro⟨i,cs,bs,clk⟩ st' ⟨hi,rfl,htk⟩;dsimp only at hi htk⊢;refine bcd (λh1=>?_) (λh1=>?_);rotate_left
  ·have:i=w.B.length:=θ;subst this;rw[Fal]at htk;exact⟨(cs,bs,clk),⟨rfl,htk⟩,⟨Tq,Tq,Tv⟩,⟨rfl,Tv⟩⟩
  have hlt:i<w.B.length:=θ;refine⟨i,rfl,za _ (zq hlt) ?_⟩;have hmo:(Store.empty.sO m (tkO cs bs clk)).obj m=some (tkO cs bs clk):=zd _ _ _;refine Fg (.inl rfl) rfl (it:=ti214) (ik:=ti2) rfl rfl rfl (es:=cs.map (yu V.bool)) (bs:=bs) (clk:=clk) (k:=int w.B[i].id) (v:=V.bool true) hmo rfl rfl (qA w.B[i].id) (λe he=>?_) (λe1 he hq=>?_) ?_
  ·obtain⟨e,_,rfl⟩:=Fai.1 he;rfl
  ·obtain⟨g1,_,rfl⟩:=Fai.1 he;grind[qA,yu,int]
  obtain⟨bs',clk',hput⟩:=K8 V.bool cs bs clk w.B[i].id true;have hput:vq (cs.map (yu V.bool)) bs clk (qA w.B[i].id) (int w.B[i].id) (V.bool true)=tkO (yp cs w.B[i].id true) bs' clk':=hput;rw[hput,ym];refine Qd ?_;refine⟨(i+1,yp cs w.B[i].id true,bs',clk'),?_,⟨ζ,rfl,λid=>?_⟩,Qaq,⟨rfl,Tv⟩⟩
  ·grind
  ·dsimp only;rw[C7,Fab hlt];grind
 rintro⟨cs,bs,clk⟩ st' ⟨rfl,htk⟩;dsimp only at htk⊢;have hmo:(Store.empty.sO m (tkO cs bs clk)).obj m=some (tkO cs bs clk):=zd _ _ _;have hhas:(Store.empty.sO m (tkO cs bs clk)).Has Store.empty:=C0 rfl;refine AWp.meetA (σ:=Unit) ⟨λ_=>[(1,.bx 1 0)],λ_=>[(1,zo w)],λ_ st'=>st'=Store.empty.sO m (tkO cs bs clk)/\Hz w w.U.length⟩ ?_ ?_
 ·refine AWp.of_vc zb ?_
  refine AWp.loop (σ:=Nat) ⟨λi=>[(1,.bx 1 0),(3,.av (bh m)),(27,.av (lst 10 zn w.U)),(28,.av (int (w.U.length:Nat))),(29,.av (int (i:Nat)))],λ_=>[(1,zo w)],
   λi st'=>i<=w.U.length/\st'=Store.empty.sO m (tkO cs bs clk)/\Hz w i,λi=>w.U.length-i⟩ zb ?_ ?_
  ·refine⟨0,Tv,⟨Fae _,rfl,λj _ hj=>θ⟩,⟨Tq,Tq,Tq,?_,Tq,Tv⟩,⟨rfl,Tv⟩⟩;rw[<-zj (f:=zn) w.U];exact Tq
  rintro i st' ⟨hi,rfl,hup⟩;refine bcd (λh1=>?_) (λh1=>?_);rotate_left
  ·have:i=w.U.length:=θ;subst this;exact⟨(),⟨rfl,hup⟩,⟨Tq,Tv⟩,⟨rfl,Tv⟩⟩
  have hlt:i<w.U.length:=θ;have nou:¬((jx w w.U[i]/\∀b∈w.B,b.id≠w.U[i].id)/\(0<i->(w.U[i-1]'θ).id<w.U[i].id))->∃z,V.bool false=V.bool z/\(z=true↔z7 w):=λhq=>no λq=>hq (rl q.1.2 (i+1) i hlt θ);refine⟨i,rfl,za _ (zq hlt) ?_⟩;refine Qc zb yae ?_;refine⟨ysw w w.U[i] hg _ _ (λz hz=>⟨Tv,?_⟩),Tv⟩;refine yi ?_;refine zk (λc2=>?_) (λc2=>⟨⟨Tv,ret (nou λq=>δ)⟩,Tv⟩);have hunt:=hz.1 c2;refine⟨Ak rfl (it:=ti214) (ie:=ti4) (ik:=ti2) rfl rfl rfl rfl hmo rfl (qA w.U[i].id) (λe he=>ψo) ?_,Tv⟩;rw[Hk];have hcv:(Option.map V.bool (yw cs w.U[i].id)).getD (Dq ti4)=V.bool ((yw cs w.U[i].id).getD false):=by cases yw cs w.U[i].id<;>rfl
  rw[hcv];have htki:=htk w.U[i].id;generalize(yw cs w.U[i].id).getD false=tk at htki;refine⟨Tv,?_⟩;refine zk (λc3=>ret (nou λq=>δ)) (λc3=>?_);have hnb:∀b∈w.B,b.id≠w.U[i].id:=λb hb e=>δ;have next:(0<i->(w.U[i-1]'θ).id<w.U[i].id)->Hz w (i+1):=λhq j hj hji=>by
   by_cases e:j=i
   ·grind
   ·exact hup j hj θ
  have fin:Hz w (i+1)->yg ((i:Int)+1)/\(i+1<=w.U.length/\Store.empty.sO m (tkO cs bs clk)=Store.empty.sO m (tkO cs bs clk)/\Hz w (i+1)):=λhq=>⟨⟨θ,θ⟩,θ,rfl,hq⟩
  refine bcd (λc4=>?_) (λc4=>?_)
  ·have hi0:0<i:=θ;refine Qd ?_;refine⟨i-1,θ,za _ (zq (show i-1<w.U.length by omega)) ?_⟩;refine bcd (λc5=>ret (nou λq=>by have:=q.2 hi0;omega)) (λc5=>?_);obtain⟨f1,f2⟩:=fin (next λ_=>θ);refine⟨f1,?_⟩;refine⟨i+1,?_,f2,Qaq,⟨rfl,Tv⟩⟩;grind
  ·obtain⟨f1,f2⟩:=fin (next λh0=>absurd h0 θ);refine⟨f1,?_⟩;refine⟨i+1,?_,f2,Qaq,⟨rfl,Tv⟩⟩;grind
 rintro _ _ ⟨rfl,hall⟩;have hok:=rm hall;refine AWp.leS hhas.toLe ?_;refine AWp.seq (AWp.of_vc zb ?_);refine yh0 w θ hn _ (λF s p L o0 o1 o2 hS hLl hL=>?_);have hLm:=hL hok.1;refine AWp.meetA (σ:=Unit) ⟨λ_=>[(1,.bx 1 0)],λ_=>[(1,zo w)],λ_ st'=>∀u∈w.U,u.inn=0->qu w u.id u.kind u.pos⟩ ?_ ?_
 ·refine AWp.of_vc zb ?_
  refine AWp.loop (σ:=Nat×Store×AV×AV×AV) ⟨λx=>[(1,.bx 1 0),(8,.av (ptr s)),(64,.av (lst 10 zn w.U)),(65,.av (int (w.U.length:Nat))),(66,.av (int (x.1:Nat)))],λ_=>[(1,zo w)],
   λx st'=>x.1<=w.U.length/\st'=x.2.1.un (stS s w x.2.2.1 x.2.2.2.1 x.2.2.2.2 p)/\StandAt x.2.1 s p w L x.2.2.1 x.2.2.2.1 x.2.2.2.2/\∀j,(hj:j<w.U.length)->j<x.1->w.U[j].inn=0->qu w w.U[j].id w.U[j].kind w.U[j].pos,λx=>w.U.length-x.1⟩ zb ?_ ?_
  ·refine⟨(0,F,o0,o1,o2),Tv,⟨Fae _,rfl,hS,λj _ hj=>θ⟩,⟨Tq,Tq,Tq,?_,Tq,Tv⟩,⟨rfl,Tv⟩⟩;rw[<-zj (f:=zn) w.U];exact Tq
  rintro⟨i,F1,a0,a1,a2⟩ st' ⟨hi,rfl,hS1,hcl⟩;dsimp only at hi hS1 hcl⊢;refine bcd (λh1=>?_) (λh1=>?_);rotate_left
  ·have:i=w.U.length:=θ;subst this;refine⟨(),λu hu h0=>?_,⟨Tq,Tv⟩,⟨rfl,Tv⟩⟩;obtain⟨j,hj,rfl⟩:=Faj hu;exact hcl j hj hj h0
  have hlt:i<w.U.length:=θ;have hui:=Faa hlt;have next:(w.U[i].inn=0->qu w w.U[i].id w.U[i].kind w.U[i].pos)->∀j,(hj:j<w.U.length)->j<i+1->w.U[j].inn=0->qu w w.U[j].id w.U[j].kind w.U[j].pos:=λhq j hj hji=>δ
  refine⟨i,rfl,za _ (zq hlt) ?_⟩;refine zw (λc2=>?_) (λc2=>?_)
  ·refine zzb hS1 hg θ hbb hok.1 θ hn hLl hLm w.U[i].id w.U[i].kind w.U[i].pos (hn _ hui) _ (λz F2 b0 b1 b2 hz hS2=>?_);refine yi ?_;refine zk (λc3=>?_) (λc3=>ret (no λq=>by have:=hz.2 (q.2.1 _ hui c2);rw[this]at c3;cases c3));refine Qd ?_;refine⟨(i+1,F2,b0,b1,b2),?_,⟨ζ,rfl,hS2,next λ_=>hz.1 c3⟩,Qaq,⟨rfl,Tv⟩⟩;grind
  ·refine Qd ?_;refine⟨(i+1,F1,a0,a1,a2),?_,⟨ζ,rfl,hS1,next λh0=>absurd h0 c2⟩,Qaq,⟨rfl,Tv⟩⟩;grind
 rintro _ st' hclear;refine AWp.of_vc zb ?_;refine yfh w θ hok.1 _ _ (λz hz=>?_);refine ret ⟨z,rfl,?_⟩;rw[hz];exact⟨λhq=>⟨⟨hh,hok⟩,hclear,hq⟩,λhq=>hq.2.2⟩
theorem Fv{f:FuncId}{xs:List AV}{Q:AV->Prop}(key:Jb f xs Store.empty λr _=>Q r)(st:Store)(R:Ja)(h:∀r,Q r->R r st):Jb f xs st R:=by
 rw[<-Ag st];refine ACalls.post (ACalls.frame (R':=λr st'=>Q r/\∃a',st'=a'.un st) (λb hb=>?_) key λr a' h1 _=>⟨h1,a',rfl⟩) (Store.Le.refl _) λr st' ⟨h1,a',h2⟩=>⟨r,st,Tt,h2▸ziz,?_⟩
 ·exact(hb.elim (λh=>h rfl) (λh=>h rfl):False).elim
 ·exact h r h1
theorem iy(w:Wld)(hw:w.fits)(hn:∀u∈w.U,u.pos.ok)(st:Store)(R:Ja)(h:∀z:Bool,(z=true↔z7 w)->R (V.bool z) st):Jb 47 [.agg (zo w)] st R:=
 Fv (yjn w hw hn) st R λr ⟨z,e,hz⟩=>e▸h z hz
theorem yfn(w:Wld)(hU:w.U.length<=1000000)(id:Int)(st:Store)(R:Ja)(h:R (int (Fz (w.U.findIdx? λu=>decide (u.id=id)))) st):Jb 33 [.agg (zo w),int id] st R:=by
 refine Qa (c:=cfg 22) zb Tryz.func33 ?_
 refine AWp.loop (σ:=Nat) ⟨λi=>[(1,.av (int id)),(2,.bx 2 0),(5,.av (int (i:Nat)))],λ_=>[(2,zo w)],
  λi st'=>i<=w.U.length/\st'=st/\∀j,(hj:j<w.U.length)->j<i->w.U[j].id≠id,λi=>w.U.length-i⟩ zb ?_ ?_
 ·exact⟨0,Tv,⟨Fae _,rfl,λj _ hj=>θ⟩,Qaq,⟨rfl,Tv⟩⟩
 rintro i st' ⟨hi,rfl,hall⟩;refine zk (λh1=>?_) (λh1=>?_);rotate_left
 ·have:i=w.U.length:=Aw h1 hi;subst this;have e:(w.U.findIdx? λu=>decide (u.id=id))=none:=by
   rw[Fb3];intro x hx;obtain⟨j,hj,rfl⟩:=Faj hx;exact decide_eq_false (hall j hj hj)
  rw[e]at h;exact ret h
 have hlt:=wo h1;refine⟨i,rfl,za _ (zq hlt) ?_⟩;refine zw (λc1=>?_) (λc1=>?_)
 ·have e:(w.U.findIdx? λu=>decide (u.id=id))=some i:=by
   rw[Fbb];exact⟨hlt,decide_eq_true c1,λj hj=>by simpa using hall j θ hj⟩
  rw[e]at h;exact ret h
 ·refine Qd ?_;refine⟨i+1,?_,⟨θ,rfl,λj hj hj2=>?_⟩,Qaq,⟨rfl,Tv⟩⟩
  ·show w.U.length-(i+1)<w.U.length-i;omega
  ·by_cases e:j=i
   ·subst e;exact c1
   ·exact hall j hj θ
theorem zc4{l:List Unt}{i:Nat}(hi:i<l.length)(id:Int):z8 (l.take (i+1)) id=z8 (l.take i) id++(if l[i].inn=id then [l[i].id]else []):=by unfold z8;rw[Fab hi,Fch,Fax];by_cases h:l[i].inn=id<;>simp[h]
theorem yei(w:Wld)(hU:w.U.length<=1000000)(id:Int)(st:Store)(R:Ja)(h:R (yh (z8 w.U id)) st):Jb 45 [.agg (zo w),int id] st R:=by
 refine Qa (c:=cfg 32) zb Tryz.func45 ?_
 refine AWp.loop (σ:=Nat×AV) ⟨λx=>[(1,.av (int id)),(2,.bx 2 0),(5,.av x.2),(6,.av (int (x.1:Nat)))],λ_=>[(2,zo w)],
  λx st'=>x.1<=w.U.length/\App 1 st x.2 (rws zv (z8 (w.U.take x.1) id)) st',λx=>w.U.length-x.1⟩ zb ?_ ?_
 ·exact⟨(0,_),Tv,⟨Fae _,App.start 1 st⟩,⟨Tq,Tq,Tq,Tq,Tv⟩,⟨rfl,Tv⟩⟩
 rintro⟨i,v⟩ st' ⟨hi,ha⟩;dsimp only at hi ha⊢;refine zk (λh1=>?_) (λh1=>?_);rotate_left
 ·have:i=w.U.length:=Aw h1 hi;subst this;rw[Fal]at ha;exact⟨_,st,AV.le_trans ha.le (Tt),ha.has,h⟩
 have hlt:=wo h1;have hs:=zc4 hlt id;have hl1:(z8 (w.U.take i) id).length<=1000000:=by have h1:=Wh (l:=w.U) i id;have h2:(z8 w.U id).length<=w.U.length:=θ2;omega
 refine⟨i,rfl,za _ (zq hlt) ?_⟩;refine zw (λc1=>?_) (λc1=>?_)
 ·rw[if_pos c1]at hs;refine⟨i,rfl,za _ (zq hlt) ?_⟩;refine⟨ψ,?_⟩;refine Bj (ie:=ti2) (rows':=[zv w.U[i].id]) ha ?_ ?_ ⟨?_,?_⟩ (λv3 st3 ha3=>?_)
  ·rfl
  ·rfl
  ·simp only[zj,Fas,ti2];omega
  ·simp only[zj,Fas];omega
  refine Qd ?_;refine⟨(i+1,v3),?_,⟨ζ,?_⟩,Qaq,⟨rfl,Tv⟩⟩
  ·show w.U.length-(i+1)<w.U.length-i;omega
  ·dsimp only;rw[hs];unfold rws;rw[Fax];exact ha3
 ·rw[if_neg c1,Fbn]at hs;refine Qd ?_;refine⟨(i+1,v),?_,⟨ζ,?_⟩,Qaq,⟨rfl,Tv⟩⟩
  ·show w.U.length-(i+1)<w.U.length-i;omega
  ·dsimp only;rw[hs];exact ha
theorem yf3(w:Wld)(hg:zt w.G)(hB:w.B.length<=1000000000000)(hb:∀b∈w.B,yk b/\onP w.G b)(hU:w.U.length<=1000000)(hn:∀u∈w.U,u.pos.ok)(hk:∀u∈w.U,Av u.kind)(id k:Int)(hkk:Av k)(q:Vc)(hq:q.ok)(st:Store)(R:Ja)
  (h:∀z:Bool,(z=true↔qu w id k q)->R (V.bool z) st):Jb 44 [.agg (zo w),int id,int k,.agg (yd q)] st R:=by
 have no:¬qu w id k q->R (V.bool false) st:=λhh=>h false θ1;have hr:=Dk k;have hplace:qu w id k q->qt q.1 q.2:=λhh=>by have h1:=hh.1.1;have h2:=hg.1;have h3:=hg.2.1;unfold qt;omega
 refine Qa (c:=cfg 79) zb Tryz.func44 ?_;refine Sw k hkk _ _ ?_;refine bcd (λc1=>ret (no λhh=>ψd)) (λc1=>?_);refine bcd (λc2=>ret (no λhh=>ψd)) (λc2=>?_);refine bcd (λc3=>ret (no λhh=>ψd)) (λc3=>?_);refine bcd (λc4=>ret (no λhh=>ψd)) (λc4=>?_);have e1:Int.negSucc 1099511627775=-1099511627776:=rfl;refine yfl w.G hg w.B hB hb (qi k) (Mw k) q (by unfold qt;omega) (zx k) ⟨hr.1,θ⟩ _ _ (λz hz=>?_);refine yi ?_;refine zk (λc5=>?_) (λc5=>ret (no λhh=>by have:=hz.2 hh.1;rw[this]at c5;cases c5));have hfree:=hz.1 c5
 refine AWp.loop (σ:=Nat) ⟨λi=>[(1,.av (int id)),(4,.bx 4 0),(7,.bx 7 0),(9,.bx 9 0),(10,.av (int (i:Nat)))],λ_=>[(4,zo w),(7,yd q),(9,Fw k)],
  λi st'=>i<=w.U.length/\st'=st/\∀j,(hj:j<w.U.length)->j<i->w.U[j].inn=0->w.U[j].id≠id->vf q (zx k) w.U[j].pos (zx w.U[j].kind)=true,λi=>w.U.length-i⟩ zb ?_ ?_
 ·exact⟨0,Tv,⟨Fae _,rfl,λj _ hj=>θ⟩,Qaq,⟨rfl,rfl,rfl,Tv⟩⟩
 rintro i st' ⟨hi,rfl,hall⟩;refine zk (λh1=>?_) (λh1=>?_);rotate_left
 ·have:i=w.U.length:=Aw h1 hi;subst this;refine ret (h true (by simp only[true_iff];refine⟨hfree,λu hu h0 hne=>?_⟩;obtain⟨j,hj,rfl⟩:=Faj hu;exact hall j hj hj h0 hne))
 have hlt:=wo h1;have hui:=Faa hlt;have next:(w.U[i].inn=0->w.U[i].id≠id->vf q (zx k) w.U[i].pos (zx w.U[i].kind)=true)->∀j,(hj:j<w.U.length)->j<i+1->w.U[j].inn=0->w.U[j].id≠id->vf q (zx k) w.U[j].pos (zx w.U[j].kind)=true:=λhh j hj hji=>by
  by_cases e:j=i
  ·subst e;exact hh
  ·exact hall j hj θ
 refine⟨i,rfl,za _ (zq hlt) ?_⟩;refine Qc zb yaf ?_;refine zw (λc6=>?_) (λc6=>?_);rotate_left
 ·refine Qat ?_;refine Qau ?_;refine Qd ?_;refine⟨i+1,?_,⟨θ,rfl,next λh0=>absurd h0 c6⟩,Qaq,⟨rfl,rfl,rfl,Tv⟩⟩;show w.U.length-(i+1)<w.U.length-i;omega
 refine qf (λc7=>?_) (λc7=>?_);rotate_left
 ·refine Qat ?_;refine Qau ?_;refine Qd ?_;refine⟨i+1,?_,⟨θ,rfl,next λ_ hne=>absurd c7 hne⟩,Qaq,⟨rfl,rfl,rfl,Tv⟩⟩;show w.U.length-(i+1)<w.U.length-i;omega
 have hr2:=Dk w.U[i].kind;refine⟨Sw w.U[i].kind (hk _ hui) _ _ ⟨Qe,?_⟩,Tv⟩;refine⟨yga q (zx k) w.U[i].pos (zx w.U[i].kind) hq (hn _ hui) ⟨hr.1,θ⟩ ⟨hr2.1,θ⟩ _ _ ⟨Tv,?_⟩,Tv⟩;refine yi ?_;refine zk (λc8=>?_) (λc8=>ret (no λhh=>by have:=hh.2 _ hui c6 c7;rw[this]at c8;cases c8));refine Qd ?_;refine⟨i+1,?_,⟨θ,rfl,next λ_ _=>c8⟩,Qaq,⟨rfl,rfl,rfl,Tv⟩⟩;show w.U.length-(i+1)<w.U.length-i;omega
theorem stOf{s g:Int}:(!((s==1)==(g !=-1)))=false↔(s=1↔g≠-1):=by by_cases h1:s=1<;>by_cases h2:g=-1<;>simp[bne,bv,h1,h2]
theorem yko(k:Int)(st:Store)(R:Ja)(h:∀z a b c d e,(z=true↔Av k)->R (.tup [.agg [int a,int b,int c,int d,int e],V.bool z]) st):Jb 67 [int k] st R:=
 zct k st R (λhk=>h true _ _ _ _ _ (by simp only[true_iff];exact hk)) (λhk=>h false 0 0 0 0 0 (by simp only[Fah,false_iff];exact hk))
theorem yfk(w:Wld)(hw:w.fits)(st:Store)(R:Ja)(h:∀z:Bool,(z=true↔Iy w/\Kc w)->R (V.bool z) st):Jb 43 [.agg (zo w)] st R:=by
 obtain⟨hw1,hw2,hw3⟩:=hw;have no:¬(Iy w/\Kc w)->R (V.bool false) st:=λhh=>h false θ1;refine Qa (c:=cfg 218) zb Tryz.func43 ?_;refine yig w.tick 1099511627776 _ _ (λz hz=>?_);refine yi ?_;refine zk (λc0=>?_) (λc0=>ret (no λq=>by have:=hz.2 q.1.1.1;rw[this]at c0;cases c0));have htick:=hz.1 c0;refine bcd (λc1=>ret (no λq=>by have:=q.1.1;omega)) (λc1=>?_);refine bcd (λc2=>ret (no λq=>by have:=q.1.1;omega)) (λc2=>?_);refine bcd (λc3=>ret (no λq=>by have:=q.1.1;omega)) (λc3=>?_);refine bcd (λc4=>ret (no λq=>by have:=q.1.1;omega)) (λc4=>?_);refine yf4 w.G hw1 w.B hw2 _ _ (λz hz=>?_);refine yi ?_;refine zk (λc5=>?_) (λc5=>ret (no λq=>by have:=hz.2 ⟨q.1.2.1.1,q.1.2.1.2.1⟩;rw[this]at c5;cases c5));obtain⟨hg,hbl⟩:=hz.1 c5;have hBl:w.B.length<=256:=hbl.1;have hUl:((rws zn w.U).length:Int)=(w.U.length:Int):=θc;refine bcd (λc6=>ret (no λq=>by have:=q.1.2.1.2.2;omega)) (λc6=>?_)
 refine AWp.loop (σ:=Nat) ⟨λi=>[(1,.bx 1 0),(3,.av (int (i:Nat)))],λ_=>[(1,zo w)],
  λi st'=>i<=w.B.length/\st'=st/\∀j,(hj:j<w.B.length)->j<i->w.B[j].owner<=w.players/\w.B[j].id<w.next,λi=>w.B.length-i⟩ zb ?_ ?_
 ·exact⟨0,Tv,⟨Fae _,rfl,λj _ hj=>θ⟩,⟨Tq,Tq,Tv⟩,⟨rfl,Tv⟩⟩
 rintro i st' ⟨hi,rfl,hall⟩;refine zk (λh1=>?_) (λh1=>?_)
 ·have hlt:=wo h1;refine Qc zb yag ?_;refine⟨i,rfl,za _ (zq hlt) ?_⟩;refine bcd (λc7=>ret (no λq=>by have:=q.1.2.2 _ (Faa hlt);omega)) (λc7=>?_);refine⟨i,rfl,za _ (zq hlt) ?_⟩;refine bcd (λc8=>ret (no λq=>by have:=q.1.2.2 _ (Faa hlt);omega)) (λc8=>?_);refine Qd ?_;refine⟨i+1,?_,⟨θ,rfl,λj hj hji=>?_⟩,⟨Tq,Tq,Tv⟩,⟨rfl,Tv⟩⟩
  ·show w.B.length-(i+1)<w.B.length-i;omega
  ·by_cases e:j=i
   ·subst e;omega
   ·exact hall j hj θ
 have hie:i=w.B.length:=Aw h1 hi;subst hie;have hhead:Iy w:=⟨⟨htick,θ⟩,⟨hg,hbl,θ⟩,λb hb=>by obtain⟨j,hj,rfl⟩:=Faj hb;exact hall j hj hj⟩
 refine AWp.loop (σ:=Nat) ⟨λi=>[(1,.bx 1 0),(4,.av (int (i:Nat)))],λ_=>[(1,zo w)],
  λi st2=>i<=w.U.length/\st2=st'/\Hz w i,λi=>w.U.length-i⟩ zb ?_ ?_
 ·exact⟨0,Tv,⟨Fae _,rfl,λj _ hj=>θ⟩,⟨Tq,Tq,Tv⟩,⟨rfl,Tv⟩⟩
 rintro i st2 ⟨hi,rfl,hup⟩;refine zk (λh2=>?_) (λh2=>?_);rotate_left
 ·have:i=w.U.length:=Aw h2 hi;subst this;exact ret (h true (by simp only[true_iff];exact⟨hhead,rm hup⟩))
 have hlt:=wo h2;have nou:¬((jx w w.U[i]/\∀b∈w.B,b.id≠w.U[i].id)/\(0<i->(w.U[i-1]'θ).id<w.U[i].id))->R (V.bool false) st2:=λhq=>no λq=>hq (rl q.2 (i+1) i hlt θ);refine⟨i,rfl,za _ (zq hlt) ?_⟩;refine yko w.U[i].kind _ _ (λkz ka kb kc kd ke hk=>?_);refine Qc zb yai ?_;have skip2:∀{p q:Prop},¬((jx w w.U[i]/\∀b∈w.B,b.id≠w.U[i].id)/\(0<i->(w.U[i-1]'θ).id<w.U[i].id))->∃r st',AV.le (V.bool false) r/\st2.Has st'/\R r st':=λhq=>ret (nou hq);refine bcd (λc7=>⟨⟨Tv,⟨⟨Tv,ret (nou λq=>by have:=q.1.1.1;omega)⟩,Tv⟩⟩,Tv⟩) (λc7=>?_);refine bcd (λc8=>⟨⟨Tv,⟨⟨Tv,ret (nou λq=>by have:=q.1.1.1;omega)⟩,Tv⟩⟩,Tv⟩) (λc8=>?_);refine bcd (λc9=>?_) (λc9=>?_);refine Qd ?_;refine⟨i-1,θ,za _ (zq (show i-1<w.U.length by omega)) ?_⟩;refine bcd (λc9b=>⟨⟨Tv,⟨⟨Tv,ret (nou λq=>by have:=q.2 θ;omega)⟩,Tv⟩⟩,Tv⟩) (λc9b=>?_);have hrise:0<i->(w.U[i-1]'θ).id<w.U[i].id:=λ_=>θ;rotate_left;have hrise:0<i->(w.U[i-1]'θ).id<w.U[i].id:=λh0=>absurd h0 θ
 all_goals
  refine bcd (λc10=>⟨⟨Tv,⟨⟨Tv,ret (nou λq=>by have:=q.1.1.1.2.1;omega)⟩,Tv⟩⟩,Tv⟩) (λc10=>?_);refine bcd (λc11=>⟨⟨Tv,⟨⟨Tv,ret (nou λq=>by have:=q.1.1.1.2.1;omega)⟩,Tv⟩⟩,Tv⟩) (λc11=>?_);refine yi ?_;refine zk (λck=>?_) (λck=>⟨⟨Tv,⟨⟨Tv,ret (nou λq=>by have:=hk.2 q.1.1.1.2.2;rw[this]at ck;cases ck)⟩,Tv⟩⟩,Tv⟩);have hkind:=hk.1 ck;refine qf (λc12=>?_) (λc12=>?_);refine⟨sg w.G w.U[i].goal hg _ _ (λz1 hz1=>⟨Tv,?_⟩),Tv⟩;refine yi ?_;refine zk (λc12b=>?_) (λc12b=>⟨⟨Tv,ret (nou λq=>by have:=q.1.1.2.1.1;unfold wg at this;have:=hz1.2 (this.resolve_left c12);rw[this]at c12b;cases c12b)⟩,Tv⟩);have ht1:wg w.G w.U[i].goal:=.inr (hz1.1 c12b);rotate_left;refine Qau ?_;have ht1:wg w.G w.U[i].goal:=.inl c12
  all_goals
   refine qf (λc13=>?_) (λc13=>?_);refine⟨sg w.G w.U[i].next hg _ _ (λz2 hz2=>⟨Tv,?_⟩),Tv⟩;refine yi ?_;refine zk (λc14=>?_) (λc14=>ret (nou λq=>by have:=q.1.1.2.1.2.1;unfold wg at this;have:=hz2.2 (this.resolve_left c13);rw[this]at c14;cases c14));have ht2:wg w.G w.U[i].next:=.inr (hz2.1 c14);rotate_left;refine Qau ?_;have ht2:wg w.G w.U[i].next:=.inl c13
   all_goals
    refine bcd (λd1=>ret (nou λq=>by have:=q.1.1.2.1.2.2;omega)) (λd1=>?_);refine bcd (λd2=>ret (nou λq=>by have:=q.1.1.2.1.2.2;omega)) (λd2=>?_);refine bcd (λd3=>ret (nou λq=>by have:=q.1.1.2.2.1.1;omega)) (λd3=>?_);refine bcd (λd4=>ret (nou λq=>by have:=q.1.1.2.2.1.1;omega)) (λd4=>?_);refine zk (λd5=>ret (nou λq=>by have:=stOf.2 q.1.1.2.2.1.2;rw[this]at d5;cases d5)) (λd5=>?_);have hst:=stOf.1 d5;have go:(w.U[i].goal=-1->w.U[i].next=-1/\w.U[i].stuck=0)->jx w w.U[i]:=λhq=>⟨⟨θ,θ,hkind⟩,⟨ht1,ht2,θ⟩,⟨θ,hst⟩,hq⟩
    refine zw (λd6=>?_) (λd6=>?_);refine qf (λd7=>ret (nou λq=>d7 (q.1.1.2.2.2 d6).1)) (λd7=>?_);refine qf (λd8=>ret (nou λq=>d8 (q.1.1.2.2.2 d6).2)) (λd8=>?_);have hunt:=go λ_=>⟨d7,d8⟩
    rotate_left;have hunt:=go λe=>absurd e d6
    all_goals
     refine AWp.loop (σ:=Nat) ⟨λk=>[(1,.bx 1 0),(4,.av (int (i:Nat))),(5,.bx 5 0),(8,.av (int (k:Nat)))],λ_=>[(1,zo w),(5,zn w.U[i])],
      λk st3=>k<=w.B.length/\st3=st2/\∀j,(hj:j<w.B.length)->j<k->w.B[j].id≠w.U[i].id,λk=>w.B.length-k⟩ zb ?_ ?_
     ·exact⟨0,Tv,⟨Fae _,rfl,λj _ hj=>θ⟩,Qaq,⟨rfl,rfl,Tv⟩⟩
     rintro k st3 ⟨hk3,rfl,hne⟩;refine zk (λe1=>?_) (λe1=>?_)
     ·have hkl:=wo e1;refine Qc zb yah ?_;refine⟨k,rfl,za _ (zq hkl) ?_⟩;refine zw (λe2=>ret (nou λq=>q.1.2 _ (Faa hkl) e2)) (λe2=>?_);refine Qd ?_;refine⟨k+1,?_,⟨θ,rfl,λj hj hjk=>?_⟩,Qaq,⟨rfl,rfl,Tv⟩⟩
      ·show w.B.length-(k+1)<w.B.length-k;omega
      ·by_cases e:j=k
       ·subst e;exact e2
       ·exact hne j hj θ
     have hke:k=w.B.length:=Aw e1 hk3;subst hke;refine Qd ?_;refine⟨i+1,?_,⟨θ,rfl,λj hj hji=>?_⟩,⟨Tq,Tq,Tv⟩,⟨rfl,Tv⟩⟩
     ·show w.U.length-(i+1)<w.U.length-i;omega
     ·by_cases e:j=i
      ·subst e;refine⟨⟨hunt,λb hb=>?_⟩,hrise⟩;obtain⟨m,hm,rfl⟩:=Faj hb;exact hne m hm hm
      ·exact hup j hj θ
theorem ye5(w:Wld)(hw:w.fits)(hn:∀u∈w.U,u.pos.ok)(st:Store)(R:Ja)(h:∀z:Bool,(z=true↔z7 w)->R (V.bool z) st):Jb 8 [.agg (zo w)] st R:=by
 have no:¬z7 w->R (V.bool false) st:=λhh=>h false θ1;refine Qa (c:=cfg 98) zb Tryz.func8 ?_;refine yfk w hw _ _ (λz hz=>?_);refine yi ?_;refine zk (λc1=>?_) (λc1=>ret (no λq=>by have:=hz.2 q.1;rw[this]at c1;cases c1));obtain⟨hh,hok⟩:=hz.1 c1;have hg:=hh.2.1.1;have hbl:=hh.2.1.2.1;have hBl:w.B.length<=256:=hbl.1;have hU:w.U.length<=4096:=hh.2.1.2.2;have hbb:∀b∈w.B,yk b/\onP w.G b:=λb hb=>⟨(hbl.2.2.1 b hb).1,(hbl.2.2.1 b hb).2.1⟩
 have hkk:∀u∈w.U,Av u.kind:=λu hu=>(hok.2 u hu).1.1.2.2
 refine AWp.loop (σ:=Nat) ⟨λi=>[(1,.bx 1 0),(3,.av (int (i:Nat)))],λ_=>[(1,zo w)],
  λi st'=>i<=w.U.length/\st'=st/\∀j,(hj:j<w.U.length)->j<i->(w.U[j].inn=0->qu w w.U[j].id w.U[j].kind w.U[j].pos)/\(w.U[j].inn≠0->Bs w w.U[j]),λi=>w.U.length-i⟩ zb ?_ ?_
 ·exact⟨0,Tv,⟨Fae _,rfl,λj _ hj=>θ⟩,⟨Tq,Tq,Tv⟩,⟨rfl,Tv⟩⟩
 rintro i st' ⟨hi,rfl,hall⟩;refine zk (λh1=>?_) (λh1=>?_);rotate_left
 ·have:i=w.U.length:=Aw h1 hi;subst this;refine ret (h true (by
   simp only[true_iff];refine⟨⟨hh,hok⟩,λu hu h0=>?_,λu hu h0=>?_⟩
   ·obtain⟨j,hj,rfl⟩:=Faj hu;exact(hall j hj hj).1 h0
   ·obtain⟨j,hj,rfl⟩:=Faj hu;exact(hall j hj hj).2 h0))
 have hlt:=wo h1;have hui:=Faa hlt;have next:((w.U[i].inn=0->qu w w.U[i].id w.U[i].kind w.U[i].pos)/\(w.U[i].inn≠0->Bs w w.U[i]))->∀j,(hj:j<w.U.length)->j<i+1->(w.U[j].inn=0->qu w w.U[j].id w.U[j].kind w.U[j].pos)/\(w.U[j].inn≠0->Bs w w.U[j]):=λhq j hj hji=>by
  by_cases e:j=i
  ·subst e;exact hq
  ·exact hall j hj θ
 refine⟨i,rfl,za _ (zq hlt) ?_⟩;refine zw (λc2=>?_) (λc2=>?_)
 ·refine yf3 w hg θ hbb θ hn hkk w.U[i].id w.U[i].kind (hkk _ hui) w.U[i].pos (hn _ hui) _ _ (λz hz=>?_);refine yi ?_;refine zk (λc3=>?_) (λc3=>ret (no λq=>by have:=hz.2 (q.2.1 _ hui c2);rw[this]at c3;cases c3));refine Qd ?_;refine⟨i+1,?_,⟨θ,rfl,next ⟨λ_=>hz.1 c3,λhne=>absurd c2 hne⟩⟩,⟨Tq,Tq,Tv⟩,⟨rfl,Tv⟩⟩;show w.U.length-(i+1)<w.U.length-i;omega
 have nou:¬Bs w w.U[i]->R (V.bool false) st':=λhq=>no λq=>hq (q.2.2 _ hui c2);refine yfn w θ w.U[i].inn _ _ ?_;cases hf:w.U.findIdx? λu=>decide (u.id=w.U[i].inn)with
 |none=>
  have hno:¬Bs w w.U[i]:=λ⟨x,hx,e,_⟩=>by rw[Fb3]at hf;have:=hf x hx;rw[decide_eq_false_iff_not]at this;exact this e
  refine Qc zb uh ?_;exact⟨⟨Qe,⟨⟨Qe,⟨⟨Qe,ret (nou hno)⟩,Tv⟩⟩,Tv⟩⟩,Tv⟩
 |some k=>
  rw[Fbb]at hf;obtain⟨hkl,hkid,_⟩:=hf;have hkid:=of_decide_eq_true hkid;have uniq:Bs w w.U[i]->(w.U[k].inn=0/\w.U[k].owner=w.U[i].owner)/\((z8 w.U w.U[i].inn).length:Int)<=jh w.U[k].kind:=λ⟨x,hx,e,e2,e3,_⟩=>by have:=Ic hok.1 hx (Faa hkl) (by rw[e,hkid]);subst this;exact⟨e2,e3⟩
  refine Qc zb uh ?_;refine⟨k,rfl,za _ (zq hkl) ?_⟩;refine qf (λc4=>⟨⟨Qe,⟨⟨Qe,⟨⟨Qe,ret (nou (λq=>c4 (uniq q).1.1))⟩,Tv⟩⟩,Tv⟩⟩,Tv⟩) (λc4=>?_);refine⟨k,rfl,za _ (zq hkl) ?_⟩;refine qf (λc5=>⟨⟨Qe,⟨⟨Qe,⟨⟨Qe,ret (nou (λq=>c5 (uniq q).1.2))⟩,Tv⟩⟩,Tv⟩⟩,Tv⟩) (λc5=>?_);refine⟨Sw w.U[i].kind (hkk _ hui) _ _ ⟨Qe,?_⟩,Tv⟩;refine bcd (λc6=>⟨⟨Qe,⟨⟨Qe,ret (nou (λ⟨x,_,_,_,_,e,_⟩=>θ))⟩,Tv⟩⟩,Tv⟩) (λc6=>?_);have hroom:jh w.U[i].kind=0:=by have:=Mv w.U[i].kind;omega
  refine⟨k,rfl,za _ (zq hkl) ?_⟩;refine⟨yei w θ w.U[i].inn _ _ ⟨?_,?_⟩,Tv⟩
  ·repeat(first|exact Tv|refine⟨rfl,?_⟩|refine⟨⟨k,rfl,za _ (zq hkl) rfl⟩,?_⟩)
  refine⟨Sw w.U[k].kind (hkk _ (Faa hkl)) _ _ ⟨?_,?_⟩,Tv⟩
  ·repeat(first|exact Tv|refine⟨rfl,?_⟩)
  have hrl:((rws zv (z8 w.U w.U[i].inn)).length:Int)=((z8 w.U w.U[i].inn).length:Int):=θc;refine bcd (λc7=>ret (nou λq=>by have:=(uniq q).2;omega)) (λc7=>?_);refine yi ?_;refine zk (λc8=>?_) (λc8=>ret (nou λ⟨x,_,_,_,_,_,e,_⟩=>by rw[e]at c8;cases c8));have hpos:w.U[i].pos=(0,0):=by have:(w.U[i].pos.1==0&&(w.U[i].pos.2==0&&true))=true:=c8;simp at this;exact Prod.ext this.1 this.2
  refine qf (λc9=>ret (nou λ⟨x,_,_,_,_,_,_,e,_⟩=>c9 e)) (λc9=>?_);refine qf (λc10=>ret (nou λ⟨x,_,_,_,_,_,_,_,e⟩=>c10 e)) (λc10=>?_);refine Qd ?_;refine⟨i+1,?_,⟨θ,rfl,next ⟨λh0=>absurd h0 c2,λ_=>⟨w.U[k],Faa hkl,hkid,⟨c4,c5⟩,θ,hroom,hpos,c9,c10⟩⟩⟩,⟨Tq,Tq,Tv⟩,⟨rfl,Tv⟩⟩;show w.U.length-(i+1)<w.U.length-i;omega
theorem yo4(a b:List UInt8)(ha:a.length<=1000000000000)(st:Store)(R:Ja)(h:R (bool (decide (a=b))) st):Jb 128 [lst 1 u8C a,lst 1 u8C b] st R:=by
 refine Qa (c:=cfg 26) zb Tryz.func128 ?_;refine zk (λh1=>?_) (λh1=>?_)
 ·have:a≠b:=λh2=>V1 h1 (by rw[h2]);rw[show decide (a=b)=false by simp[this]]at h;exact⟨_,st,Tt,Store.Has.refl st,h⟩
 ·have hl:a.length=b.length:=Nh h1;refine AWp.loop (σ:=Nat) ⟨λi=>[(0,.av (lst 1 u8C a)),(1,.av (lst 1 u8C b)),(5,.av (int i))],λ_=>[],λi st'=>i<=a.length/\a.take i=b.take i/\st'=st,λi=>a.length-i⟩ zb ?_ ?_
  ·exact⟨0,Tv,⟨Fae _,rfl,rfl⟩,Qaq,Tv⟩
  ·rintro i st' ⟨hi,heq,hst⟩;refine zk (λh2=>?_) (λh2=>?_)
   ·have hlt:i<a.length:=wo h2;have hltb:i<b.length:=θ;refine Qc zb ydu ?_;refine⟨i,rfl,za _ (zq hlt) ?_⟩;refine⟨i,rfl,za _ (zq hltb) ?_⟩;refine zk (λh3=>?_) (λh3=>?_)
    ·have hne:a[i]≠b[i]:=by
      intro h4;rw[h4]at h3;simp at h3
     have:a≠b:=ψe;rw[show decide (a=b)=false by simp[this]]at h;subst hst;exact⟨_,st',Tt,Store.Has.refl st',h⟩
    ·refine⟨⟨θ,θ⟩,?_⟩;refine⟨i+1,?_,⟨hlt,?_,hst⟩,Qaq,Tv⟩
     ·show a.length-(i+1)<a.length-i;omega
     ·rw[Fab hlt,Fab hltb,heq];have:a[i]=b[i]:=UInt8.toNat_inj.1 (by have:=h3;simp at this;omega);rw[this]
   ·have hge:i=a.length:=Aw h2 hi;subst hge hst;have:a=b:=by
     rw[Fal,hl,Fal]at heq;exact heq
    rw[show decide (a=b)=true by simp[this]]at h;exact⟨_,st',Tt,Store.Has.refl st',h⟩
theorem yo5(a b:List Bld)(ha:a.length<=1000000000000)(st:Store)(R:Ja)(h:R (bool (decide (a=b))) st):Jb 65 [lst 6 zi a,lst 6 zi b] st R:=by
 refine Qa (c:=cfg 26) zb Tryz.func65 ?_;refine zk (λh1=>?_) (λh1=>?_)
 ·have:a≠b:=λh2=>V1 h1 (by rw[h2]);rw[show decide (a=b)=false by simp[this]]at h;exact⟨_,st,Tt,Store.Has.refl st,h⟩
 ·have hl:a.length=b.length:=Nh h1;refine AWp.loop (σ:=Nat) ⟨λi=>[(0,.av (lst 6 zi a)),(1,.av (lst 6 zi b)),(5,.av (int i))],λ_=>[],λi st'=>i<=a.length/\a.take i=b.take i/\st'=st,λi=>a.length-i⟩ zb ?_ ?_
  ·exact⟨0,Tv,⟨Fae _,rfl,rfl⟩,Qaq,Tv⟩
  ·rintro i st' ⟨hi,heq,hst⟩;refine zk (λh2=>?_) (λh2=>?_)
   ·have hlt:i<a.length:=wo h2;have hltb:i<b.length:=θ;refine Qc zb zz6 ?_;refine⟨i,rfl,za _ (zq hlt) ?_⟩;refine⟨i,rfl,za _ (zq hltb) ?_⟩;refine zk (λh3=>?_) (λh3=>?_)
    ·have hne:a[i]≠b[i]:=by
      intro h4;rw[h4]at h3;simp at h3
     have:a≠b:=ψe;rw[show decide (a=b)=false by simp[this]]at h;subst hst;exact⟨_,st',Tt,Store.Has.refl st',h⟩
    ·refine⟨⟨θ,θ⟩,?_⟩;refine⟨i+1,?_,⟨hlt,?_,hst⟩,Qaq,Tv⟩
     ·show a.length-(i+1)<a.length-i;omega
     ·rw[Fab hlt,Fab hltb,heq];have:a[i]=b[i]:=by cases hx:a[i];simp_all
      rw[this]
   ·have hge:i=a.length:=Aw h2 hi;subst hge hst;have:a=b:=by
     rw[Fal,hl,Fal]at heq;exact heq
    rw[show decide (a=b)=true by simp[this]]at h;exact⟨_,st',Tt,Store.Has.refl st',h⟩
theorem yox(a b:List Unt)(ha:a.length<=1000000000000)(st:Store)(R:Ja)(h:R (bool (decide (a=b))) st):Jb 66 [lst 10 zn a,lst 10 zn b] st R:=by
 refine Qa (c:=cfg 26) zb Tryz.func66 ?_;refine zk (λh1=>?_) (λh1=>?_)
 ·have:a≠b:=λh2=>V1 h1 (by rw[h2]);rw[show decide (a=b)=false by simp[this]]at h;exact⟨_,st,Tt,Store.Has.refl st,h⟩
 ·have hl:a.length=b.length:=Nh h1;refine AWp.loop (σ:=Nat) ⟨λi=>[(0,.av (lst 10 zn a)),(1,.av (lst 10 zn b)),(5,.av (int i))],λ_=>[],λi st'=>i<=a.length/\a.take i=b.take i/\st'=st,λi=>a.length-i⟩ zb ?_ ?_
  ·exact⟨0,Tv,⟨Fae _,rfl,rfl⟩,Qaq,Tv⟩
  ·rintro i st' ⟨hi,heq,hst⟩;refine zk (λh2=>?_) (λh2=>?_)
   ·have hlt:i<a.length:=wo h2;have hltb:i<b.length:=θ;refine Qc zb zz5 ?_;refine⟨i,rfl,za _ (zq hlt) ?_⟩;refine⟨i,rfl,za _ (zq hltb) ?_⟩;refine zk (λh3=>?_) (λh3=>?_)
    ·have hne:a[i]≠b[i]:=by
      intro h4;rw[h4]at h3;simp at h3
     have:a≠b:=ψe;rw[show decide (a=b)=false by simp[this]]at h;subst hst;exact⟨_,st',Tt,Store.Has.refl st',h⟩
    ·refine⟨⟨θ,θ⟩,?_⟩;refine⟨i+1,?_,⟨hlt,?_,hst⟩,Qaq,Tv⟩
     ·show a.length-(i+1)<a.length-i;omega
     ·rw[Fab hlt,Fab hltb,heq];have:a[i]=b[i]:=by cases hx:a[i];cases hy:b[i];grind
      rw[this]
   ·have hge:i=a.length:=Aw h2 hi;subst hge hst;have:a=b:=by
     rw[Fal,hl,Fal]at heq;exact heq
    rw[show decide (a=b)=true by simp[this]]at h;exact⟨_,st',Tt,Store.Has.refl st',h⟩
theorem yo1(a b:Gnd)(ha:a.fits)(st:Store)(R:Ja)(h:R (V.bool (decide (a=b))) st):Jb 64 [.agg (zu a),.agg (zu b)] st R:=by
 refine Qa (c:=cfg 24) zb Tryz.func64 ?_;refine zk (λh1=>?_) (λh1=>⟨_,st,Tt,Store.Has.refl st,isF h (decide_eq_false λe=>by subst e;simp at h1)⟩);refine zk (λh2=>?_) (λh1=>⟨_,st,Tt,Store.Has.refl st,isF h (decide_eq_false λe=>by subst e;simp at h1)⟩);refine yo4 a.T b.T ha _ _ ?_;refine⟨_,st,Tt,Store.Has.refl st,?_⟩;have e:decide (a.T=b.T)=decide (a=b):=by
  rw[Fbu];simp only[beq_iff_eq,decide_eq_true_eq]at*;constructor
  ·intro h9;cases a;cases b;simp_all
  ·rintro rfl;rfl
 rw[<-e]at h;exact h
theorem yow(w:Wld)(hw:w.fits)(st:Store)(R:Ja)(h:R (V.bool true) st):Jb 17 [.agg (zo w),.agg (zo w)] st R:=by refine Qa (c:=cfg 45) zb Tryz.func17 ?_;refine zw (λh1=>?_) (λh1=>absurd rfl h1);refine zw (λh2=>?_) (λh1=>absurd rfl h1);refine zw (λh3=>?_) (λh1=>absurd rfl h1);refine yo1 w.G w.G hw.1 _ _ ?_;rw[show decide (w.G=w.G)=true by simp];refine yo5 w.B w.B hw.2.1 _ _ ?_;rw[show decide (w.B=w.B)=true by simp];refine yox w.U w.U hw.2.2 _ _ ?_;rw[show decide (w.U=w.U)=true by simp];exact ret h
section
variable {NT NB NU:Store} {w:Wld} {vT vB vU:AV}
theorem ko(u:Bld):(zi u).length=6:=rfl
theorem Rj(b:Bld):∀y∈zi b,∃x,y=AV.s x/\qw x=true:=by intro y hy;simp[zi]at hy;rcases hy with rfl|rfl|rfl|rfl|rfl|rfl<;>exact⟨_,rfl,rfl⟩
theorem R3(c:UInt8):(u8C c).length=1:=rfl
theorem dm(c:UInt8):∀y∈u8C c,∃x,y=AV.s x/\qw x=true:=by intro y hy;simp[u8C]at hy;exact⟨_,hy,rfl⟩
theorem Nj(st:Store):zh Store.empty st:=λb hb=>(hb.elim (λh=>h rfl) (λh=>h rfl):False).elim
theorem Rc(st:Store):zh Store.empty st:=λb hb=>(hb.elim (λh=>h rfl) (λh=>h rfl):False).elim
theorem yqs(l:List UInt8)(hl:l.length<=1000000000)(st:Store)(R:Ja)(h:∀v N,RowsQ 1 u8C N v l->zh N st->R v (N.un st)):Jb 131 [ya l] st R:=by
 refine Qa (c:=cfg 8) zb Tryz.func131 ?_;intro b hb;cases b with
 |true=>
  have:l=[]:=θt;subst this;have:=h (.s (.slice none 0 0)) Store.empty (.inl (.inl ⟨rfl,rfl⟩)) (Rc st);rw[Ag]at this;exact ret this
 |false=>
  refine⟨ψ,?_⟩;exact Rm (ie:=ti5) rfl R3 ψ hl (λv N hv hd=>ret (h v N hv hd))
theorem bj(l:List Bld)(hl:l.length<=1000000000)(st:Store)(R:Ja)(h:∀v N,RowsQ 6 zi N v l->zh N st->R v (N.un st)):Jb 112 [lst 6 zi l] st R:=by
 refine Qa (c:=cfg 8) zb Tryz.func112 ?_;intro b hb;cases b with
 |true=>
  have:l=[]:=θt;subst this;have:=h (.s (.slice none 0 0)) Store.empty (.inl (.inl ⟨rfl,rfl⟩)) (Rc st);rw[Ag]at this;exact ret this
 |false=>
  refine⟨ψ,?_⟩;exact Rm (ie:=ti61) rfl ko ψ hl (λv N hv hd=>ret (h v N hv hd))
theorem yqr(l:List Unt)(hl:l.length<=1000000000)(st:Store)(R:Ja)(h:∀v N,RowsQ 10 zn N v l->zh N st->R v (N.un st)):Jb 113 [lst 10 zn l] st R:=by
 refine Qa (c:=cfg 8) zb Tryz.func113 ?_;intro b hb;cases b with
 |true=>
  have:l=[]:=θt;subst this;have:=h (.s (.slice none 0 0)) Store.empty (.inl (.inl ⟨rfl,rfl⟩)) (Rc st);rw[Ag]at this;exact ret this
 |false=>
  refine⟨ψ,?_⟩;exact Rm (ie:=ti72) rfl Bb ψ hl (λv N hv hd=>ret (h v N hv hd))
theorem lw(g:Gnd)(hg:g.T.length<=1000000000)(st:Store)(R:Ja)(h:∀v N,RowsQ 1 u8C N v g.T->zh N st->R (.agg [int g.W,int g.H,v]) (N.un st)):Jb 69 [.agg (zu g)] st R:=by refine Qa (c:=cfg 8) zb Tryz.func69 ?_;refine yqs g.T hg _ _ (λv N hv hd=>?_);obtain⟨oa,cap,hv2,_⟩:=hv.form;subst hv2;exact ret (h _ N hv hd)
def Hy(w:Wld)(vT vB vU:AV):List AV:=[int w.tick,int w.players,int w.next,int w.G.W,int w.G.H,vT,vB,vU]
structure OwnQ(S:Store)(w:Wld)(vT vB vU:AV)(NT NB NU:Store):Prop where
 e:S=NU.un (NB.un NT)
 rT:RowsQ 1 u8C NT vT w.G.T
 rB:RowsQ 6 zi NB vB w.B
 rU:RowsQ 10 zn NU vU w.U
 dB:zh NB NT
 dU:zh NU (NB.un NT)
theorem gk(w:Wld)(hT:w.G.T.length<=1000000000)(hB:w.B.length<=1000000000)(hU:w.U.length<=1000000000)(R:Ja)
  (h:∀S vT vB vU NT NB NU,OwnQ S w vT vB vU NT NB NU->R (.agg (Hy w vT vB vU)) S):Jb 48 [.agg (zo w)] Store.empty R:=by
 refine Qa (c:=cfg 16) zb Tryz.func48 ?_;refine Qc zb yad ?_;refine⟨lw w.G hT _ _ (λvT NT rT _=>⟨Qe,?_⟩),Tv⟩;rw[Du];refine⟨bj w.B hB _ _ (λvB NB rB dB=>⟨Qe,?_⟩),Tv⟩;refine⟨yqr w.U hU _ _ (λvU NU rU dU=>⟨Qe,?_⟩),Tv⟩;have ho:OwnQ (NU.un (NB.un NT)) w vT vB vU NT NB NU:=⟨rfl,rT,rB,rU,dB,dU⟩
 obtain⟨_,_,e1,_⟩:=rT.form;obtain⟨_,_,e2,_⟩:=rB.form;obtain⟨_,_,e3,_⟩:=rU.form;subst e1 e2 e3;refine Qat ?_;refine Qat ?_;refine Qat ?_;exact ret (h _ _ _ _ _ _ _ ho)
theorem gm{S:Store}(h:OwnQ S w vT vB vU NT NB NU):RowsQ 1 u8C S vT w.G.T/\RowsQ 6 zi S vB w.B/\RowsQ 10 zn S vU w.U:=by have h1:=h.rT;have h2:=h.rB.unL h.dB;rw[h.e];exact⟨(h1.un (a:=NB)).un,h2.un,h.rU.unL h.dU⟩
theorem gn{st:Store}(h:OwnQ st w vT vB vU NT NB NU){Oth M:Nat->Nat->Prop}{W:World}(sto:StoreOK st Oth M W){x:Value}(hx:VRel W (λb o=>M b o\/Oth b o) (.agg (Hy w vT vB vU)) x):
  VRel W (λb o=>(M b o\/Oth b o)/\st.obj b=none) (.agg (zo w)) x:=by
 obtain⟨hT,hB,hU⟩:=gm h;cases hx with
 |agg _ c hl hc=>
  refine .agg _ c hl λi x y hx hy=>?_
  match i with
  |0=>simp only[zo,Fag,Faf]at hx;subst hx;exact xg (hc 0 _ y rfl hy)
  |1=>simp only[zo,Fan,Fag,Faf]at hx;subst hx;exact xg (hc 1 _ y rfl hy)
  |2=>simp only[zo,Fan,Fag,Faf]at hx;subst hx;exact xg (hc 2 _ y rfl hy)
  |3=>simp only[zo,Fan,Fag,Faf]at hx;subst hx;exact xg (hc 3 _ y rfl hy)
  |4=>simp only[zo,Fan,Fag,Faf]at hx;subst hx;exact xg (hc 4 _ y rfl hy)
  |5=>simp only[zo,Fan,Fag,Faf]at hx;subst hx;exact hT.borrow R3 dm sto (hc 5 _ y rfl hy)
  |6=>simp only[zo,Fan,Fag,Faf]at hx;subst hx;exact hB.borrow ko Rj sto (hc 6 _ y rfl hy)
  |7=>simp only[zo,Fan,Fag,Faf]at hx;subst hx;exact hU.borrow Bb R1 sto (hc 7 _ y rfl hy)
  |i+8=>simp[zo]at hx
theorem Mp{a b:Store}{i:Nat}(h:(a.un b).obj i=none):a.obj i=none/\b.obj i=none:=by
 unfold Store.un at h;dsimp only at h;cases hb:b.obj i with
 |none=>rw[hb]at h;exact⟨h,rfl⟩
 |some y=>rw[hb]at h;cases h
theorem zbc(w:Wld)(hT:w.G.T.length<=1000000000)(hB:w.B.length<=1000000000)(hU:w.U.length<=1000000000)(R:Ja)
  (h:∀v N,RowsQ 10 zn N v w.U->R (.agg (xk w v)) N):Jb 48 [.agg (zo w)] Store.empty R:=by
 refine(gk w hT hB hU (λr S=>∃vT vB vU NT NB NU,OwnQ S w vT vB vU NT NB NU/\r=.agg (Hy w vT vB vU)) λS vT vB vU NT NB NU ho=>⟨vT,vB,vU,NT,NB,NU,ho,rfl⟩).frozenTo ?_;rintro r S ⟨vT,vB,vU,NT,NB,NU,ho,rfl⟩;have hk:∃N2:Store,RowsQ 10 zn N2 vU w.U/\(∀b x,N2.obj b=some x->NU.obj b=some x)/\(∀b x,N2.tok b≠some x):=by refine⟨⟨NU.obj,λ_=>none⟩,ho.rU.sub λ_ _ _ _=>rfl,λb x hx=>hx,λb x=>φ⟩
 obtain⟨N2,hN,hsub,htok⟩:=hk;refine⟨.agg (xk w vU),N2,h vU N2 hN,λb x hx=>?_,htok,λOth M W v sto hx=>?_⟩
 ·rw[ho.e];exact yj ho.dU (hsub b x hx)
 ·obtain⟨rT,rB,rU⟩:=gm ho;cases hx with
  |agg _ c hl hc=>
   have mono1:∀{x:AV} {v:Value},VRel W (λb o=>M b o\/Oth b o) x v->VRel W (λb o=>(M b o\/Oth b o)/\(S.obj b=none\/N2.obj b≠none)) x v:=λh=>h.mono λ_ _ h=>h.1;have mono2:∀{x:AV} {v:Value} {Z:Store},(∀b,N2.obj b≠none->Z.obj b=none)->(∀b,S.obj b=none->Z.obj b=none)->VRel W (λb o=>(M b o\/Oth b o)/\Z.obj b=none) x v->VRel W (λb o=>(M b o\/Oth b o)/\(S.obj b=none\/N2.obj b≠none)) x v:=λhz1 hz2 h=>h.mono λb _ h=>⟨h.1,h.2.elim (hz2 b) (hz1 b)⟩
   have hS:∀b,S.obj b=none->NU.obj b=none/\NB.obj b=none/\NT.obj b=none:=λb hb=>by rw[ho.e]at hb;obtain⟨h1,h2⟩:=Mp hb;exact⟨h1,(Mp h2).1,(Mp h2).2⟩
   have hN2:∀b,N2.obj b≠none->NB.obj b=none/\NT.obj b=none:=λb hb=>by
    cases hx:N2.obj b with
    |none=>exact absurd hx hb
    |some y=>
     have h1:=k9 (hsub b y hx);have h2:=wl (ho.dU b h1);exact⟨(Mp h2.1).1,(Mp h2.1).2⟩
   have sNB:StoreOK NB Oth M W:=sto.weaken ⟨λb x hx=>by rw[ho.e];exact zf (yj ho.dB hx),λb x hx=>by rw[ho.e];exact Ha (Lz ho.dB hx)⟩;have sNT:StoreOK NT Oth M W:=sto.weaken ⟨λb x hx=>by rw[ho.e];exact zf (zf hx),λb x hx=>by rw[ho.e];exact Ha (Ha hx)⟩;refine .agg _ c hl λi x y hx hy=>?_
   match i with
   |0=>simp only[xk,Fag,Faf]at hx;subst hx;exact mono1 (hc 0 _ y rfl hy)
   |1=>simp only[xk,Fan,Fag,Faf]at hx;subst hx;exact mono1 (hc 1 _ y rfl hy)
   |2=>simp only[xk,Fan,Fag,Faf]at hx;subst hx;exact mono1 (hc 2 _ y rfl hy)
   |3=>simp only[xk,Fan,Fag,Faf]at hx;subst hx;exact mono1 (hc 3 _ y rfl hy)
   |4=>simp only[xk,Fan,Fag,Faf]at hx;subst hx;exact mono1 (hc 4 _ y rfl hy)
   |5=>simp only[xk,Fan,Fag,Faf]at hx;subst hx;exact mono2 (λb hb=>(hN2 b hb).2) (λb hb=>(hS b hb).2.2) (ho.rT.borrow R3 dm sNT (hc 5 _ y rfl hy))
   |6=>simp only[xk,Fan,Fag,Faf]at hx;subst hx;exact mono2 (λb hb=>(hN2 b hb).1) (λb hb=>(hS b hb).2.1) (ho.rB.borrow ko Rj sNB (hc 6 _ y rfl hy))
   |7=>simp only[xk,Fan,Fag,Faf]at hx;subst hx;exact mono1 (hc 7 _ y rfl hy)
   |i+8=>simp[xk]at hx
end
theorem Wq(st:Store):st.Has Store.empty:=⟨λb x h=>ω,λb x h=>ω⟩
theorem Qad{p:Prop}(h:p:=by unfold qt;simp at h1⊢;omega):p:=h
theorem F9(n lo hi:Int)(st:Store)(R:Ja)(h:∀b:Bool,(b=true↔lo<=n/\n<=hi)->R (bool b) st):Jb 193 [int n,int lo,int hi] st R:=by
 refine Qa (c:=cfg 15) zb Tryz.func193 ?_;refine zk (λh1=>?_) (λh1=>⟨_,st,Tt,Store.Has.refl st,h _ ?_⟩)
 ·refine⟨_,st,Tt,Store.Has.refl st,h _ ?_⟩;simp at h1⊢;omega
 ·simp at h1⊢;omega
theorem ykp(n:Int)(st:Store)(R:Ja)(h:∀b:Bool,(b=true↔0<=n/\n<=3)->R (bool b) st):Jb 181 [int n] st R:=by
 refine Qa (c:=cfg 9) zb Tryz.func181 ?_;refine zk (λh1=>?_) (λh1=>⟨_,st,Tt,Store.Has.refl st,h _ ?_⟩)
 ·refine⟨_,st,Tt,Store.Has.refl st,h _ ?_⟩;simp at h1⊢;omega
 ·simp at h1⊢;omega
theorem yhd(x y:Int)(st:Store)(R:Ja)(h:∀b:Bool,(b=true↔qt x y)->R (bool b) st):Jb 282 [.agg [int x,int y]] st R:=by refine Qa (c:=cfg 21) zb Tryz.func282 ?_;refine zk (λh1=>?_) (λh1=>⟨_,st,Tt,Store.Has.refl st,h _ Qad⟩);refine zk (λh2=>?_) (λh1=>⟨_,st,Tt,Store.Has.refl st,h _ Qad⟩);refine zk (λh3=>?_) (λh1=>⟨_,st,Tt,Store.Has.refl st,h _ Qad⟩);refine⟨_,st,Tt,Store.Has.refl st,h _ ?_⟩;unfold qt;simp at h1 h2 h3⊢;omega
theorem dl(l:List Int)(hl:l.length<=1000000000000)(st:Store)(R:Ja)(h:∀b:Bool,(b=true↔Dt l)->R (bool b) st):Jb 283 [yh l] st R:=by
 refine Qa (c:=cfg 40) zb Tryz.func283 ?_
 refine AWp.loop (σ:=Nat) ⟨λi=>[(0,.av (yh l)),(5,.av (yh l)),(6,.av (int l.length)),(7,.av (int i))],λ_=>[],
  λi st'=>i<=l.length/\st'=st/\∀j,j<i->(1<=l.getD j 0/\l.getD j 0<=1099511627776)/\(0<j->l.getD (j-1) 0<l.getD j 0),λi=>l.length-i⟩ zb ?_ ?_
 ·refine⟨0,Tv,⟨Fae _,rfl,λj hj=>θ⟩,⟨Tq,Tq,?_,Tq,Tv⟩,Tv⟩;rw[<-zj (f:=zv) l];exact Tq
 ·rintro i st' ⟨hi,rfl,hall⟩;refine zk (λh1=>?_) (λh1=>?_)
  ·have hlt:i<l.length:=by simpa using h1
   have hget:l.getD i 0=l[i]:=by simp[hlt]
   refine⟨i,rfl,za _ (zq hlt) ?_⟩;have bad:¬((1<=l.getD i 0/\l.getD i 0<=1099511627776)/\(0<i->l.getD (i-1) 0<l.getD i 0))->∀b:Bool,b=false->(b=true↔Dt l):=by rintro hb _ rfl;simp only[Fah,false_iff];exact λhu=>hb (hu.2 i hlt)
   have go:((1<=l.getD i 0/\l.getD i 0<=1099511627776)/\(0<i->l.getD (i-1) 0<l.getD i 0))->∀j,j<i+1->(1<=l.getD j 0/\l.getD j 0<=1099511627776)/\(0<j->l.getD (j-1) 0<l.getD j 0):=by
    intro hb j hj;by_cases hji:j=i
    ·subst hji;exact hb
    ·exact hall j θ
   refine zk (λh2=>⟨_,st',Tt,Store.Has.refl st',h _ (bad (by rw[hget];simp at h2;omega) _ rfl)⟩) (λh2=>?_);refine zk (λh3=>⟨_,st',Tt,Store.Has.refl st',h _ (bad (by rw[hget];simp at h3;omega) _ rfl)⟩) (λh3=>?_);refine zk (λh4=>?_) (λh4=>?_)
   ·have h4:0<i:=by simpa using h4
    have hget1:l.getD (i-1) 0=l[i-1]:=by simp[show i-1<l.length by omega]
    refine⟨⟨θ,θ⟩,?_⟩;refine⟨i-1,θ,za _ (zq (show i-1<l.length by omega)) ?_⟩;refine zk (λh5=>⟨_,st',Tt,Store.Has.refl st',h _ (bad (by rw[hget,hget1];simp at h5;omega) _ rfl)⟩) (λh5=>?_);refine⟨⟨θ,θ⟩,?_⟩;refine⟨i+1,?_,⟨hlt,rfl,go (by rw[hget,hget1];simp at h2 h3 h5;omega)⟩,Qaq,Tv⟩;show l.length-(i+1)<l.length-i;omega
   ·refine⟨⟨θ,θ⟩,?_⟩;refine⟨i+1,?_,⟨hlt,rfl,go (by rw[hget];simp at h2 h3 h4;omega)⟩,Qaq,Tv⟩;show l.length-(i+1)<l.length-i;omega
  ·have hge:i=l.length:=by
    have:¬i<l.length:=θg;omega
   subst hge;refine zk (λh2=>⟨_,st',Tt,Store.Has.refl st',h _ ?_⟩) (λh2=>⟨_,st',Tt,Store.Has.refl st',h _ ?_⟩)
   ·rw[zj]at h2⊢;unfold Dt;simp only[decide_eq_true_eq]at h2⊢;constructor
    ·intro h3;exact⟨θ,hall⟩
    ·intro h3;omega
   ·rw[zj]at h2;unfold Dt;simp only[decide_eq_false_iff_not]at h2;simp only[Fah,false_iff];intro h3;omega
theorem Qae{p:Prop}(h:p:=by simp only[Fah,false_iff]at hb0⊢;simp[we,idP,hb0]):p:=h
theorem Qaf{p:Prop}(h:p:=by have q0:=hb0.1 rfl;rw[hb1];simp[we,idP,q0]):p:=h
theorem yh3(c:Cmd)(hc:c.fits)(st:Store)(R:Ja)(h:∀b:Bool,(b=true↔c.okP)->R (.tup [.agg (yz c.only),bool b]) st):Jb 192 [.agg (yz c)] st R:=by
 refine Qa (c:=cfg 119) zb Tryz.func192 ?_;refine zk (λk1=>?_) (λk1=>?_)
 ·have k1:c.K=1:=by simpa using k1
  have fin:∀b:Bool,(b=true↔_)->R (.tup [.agg (yz _),bool b]) st:=λb hb=>h b (hb.trans (Cmd.ok1 k1).symm);rw[Cmd.only1 k1]at fin;refine Qc zb yc7 ?_;refine Qat ?_;refine Qau ?_;refine ykp c.N _ _ (λb0 hb0=>?_);cases b0 with
  |false=>
   refine⟨_,st,?_,Store.Has.refl st,fin false Qae⟩;exact AV.le_tupL ⟨AV.le_aggL ⟨Tt,Tt,Tt,Tt,AV.le_nil 1,Tt,Tt,Tt,Tt,Tt,Tv⟩,Tt,Tv⟩
  |true=>
   refine yhd c.X c.Y _ _ (λb1 hb1=>?_);refine⟨_,st,?_,Store.Has.refl st,fin b1 Qaf⟩;exact AV.le_tupL ⟨AV.le_aggL ⟨Tt,Tt,Tt,Tt,AV.le_nil 1,Tt,Tt,Tt,Tt,Tt,Tv⟩,Tt,Tv⟩
 have k1:c.K≠1:=by simpa using k1
 refine zk (λk2=>?_) (λk2=>?_)
 ·have k2:c.K=2:=by simpa using k2
  have fin:∀b:Bool,(b=true↔_)->R (.tup [.agg (yz _),bool b]) st:=λb hb=>h b (hb.trans (Cmd.ok2 k2).symm);rw[Cmd.only2 k2]at fin;refine Qc zb yc6 ?_;refine Qat ?_;refine Qau ?_;refine dl c.U hc _ _ (λb0 hb0=>?_);cases b0 with
  |false=>
   refine⟨_,st,?_,Store.Has.refl st,fin false Qae⟩;exact AV.le_tupL ⟨AV.le_aggL ⟨Tt,Tt,Tt,Tt,Tt,Tt,Tt,Tt,Tt,Tt,Tv⟩,Tt,Tv⟩
  |true=>
   refine F9 c.T 0 16383 _ _ (λb1 hb1=>?_);refine⟨_,st,?_,Store.Has.refl st,fin b1 Qaf⟩;exact AV.le_tupL ⟨AV.le_aggL ⟨Tt,Tt,Tt,Tt,Tt,Tt,Tt,Tt,Tt,Tt,Tv⟩,Tt,Tv⟩
 have k2:c.K≠2:=by simpa using k2
 refine zk (λk3=>?_) (λk3=>?_)
 ·have k3:c.K=3:=by simpa using k3
  have fin:∀b:Bool,(b=true↔_)->R (.tup [.agg (yz _),bool b]) st:=λb hb=>h b (hb.trans (Cmd.ok3 k3).symm);rw[Cmd.only3 k3]at fin;refine dl c.U hc _ _ (λb0 hb0=>?_);refine⟨_,st,?_,Store.Has.refl st,fin b0 (hb0)⟩;exact AV.le_tupL ⟨AV.le_aggL ⟨Tt,Tt,Tt,Tt,Tt,Tt,Tt,Tt,Tt,Tt,Tv⟩,Tt,Tv⟩
 have k3:c.K≠3:=by simpa using k3
 refine zk (λk4=>?_) (λk4=>?_)
 ·have k4:c.K=4:=by simpa using k4
  have fin:∀b:Bool,(b=true↔_)->R (.tup [.agg (yz _),bool b]) st:=λb hb=>h b (hb.trans (Cmd.ok4 k4).symm);rw[Cmd.only4 k4]at fin;refine Qc zb yda ?_;refine Qat ?_;refine Qat ?_;refine Qau ?_;refine F9 c.T 0 16383 _ _ (λb0 hb0=>?_);cases b0 with
  |false=>
   refine⟨_,st,?_,Store.Has.refl st,fin false Qae⟩;exact AV.le_tupL ⟨AV.le_aggL ⟨Tt,Tt,Tt,Tt,AV.le_nil 1,Tt,Tt,Tt,Tt,Tt,Tv⟩,Tt,Tv⟩
  |true=>
   refine F9 c.W 1 4 _ _ (λb1 hb1=>?_);cases b1 with
   |false=>
    refine⟨_,st,?_,Store.Has.refl st,fin false (by simp only[Fah,false_iff]at hb1⊢;simp[we,idP,hb1])⟩;exact AV.le_tupL ⟨AV.le_aggL ⟨Tt,Tt,Tt,Tt,AV.le_nil 1,Tt,Tt,Tt,Tt,Tt,Tv⟩,Tt,Tv⟩
   |true=>
    refine F9 c.H 1 4 _ _ (λb2 hb2=>?_);refine⟨_,st,?_,Store.Has.refl st,fin b2 (by have q0:=hb0.1 rfl;have q1:=hb1.1 rfl;rw[hb2];simp[we,idP,q0,q1])⟩;exact AV.le_tupL ⟨AV.le_aggL ⟨Tt,Tt,Tt,Tt,AV.le_nil 1,Tt,Tt,Tt,Tt,Tt,Tv⟩,Tt,Tv⟩
 have k4:c.K≠4:=by simpa using k4
 refine zk (λk5=>?_) (λk5=>?_)
 ·have k5:c.K=5:=by simpa using k5
  have fin:∀b:Bool,(b=true↔_)->R (.tup [.agg (yz _),bool b]) st:=λb hb=>h b (hb.trans (Cmd.ok5 k5).symm);rw[Cmd.only5 k5]at fin;refine F9 c.N 1 1099511627776 _ _ (λb0 hb0=>?_);refine⟨_,st,?_,Store.Has.refl st,fin b0 (hb0)⟩;exact AV.le_tupL ⟨AV.le_aggL ⟨Tt,Tt,Tt,Tt,AV.le_nil 1,Tt,Tt,Tt,Tt,Tt,Tv⟩,Tt,Tv⟩
 have k5:c.K≠5:=by simpa using k5
 refine zk (λk6=>?_) (λk6=>?_)
 ·have k6:c.K=6:=by simpa using k6
  have fin:∀b:Bool,(b=true↔_)->R (.tup [.agg (yz _),bool b]) st:=λb hb=>h b (hb.trans (Cmd.ok6 k6).symm);rw[Cmd.only6 k6]at fin;refine Qc zb yc9 ?_;refine Qat ?_;refine Qau ?_;refine dl c.U hc _ _ (λb0 hb0=>?_);cases b0 with
  |false=>
   refine⟨_,st,?_,Store.Has.refl st,fin false Qae⟩;exact AV.le_tupL ⟨AV.le_aggL ⟨Tt,Tt,Tt,Tt,Tt,Tt,Tt,Tt,Tt,Tt,Tv⟩,Tt,Tv⟩
  |true=>
   refine F9 c.N 1 1099511627776 _ _ (λb1 hb1=>?_);refine⟨_,st,?_,Store.Has.refl st,fin b1 Qaf⟩;exact AV.le_tupL ⟨AV.le_aggL ⟨Tt,Tt,Tt,Tt,Tt,Tt,Tt,Tt,Tt,Tt,Tv⟩,Tt,Tv⟩
 have k6:c.K≠6:=by simpa using k6
 refine zk (λk7=>?_) (λk7=>?_)
 ·have k7:c.K=7:=by simpa using k7
  have fin:∀b:Bool,(b=true↔_)->R (.tup [.agg (yz _),bool b]) st:=λb hb=>h b (hb.trans (Cmd.ok7 k7).symm);rw[Cmd.only7 k7]at fin;refine Qc zb yc8 ?_;refine Qat ?_;refine Qau ?_;refine F9 c.N 1 1099511627776 _ _ (λb0 hb0=>?_);cases b0 with
  |false=>
   refine⟨_,st,?_,Store.Has.refl st,fin false Qae⟩;exact AV.le_tupL ⟨AV.le_aggL ⟨Tt,Tt,Tt,Tt,AV.le_nil 1,Tt,Tt,Tt,Tt,Tt,Tv⟩,Tt,Tv⟩
  |true=>
   refine F9 c.T 0 16383 _ _ (λb1 hb1=>?_);refine⟨_,st,?_,Store.Has.refl st,fin b1 Qaf⟩;exact AV.le_tupL ⟨AV.le_aggL ⟨Tt,Tt,Tt,Tt,AV.le_nil 1,Tt,Tt,Tt,Tt,Tt,Tv⟩,Tt,Tv⟩
 have k7:c.K≠7:=by simpa using k7
 have fin:R (.tup [.agg (yz c.only),bool false]) st:=h false (by simpa using Cmd.ok0 k1 k2 k3 k4 k5 k6 k7);rw[Cmd.only0 k1 k2 k3 k4 k5 k6 k7]at fin;refine⟨_,st,?_,Store.Has.refl st,fin⟩;exact AV.le_tupL ⟨AV.le_aggL ⟨Tt,Tt,Tt,Tt,AV.le_nil 1,Tt,Tt,Tt,Tt,Tt,Tv⟩,Tt,Tv⟩
theorem zff(c:Cmd)(hc:c.fits)(st:Store)(R:Ja)(h:∀b:Bool,(b=true↔Ai c)->R (bool b) st):Jb 122 [.agg (yz c)] st R:=by
 refine Qa (c:=cfg 65) zb Tryz.func122 ?_;refine yh3 c hc _ _ (λb hb=>?_);have no:¬Ai c->R (bool false) st:=λhn=>h false (by simpa using hn);cases b with
 |false=>exact⟨_,st,Tt,Store.Has.refl st,no (λhp=>by have:=hb.2 hp.1;cases this)⟩
 |true=>
  refine F9 c.P 1 8 _ _ (λb1 hb1=>?_);cases b1 with
  |false=>exact⟨_,st,Tt,Store.Has.refl st,no (λhp=>by have:=hb1.2 hp.2.1;cases this)⟩
  |true=>
   refine F9 c.S 0 1099511627776 _ _ (λb2 hb2=>?_);cases b2 with
   |false=>exact⟨_,st,Tt,Store.Has.refl st,no (λhp=>by have:=hb2.2 hp.2.2.1;cases this)⟩
   |true=>
    have hP:c.only.P=c.P/\c.only.S=c.S/\c.only.K=c.K/\(c.only.U=c.U\/c.only.U=[]):=by
     unfold Cmd.only;repeat' split
     all_goals exact⟨rfl,rfl,rfl,φ⟩
    refine zk (λw1=>?_) (λw1=>⟨_,st,Tt,Store.Has.refl st,no (λhp=>by rw[hp.2.2.2]at w1;simp at w1)⟩);refine zk (λw2=>?_) (λw2=>⟨_,st,Tt,Store.Has.refl st,no (λhp=>by rw[hp.2.2.2]at w2;simp at w2)⟩);refine zk (λw3=>?_) (λw3=>⟨_,st,Tt,Store.Has.refl st,no (λhp=>by rw[hp.2.2.2]at w3;simp at w3)⟩);refine zk (λw4=>?_) (λw4=>⟨_,st,Tt,Store.Has.refl st,no (λhp=>by rw[hp.2.2.2]at w4;simp at w4)⟩);refine zk (λw5=>?_) (λw5=>⟨_,st,Tt,Store.Has.refl st,no (λhp=>by rw[hp.2.2.2]at w5;simp at w5)⟩);refine⟨_,st,Tt,Store.Has.refl st,h _ ?_⟩;rw[zj,zj];constructor
    ·intro w6;refine⟨hb.1 rfl,hb1.1 rfl,hb2.1 rfl,?_⟩;have hU:c.only.U=c.U:=by
      rcases hP.2.2.2 with e|e
      ·exact e
      ·rw[e]at w6;simp at w6;rw[e,eq_comm,<-List.length_eq_zero_iff];omega
     simp only[beq_iff_eq,Fay,and_true]at w1 w2 w3 w4 w5;exact Cmd.eq_of hP.1 hP.2.1 hP.2.2.1 w1 hU w3 w4 w5 w2.1 w2.2
    ·intro hp;rw[hp.2.2.2];simp
section
variable {G:Store} {s p:Nat} {w:Wld} {v o0 o1 o2:AV}
theorem jc{i:TI}{cells row rest:List AV}{K:LV->Prop}(ha:Cy i.ty=true)(hs:i.size=row.length)(hc:cells=row++rest)(h:K (.av (.agg row))):partK i cells K:=by subst hc;unfold partK;rw[ha,cond_true,hs];have:Nat.ble row.length (row++rest).length=true:=φ;rw[this,cond_true];refine Hq ?_;rw[Fb2 (Fak _),Fal];exact h
theorem Mh{α:Type}{k:Nat}{f:α->List AV}(hf:∀x,(f x).length=k){l:List α}{L:List AV}{i:Nat}(hi:i<l.length):List.drop (0+i*k) ((rws f l).flatten++L)=f l[i]++((rws f (l.drop (i+1))).flatten++L):=by
 have h1:(rws f (l.take i)).flatten.length=i*k:=by rw[wj hf,Fam,Nat.min_eq_left θ]
 rw[Fbi,Sr hi,Fao,<-h1,Fdt,Fao]
theorem yrc{S:Store}(R:Ja)(h:∀F p,vg F p []->zh F S->R (ptr p) (F.un S)):Jb 183 [] S R:=by
 have:=ACalls.frame (a:=Store.empty) (g:=S) (λi h1=>by rcases h1 with h1|h1<;>exact absurd rfl h1) (zfq (λr a'=>∃p,r=ptr p/\vg a' p []) (λa p h=>⟨p,rfl,h⟩)) (R':=R) (λr a' ⟨p,e,hc⟩ hd=>e▸h a' p hc hd)
 rwa [Ag]at this
def svC(w:Wld)(v o0 o1 o2:AV)(p:Nat):List AV:=xk w v++[o0,o1,o2,ptr p]
def svS(G:Store)(s:Nat)(w:Wld)(v o0 o1 o2:AV)(p:Nat):Store:=G.sO s (.cells (svC w v o0 o1 o2 p))
structure StandR(F G:Store)(s p:Nat)(w:Wld)(v:AV)(L:List Ent)(o0 o1 o2:AV):Prop where
 hc:vg F p L
 hd:zh F (svS G s w v o0 o1 o2 p)
 hs:G.obj s=none
 hu:RowsQ 10 zn G v w.U
 h0:Mo w 0 o0
 h1:Mo w 1 o1
 h2:Mo w 2 o2
theorem Be(G:Store)(s:Nat)(w:Wld)(v o0 o1 o2:AV)(p:Nat):(svS G s w v o0 o1 o2 p).obj s=some (.cells (svC w v o0 o1 o2 p)):=zd _ _ _
theorem H3{u:AV}{l:List Unt}(hs:G.obj s=none)(h:RowsQ 10 zn G u l):RowsQ 10 zn (svS G s w v o0 o1 o2 p) u l:=by
 rcases h with(h|⟨b,cap,L,h1,h2,h3⟩)|h
 ·exact .inl (.inl h)
 ·refine .inl (.inr ⟨b,cap,L,h1,?_,h3⟩);have:b≠s:=λe=>by subst e;rw[hs]at h2;cases h2
  show(G.sO s _).obj b=_;rw[zg this];exact h2
 ·exact .inr h
theorem svS_has{i:Nat}:(svS G s w v o0 o1 o2 p).has i↔i=s\/G.has i:=by
 unfold svS Store.has;by_cases hi:i=s
 ·subst hi;simp[zd]
 ·rw[zg hi];simp[hi,Store.sO]
theorem nf{F:Store}{w':Wld}{v' q0 q1 q2:AV}(h:zh F (svS G s w v o0 o1 o2 p)):zh F (svS G s w' v' q0 q1 q2 p):=λi h1 h2=>h i h1 (svS_has.2 (svS_has.1 h2))
theorem zbf(w:Wld)(v:AV)(G:Store)(hu:RowsQ 10 zn G v w.U)(hU:w.U.length<=1000000)(hn:∀u∈w.U,u.pos.ok)(R:Ja)
  (h:∀F s p L o0 o1 o2,Fresh G s->StandR F G s p w v L o0 o1 o2->L.length<=w.U.length->(yl w.U->∀e,e∈L↔∃u∈w.U,u.inn=0/\e=(u.id,u.pos))->R (ptr s) (F.un (svS G s w v o0 o1 o2 p))):Jb 109 [.agg (xk w v)] G R:=by
 obtain⟨oa,cap,hv,hget⟩:=hu.form;subst hv;refine Qa (c:=cfg 31 [9] []) zb Tryz.func109 ?_;refine Qc zb ur ?_;refine⟨yrc _ (λF p hc hdF=>⟨Qe,?_⟩),Tv⟩;refine⟨λs hs=>⟨Tv,?_⟩,Tv⟩;refine Qau ?_;have hs1:¬F.has s/\¬G.has s:=by have:=fresh_iff.1 hs;exact⟨λh=>this (un_has.2 (.inl h)),λh=>this (un_has.2 (.inr h))⟩
 have hsG:G.obj s=none:=(wl hs1.2).1;have e0:(F.un G).sO s (.cells (svC w (.s (.slice oa w.U.length cap)) (.s (.slice none 0 0)) (.s (.slice none 0 0)) (.s (.slice none 0 0)) p))=F.un (svS G s w (.s (.slice oa w.U.length cap)) (.s (.slice none 0 0)) (.s (.slice none 0 0)) (.s (.slice none 0 0)) p):=by exact zz F G s _
 have h0:StandR F G s p w (.s (.slice oa w.U.length cap)) [] (.s (.slice none 0 0)) (.s (.slice none 0 0)) (.s (.slice none 0 0)):=⟨hc,λi h1 h2=>by
  rcases svS_has.1 h2 with rfl|h2
  ·exact hs1.1 h1
  ·exact hdF i h1 h2,hsG,hu,.inl rfl,.inl rfl,.inl rfl⟩
 have hsf:Fresh G s:=fresh_iff.2 hs1.2
 refine AWp.loop (σ:=Nat×Store×List Ent) ⟨λq=>[(3,.av (ptr s)),(11,.av (.s (.slice oa w.U.length cap))),(12,.av (int (w.U.length:Nat))),(13,.av (int (q.1:Nat)))],λ_=>[],
  λq st'=>st'=q.2.1.un (svS G s w (.s (.slice oa w.U.length cap)) (.s (.slice none 0 0)) (.s (.slice none 0 0)) (.s (.slice none 0 0)) p)/\StandR q.2.1 G s p w (.s (.slice oa w.U.length cap)) q.2.2 (.s (.slice none 0 0)) (.s (.slice none 0 0)) (.s (.slice none 0 0))/\q.1<=w.U.length/\q.2.2.length<=q.1/\(∀e∈q.2.2,e.2.ok)/\(yl w.U->∀e,e∈q.2.2↔∃u∈w.U.take q.1,u.inn=0/\e=(u.id,u.pos)),λq=>w.U.length-q.1⟩ zb ?_ ?_
 ·exact⟨(0,F,[]),Tv,⟨e0,h0,Fae _,Fak _,λe he=>(by cases he),λ_ e=>φ⟩,Qaq,Tv⟩
 rintro⟨i,F1,L⟩ st' ⟨rfl,hS,hi,hL,hok,hmem⟩;dsimp only at hS hi hL hok hmem⊢;refine bcd (λh1=>?_) (λh1=>?_);rotate_left
 ·have:i=w.U.length:=θ;subst this;rw[Fal]at hmem;exact ret (h F1 s p L _ _ _ hsf hS hL hmem)
 have hlt:i<w.U.length:=θ;obtain⟨b,J,rfl,hob0⟩:=hget i hlt;have hbs:b≠s:=λe=>by subst e;rw[hsG]at hob0;cases hob0
 have hob:(F1.un (svS G s w (.s (.slice (some ⟨b,0,none⟩) w.U.length cap)) (.s (.slice none 0 0)) (.s (.slice none 0 0)) (.s (.slice none 0 0)) p)).obj b=some (.cells ((rws zn w.U).flatten++J)):=zf (by show(G.sO s _).obj b=_;rw[zg hbs];exact hob0);refine⟨i,rfl,hlt,?_⟩;refine za (o:=(F1.un (svS G s w _ _ _ _ p)).obj b) _ hob ?_;refine jc (i:=ti72) (row:=zn w.U[i]) rfl rfl (Mh Bb hlt) ?_;have hn2:=hn w.U[i] (Faa hlt);refine zw (λc1=>?_) (λc1=>?_)
 ·refine Qc zb uq ?_;refine za (o:=(F1.un (svS G s w _ _ _ _ p)).obj s) _ (zf (Be G s w _ _ _ _ p)) ?_;refine⟨oj hS.hc hS.hd θ hok w.U[i].id w.U[i].pos hn2 _ (λF2 h2 h3=>⟨Tv,?_⟩),Tv⟩;have hlen:(qn L w.U[i].id++[(w.U[i].id,w.U[i].pos)]).length<=i+1:=by
   rw[Fad];have:(qn L w.U[i].id).length<=L.length:=Fbh _ _;simp only[Fas];omega
  refine Qd ?_;refine⟨(i+1,F2,_),?_,⟨rfl,⟨h2,h3,hsG,hu,.inl rfl,.inl rfl,.inl rfl⟩,ζ,hlen,λe he=>?_,λhr e=>?_⟩,⟨Tq,Tq,Tq,Tq,Tv⟩,Tv⟩
  ·show w.U.length-(i+1)<w.U.length-i;omega
  ·rcases Fat.1 he with he|he
   ·exact hok e (mem_dropId.1 he).1
   ·simp at he;subst he;exact hn2
  ·dsimp only;rw[Fab hlt,Fat,mem_dropId,hmem hr e];constructor
   ·rintro(⟨⟨u,hu,h4⟩,_⟩|he)
    ·exact⟨u,Fat.2 (.inl hu),h4⟩
    ·simp at he;exact⟨w.U[i],Fat.2 (.inr φ),c1,he⟩
   ·rintro⟨u,hu,h4,h5⟩;rcases Fat.1 hu with hu|hu
    ·refine .inl ⟨⟨u,hu,h4,h5⟩,?_⟩;obtain⟨j,hj,rfl⟩:=Faj hu;rw[Fam]at hj;rw[Fdp]at h5;have:=Sy hr (a:=j) (b:=i) θ hlt;subst h5;show w.U[j].id≠w.U[i].id;omega
    ·simp at hu;subst hu;exact .inr (by simp[h5])
 ·refine Qd ?_;refine⟨(i+1,F1,L),?_,⟨rfl,hS,ζ,ζ,hok,λhr e=>?_⟩,Qaq,Tv⟩
  ·show w.U.length-(i+1)<w.U.length-i;omega
  ·dsimp only;rw[hmem hr e,Fab hlt];constructor
   ·rintro⟨u,hu,h3⟩;exact⟨u,Fat.2 (.inl hu),h3⟩
   ·rintro⟨u,hu,h3,h4⟩;rcases Fat.1 hu with hu|hu
    ·exact⟨u,hu,h3,h4⟩
    ·simp at hu;subst hu;exact absurd h3 c1
end
section
variable {F G:Store} {s p:Nat} {w:Wld} {v o0 o1 o2:AV}
theorem zyx{L:List Ent}(hS:StandR F G s p w v L o0 o1 o2)(hg:zt w.G)(hB:w.B.length<=1000000000000)(hb:∀b∈w.B,yk b/\onP w.G b)(c:Int)(hc:c=0\/c=1\/c=2)(R:Ja)
  (h:∀q0 q1 q2,StandR F G s p w v L q0 q1 q2->R (opV w.G w.B c) (F.un (svS G s w v q0 q1 q2 p))):Jb 187 [ptr s,int c] (F.un (svS G s w v o0 o1 o2 p)) R:=by
 have ho:=zf (a:=F) (Be G s w v o0 o1 o2 p);obtain⟨x0,y0,hne0⟩:=D2 hg w.B 0;obtain⟨x1,y1,hne1⟩:=D2 hg w.B 1;obtain⟨x2,y2,hne2⟩:=D2 hg w.B 2;rcases hc with rfl|rfl|rfl
 ·rcases hS.h0 with e|e
  ·subst e;refine Qa (c:=cfg 35) zb Tryz.func187 ?_;refine⟨0,rfl,ψ,?_⟩;refine za (o:=(F.un (svS G s w v _ _ _ p)).obj s) _ ho ?_;refine Qc zb Me ?_;refine za (o:=(F.un (svS G s w v _ _ _ p)).obj s) _ ho ?_;refine za (o:=(F.un (svS G s w v _ _ _ p)).obj s) _ ho ?_;refine⟨Lk w.G hg w.B hB hb 0 _ _ ⟨Tv,?_⟩,Tv⟩;refine⟨0,rfl,ψ,?_⟩;have ho2:=zf (a:=F) (Be G s w v (opV w.G w.B 0) o1 o2 p);have hc2:=No (D2 hg w.B 0);refine⟨?_,Tv⟩;refine za _ rfl (xp rfl (xl (v:=opV w.G w.B 0) rfl rfl rfl rfl ?_));refine qd (i:=ti68) (v:=opV w.G w.B 0) (b:=s) (o:=0+8+0*ti68.size) (l:=svC w v _ o1 o2 p) (st2:=F.un (svS G s w v (opV w.G w.B 0) o1 o2 p)) hc2.1 hc2.2 rfl ho (show 8+1<=12 by decide) ?_ ?_
   ·rw[zz];unfold svS;rw[ym];rfl
   refine⟨Tv,?_⟩;refine⟨0,rfl,ψ,?_⟩;refine za (o:=(F.un (svS G s w v _ _ _ p)).obj s) _ ho2 ?_;exact ret (h _ _ _ ⟨hS.hc,nf hS.hd,hS.hs,hS.hu,.inr rfl,hS.h1,hS.h2⟩)
  ·rw[hne0]at e;subst e;refine Qa (c:=cfg 35) zb Tryz.func187 ?_;refine⟨0,rfl,ψ,?_⟩;refine za (o:=(F.un (svS G s w v _ _ _ p)).obj s) _ ho ?_;refine λbb hbb=>?_;have hbf:bb=false:=by grind
   subst hbf;refine⟨0,rfl,ψ,?_⟩;refine za (o:=(F.un (svS G s w v _ _ _ p)).obj s) _ ho ?_;refine ret ?_;have:=h _ _ _ hS;rw[hne0]at this;exact this
 ·rcases hS.h1 with e|e
  ·subst e;refine Qa (c:=cfg 35) zb Tryz.func187 ?_;refine⟨1,rfl,ψ,?_⟩;refine za (o:=(F.un (svS G s w v _ _ _ p)).obj s) _ ho ?_;refine Qc zb Me ?_;refine za (o:=(F.un (svS G s w v _ _ _ p)).obj s) _ ho ?_;refine za (o:=(F.un (svS G s w v _ _ _ p)).obj s) _ ho ?_;refine⟨Lk w.G hg w.B hB hb 1 _ _ ⟨Tv,?_⟩,Tv⟩;refine⟨1,rfl,ψ,?_⟩;have ho2:=zf (a:=F) (Be G s w v o0 (opV w.G w.B 1) o2 p);have hc2:=No (D2 hg w.B 1);refine⟨?_,Tv⟩;refine za _ rfl (xp rfl (xl (v:=opV w.G w.B 1) rfl rfl rfl rfl ?_));refine qd (i:=ti68) (v:=opV w.G w.B 1) (b:=s) (o:=0+8+1*ti68.size) (l:=svC w v o0 _ o2 p) (st2:=F.un (svS G s w v o0 (opV w.G w.B 1) o2 p)) hc2.1 hc2.2 rfl ho (show 9+1<=12 by decide) ?_ ?_
   ·rw[zz];unfold svS;rw[ym];rfl
   refine⟨Tv,?_⟩;refine⟨1,rfl,ψ,?_⟩;refine za (o:=(F.un (svS G s w v _ _ _ p)).obj s) _ ho2 ?_;exact ret (h _ _ _ ⟨hS.hc,nf hS.hd,hS.hs,hS.hu,hS.h0,.inr rfl,hS.h2⟩)
  ·rw[hne1]at e;subst e;refine Qa (c:=cfg 35) zb Tryz.func187 ?_;refine⟨1,rfl,ψ,?_⟩;refine za (o:=(F.un (svS G s w v _ _ _ p)).obj s) _ ho ?_;refine λbb hbb=>?_;have hbf:bb=false:=by grind
   subst hbf;refine⟨1,rfl,ψ,?_⟩;refine za (o:=(F.un (svS G s w v _ _ _ p)).obj s) _ ho ?_;refine ret ?_;have:=h _ _ _ hS;rw[hne1]at this;exact this
 ·rcases hS.h2 with e|e
  ·subst e;refine Qa (c:=cfg 35) zb Tryz.func187 ?_;refine⟨2,rfl,ψ,?_⟩;refine za (o:=(F.un (svS G s w v _ _ _ p)).obj s) _ ho ?_;refine Qc zb Me ?_;refine za (o:=(F.un (svS G s w v _ _ _ p)).obj s) _ ho ?_;refine za (o:=(F.un (svS G s w v _ _ _ p)).obj s) _ ho ?_;refine⟨Lk w.G hg w.B hB hb 2 _ _ ⟨Tv,?_⟩,Tv⟩;refine⟨2,rfl,ψ,?_⟩;have ho2:=zf (a:=F) (Be G s w v o0 o1 (opV w.G w.B 2) p);have hc2:=No (D2 hg w.B 2);refine⟨?_,Tv⟩;refine za _ rfl (xp rfl (xl (v:=opV w.G w.B 2) rfl rfl rfl rfl ?_));refine qd (i:=ti68) (v:=opV w.G w.B 2) (b:=s) (o:=0+8+2*ti68.size) (l:=svC w v o0 o1 _ p) (st2:=F.un (svS G s w v o0 o1 (opV w.G w.B 2) p)) hc2.1 hc2.2 rfl ho (show 10+1<=12 by decide) ?_ ?_
   ·rw[zz];unfold svS;rw[ym];rfl
   refine⟨Tv,?_⟩;refine⟨2,rfl,ψ,?_⟩;refine za (o:=(F.un (svS G s w v _ _ _ p)).obj s) _ ho2 ?_;exact ret (h _ _ _ ⟨hS.hc,nf hS.hd,hS.hs,hS.hu,hS.h0,hS.h1,.inr rfl⟩)
  ·rw[hne2]at e;subst e;refine Qa (c:=cfg 35) zb Tryz.func187 ?_;refine⟨2,rfl,ψ,?_⟩;refine za (o:=(F.un (svS G s w v _ _ _ p)).obj s) _ ho ?_;refine λbb hbb=>?_;have hbf:bb=false:=by grind
   subst hbf;refine⟨2,rfl,ψ,?_⟩;refine za (o:=(F.un (svS G s w v _ _ _ p)).obj s) _ ho ?_;refine ret ?_;have:=h _ _ _ hS;rw[hne2]at this;exact this
theorem yn9(cs:List Value):flat (.tup (cs.map AV.s)):=by
 intro w T w' T' v h;cases h with
 |tup _ c hl h=>
  refine .tup _ c hl λi x y hx hy=>?_;rw[Faq]at hx;cases hc:cs[i]? with
  |none=>rw[hc]at hx;cases hx
  |some z=>
   rw[hc]at hx;cases hx;have:=h i (.s z) y δ hy;cases this;exact .s _
theorem bz{g:Store}{l:List Unt}(hv:RowsQ 10 zn g v l)(hl:l.length<=1000000000000)(hr:yl l)(id:Int)(R:Ja)
  (h:∀i,Mx l id i->∀z:Bool,(z=true↔∃hi:i<l.length,l[i].id=id)->R (.tup [int (i:Nat),V.bool z]) g):Jb 190 [v,int id] g R:=
 ACalls.read (ys:=[lst 10 zn l,int id]) (Q:=λr=>∃(i:Nat) (z:Bool),r=.tup [int (i:Nat),V.bool z]/\Mx l id i/\(z=true↔∃hi:i<l.length,l[i].id=id)) (λOth M W vs sto hr=>by obtain⟨x,y,rfl,h1,h2⟩:=O0 hr;exact Reads.cons (hv.borrow Bb R1 sto h1) (Reads.cons (xg h2) Reads.nil)) (oz l hl hr id _ _ λi hi z hz=>⟨i,z,rfl,hi,hz⟩) (λr ⟨i,z,e,_⟩=>e▸yn9 [_,_]) (λr ⟨i,z,e,hi,hz⟩=>e▸h i hi z hz)
theorem tn{L:List Ent}(hS:StandR F G s p w v L o0 o1 o2)(hr:yl w.U)(hU:w.U.length<=1000000)(hn:∀u∈w.U,u.pos.ok)(hLl:L.length<=w.U.length)(hL:D3 w L)(q:Vc)(hq:q.ok)(r:Int)(hrr:0<r/\r<=262144)(R:Ja)
  (h:∀F' us,StandR F' G s p w v L o0 o1 o2->K4 w q (r+81920) us->(us.map (·.id)).Pairwise (·<·)->us.length<=1000000->R (lst 10 zn us) (F'.un (svS G s w v o0 o1 o2 p))):Jb 188 [ptr s,.agg (yd q),int r] (F.un (svS G s w v o0 o1 o2 p)) R:=by
 have ho:=zf (a:=F) (Be G s w v o0 o1 o2 p);refine Qa (c:=cfg 47) zb Tryz.func188 ?_;refine Qc zb uk ?_;refine za (o:=(F.un (svS G s w v _ _ _ p)).obj s) _ ho ?_;refine Qd ?_;refine⟨zfx hS.hc hS.hd θ (Kw hL hn) hq (r:=r+81920) ⟨θ,θ⟩ _ (λF' N nv ns g1 g2 g3 g4 g5 g6=>⟨Tv,?_⟩),Tv⟩;have hS':StandR F' G s p w v L o0 o1 o2:=⟨g1,g3,hS.hs,hS.hu,hS.h0,hS.h1,hS.h2⟩
 have ho':((F'.un N).un (svS G s w v o0 o1 o2 p)).obj s=some (.cells (svC w v o0 o1 o2 p)):=zf (Be G s w v o0 o1 o2 p);have g4':zh (F'.un N) (svS G s w v o0 o1 o2 p):=disj_un.2 ⟨g3,g4⟩;have hv:∃oa cap,nv=.s (.slice oa ns.length cap)/\∀i,i<ns.length->∃b J,oa=some ⟨b,0,none⟩/\((F'.un N).un (svS G s w v o0 o1 o2 p)).obj b=some (.cells (ns.map aI++J)):=by
  rcases Pg g5 with⟨rfl,rfl⟩|⟨b,cap,J,rfl,hob,_⟩
  ·grind
  simp_all[yj,zf]
 obtain⟨oa,cap,rfl,hget⟩:=hv;have hrow:RowsQ 10 zn ((F'.un N).un (svS G s w v o0 o1 o2 p)) v w.U:=(H3 hS.hs hS.hu).un;have hnl:ns.length<=w.U.length:=by have:=Fbp (l₂:=L.map (·.1)) (g6.1.imp λh=>θ) (λid hid=>by obtain⟨e,he,h2,_⟩:=(g6.2 id).1 hid;grind);grind
 have hfin:∀us:List Unt,us.map (·.id)=ns->(∀u∈us,u∈w.U/\u.inn=0)->R (lst 10 zn us) (F'.un (svS G s w v o0 o1 o2 p)):=λus e1 e2=>
  h F' us hS' (zbt hr hL g6 e1 e2) (by rw[e1];exact g6.1) δ
 have hback:=zdd (S:=svS G s w v o0 o1 o2 p) g2;generalize(F'.un N).un (svS G s w v o0 o1 o2 p)=st1 at*
 refine AWp.loop (σ:=Nat×AV×List Unt) ⟨λx=>[(0,.av (ptr s)),(6,.av x.2.1),(18,.av (.s (.slice oa ns.length cap))),(19,.av (int (ns.length:Nat))),(20,.av (int (x.1:Nat)))],λ_=>[],
  λx st'=>x.1<=ns.length/\App 10 st1 x.2.1 (rws zn x.2.2) st'/\x.2.2.map (·.id)=ns.take x.1/\∀u∈x.2.2,u∈w.U/\u.inn=0,λx=>ns.length-x.1⟩ zb ?_ ?_
 ·exact⟨(0,_,[]),Tv,⟨Fae _,App.start 10 st1,rfl,λu hu=>(by cases hu)⟩,⟨Tq,Tq,Tq,Tq,Tq,Tv⟩,Tv⟩
 rintro⟨i,v2,us⟩ st' ⟨hi,ha,hus,hin⟩;dsimp only at hi ha hus hin⊢;refine bcd (λh1=>?_) (λh1=>?_);rotate_left
 ·have:i=ns.length:=θ;subst this;rw[Fal]at hus;exact⟨_,_,AV.le_trans ha.le (Tt),ha.has.trans hback,hfin us hus hin⟩
 have hlt:i<ns.length:=θ;obtain⟨b,J,rfl,hob⟩:=hget i hlt;have hob':st'.obj b=some (.cells (ns.map aI++J)):=by rw[ha.obj];exact hob
 have hrow':RowsQ 10 zn st' v w.U:=by exact hrow.sub λ_ _ _ _=>by rw[ha.obj]
 have hos:st'.obj s=some (.cells (svC w v o0 o1 o2 p)):=by rw[ha.obj];exact ho'
 refine⟨i,rfl,hlt,?_⟩;refine Qav ?_;refine za (o:=List.head? _) (int ns[i]) ψt ?_;refine Qav ?_;refine bz hrow' θ hr ns[i] _ (λk hk z hz=>?_);obtain⟨e,he,hid,_⟩:=(g6.2 ns[i]).1 (Faa hlt);obtain⟨u,hu,hu0,rfl⟩:=(hL e).1 he;have hfound:∃hk2:k<w.U.length,w.U[k].id=ns[i]:=by
  obtain⟨j,hj,rfl⟩:=Faj hu;have h5:j>=k:=Decidable.byContradiction λhn2=>by have:=hk.2.1 j hj θ;grind
  have h7:k<w.U.length:=θ;refine⟨h7,?_⟩;have h8:=hk.2.2 k h7 (Fak _);have h6:(w.U[j]).id=ns[i]:=hid;by_cases e:k=j
  ·subst e;exact h6
  ·have:=Gg hr (show k<j by omega) hj;omega
 obtain⟨hk2,hk3⟩:=hfound;refine Qav ?_;obtain⟨oa2,cap2,hv2,hget2⟩:=hrow'.form;obtain⟨b2,J2,rfl,hob2⟩:=hget2 k hk2;subst hv2;refine⟨k,rfl,hk2,?_⟩;refine Qav ?_;refine jc (i:=ti72) (row:=zn w.U[k]) rfl rfl (Mh Bb hk2) ?_;refine⟨ψ,?_⟩;have hul:us.length=i:=by have:=congrArg List.length hus;grind
 refine Bj (ie:=ti72) (rows':=[zn w.U[k]]) ha ?_ ?_ ⟨?_,?_⟩ (λv3 st3 ha3=>?_)
 ·rfl
 ·rfl
 ·simp only[zj,Fas,ti72];omega
 ·grind[zj]
 refine Qd ?_;have huk:w.U[k]=u:=Ic hr (Faa hk2) hu (by rw[hk3];exact hid.symm);refine⟨(i+1,v3,us++[w.U[k]]),?_,⟨ζ,?_,?_,λu2 hu2=>?_⟩,Qaq,Tv⟩
 ·grind
 ·dsimp only;unfold rws at ha3⊢;rw[Fax];exact ha3
 ·simp_all
 grind
theorem tp{L:List Ent}(hS:StandR F G s p w v L o0 o1 o2)(hr:yl w.U)(hU:w.U.length<=1000000)(hn:∀u∈w.U,u.pos.ok)(hLl:L.length<=w.U.length)(hL:D3 w L)(q:Vc)(hq:q.ok)(r:Int)(hrr:0<r/\r<=262144)(R:Ja)
  (h:∀F' us,StandR F' G s p w v L o0 o1 o2->K4 w q (r+81920) us->us.length<=1000000->R (lst 10 zn us) (F'.un (svS G s w v o0 o1 o2 p))):Jb 188 [ptr s,.agg (yd q),int r] (F.un (svS G s w v o0 o1 o2 p)) R:=
 tn hS hr hU hn hLl hL q hq r hrr R λF' us a b _ d=>h F' us a b d
theorem ew{L:List Ent}(hS:StandR F G s p w v L o0 o1 o2)(hg:zt w.G)(hB:w.B.length<=1000000000000)(hb:∀b∈w.B,yk b/\onP w.G b)(hr:yl w.U)(hU:w.U.length<=1000000)(hn:∀u∈w.U,u.pos.ok)(hLl:L.length<=w.U.length)(hL:D3 w L)
  (id k:Int) (q:Vc) (hq:q.ok) (R:Ja)
  (h:∀z F' q0 q1 q2,(z=true↔qu w id k q)->StandR F' G s p w v L q0 q1 q2->R (V.bool z) (F'.un (svS G s w v q0 q1 q2 p))):Jb 110 [ptr s,int id,int k,.agg (yd q)] (F.un (svS G s w v o0 o1 o2 p)) R:=by
 have ho:=zf (a:=F) (Be G s w v o0 o1 o2 p);have hk:=Dk k;have hc:=Mw k;refine Qa (c:=cfg 56) zb Tryz.func110 ?_;refine ju k _ _ ?_;refine Qc zb uo ?_;refine za (o:=(F.un (svS G s w v _ _ _ p)).obj s) _ ho ?_;refine⟨zyx hS hg hB hb (qi k) hc _ (λa0 a1 a2 hS1=>⟨?_,?_⟩),Tv⟩
 ·have ho1:=zf (a:=F) (Be G s w v a0 a1 a2 p);repeat(first|exact Tv|refine⟨rfl,?_⟩|refine⟨za (o:=(F.un (svS G s w v a0 a1 a2 p)).obj s) _ ho1 rfl,?_⟩)
 refine⟨zd1 w.G hg w.B (qi k) q hq (zx k) ⟨hk.1,θ⟩ _ _ (λz hz=>⟨Tv,?_⟩),Tv⟩;refine yi ?_;refine zk (λc1=>?_) (λc1=>ret (h false _ _ _ _ ψu hS1));have hfree:=hz.1 c1;refine tp hS1 hr hU hn hLl hL q hq (zx k) ⟨hk.1,θ⟩ _ (λF' us hS2 hus hul=>?_);have hci:=zfi (id:=id) hfree hus;have no:¬qu w id k q->R (V.bool false) (F'.un (svS G s w v a0 a1 a2 p)):=λhh=>h false _ _ _ _ θ1 hS2
 refine AWp.loop (σ:=Nat) ⟨λi=>[(1,.av (int id)),(7,.bx 7 0),(9,.bx 9 0),(32,.av (lst 10 zn us)),(33,.av (int (us.length:Nat))),(34,.av (int (i:Nat)))],λ_=>[(7,yd q),(9,Fw k)],
  λi st'=>st'=F'.un (svS G s w v a0 a1 a2 p)/\i<=us.length/\∀j,(hj:j<us.length)->j<i->us[j].id≠id->vf q (zx k) us[j].pos (zx us[j].kind)=true,λi=>us.length-i⟩ zb ?_ ?_
 ·refine⟨0,Tv,⟨rfl,Fae _,λj _ hj=>θ⟩,⟨Tq,Tq,Tq,Tq,?_,Tq,Tv⟩,⟨rfl,rfl,Tv⟩⟩;rw[<-zj (f:=zn) us];exact Tq
 rintro i st' ⟨rfl,hi,hall⟩;refine bcd (λh1=>?_) (λh1=>?_);rotate_left
 ·refine ret (h true _ _ _ _ ψv hS2)
 have hlt:i<us.length:=θ;have hui:=(hus us[i]).1 (Faa hlt);have next:(us[i].id≠id->vf q (zx k) us[i].pos (zx us[i].kind)=true)->∀j,(hj:j<us.length)->j<i+1->us[j].id≠id->vf q (zx k) us[j].pos (zx us[j].kind)=true:=λhh j hj hji=>by
  by_cases e:j=i
  ·subst e;exact hh
  ·exact hall j hj θ
 refine⟨i,rfl,za _ (zq hlt) ?_⟩;refine Qc zb um ?_;refine qf (λc2=>?_) (λc2=>?_)
 ·refine⟨ju us[i].kind _ _ ⟨Qe,?_⟩,Tv⟩;have hk2:=Dk us[i].kind;refine⟨zgt q (zx k) us[i].pos (zx us[i].kind) hq (hn _ hui.1.1) ⟨hk.1,θ⟩ ⟨hk2.1,θ⟩ _ _ ⟨Tv,?_⟩,Tv⟩;refine yi ?_;refine zk (λc3=>?_) (λc3=>?_)
  ·refine Qd ?_;refine⟨i+1,?_,⟨rfl,θ,next λ_=>c3⟩,Qaq,⟨rfl,rfl,Tv⟩⟩;show us.length-(i+1)<us.length-i;omega
  ·refine ret (no λhh=>?_);have:=hci.1 hh us[i] (Faa hlt) c2;rw[this]at c3;cases c3
 ·refine Qat ?_;refine Qau ?_;refine Qd ?_;refine⟨i+1,?_,⟨rfl,θ,next λhne=>absurd c2 hne⟩,Qaq,⟨rfl,rfl,Tv⟩⟩;show us.length-(i+1)<us.length-i;omega
end
end Go.Proofs
namespace Go.Proofs
open Go Go.V
set_option maxRecDepth 20000
set_option maxHeartbeats 4000000
section
variable {F G F':Store} {xw p:Nat} {w:Wld} {v o0 o1 o2 fv q0 q1 q2:AV}
def wkC(s:Nat)(c:Cmd)(fv:AV):List AV:=ptr s::(yz c++[fv])
def Dp(S:Store)(xw s:Nat)(c:Cmd)(fv:AV)(w:Wld):Prop:=
 ∃v o0 o1 o2 p,S.obj xw=some (.cells (wkC s c fv))/\S.obj s=some (.cells (svC w v o0 o1 o2 p))/\RowsQ 10 zn S v w.U
structure Work(F G:Store)(xw s p:Nat)(w:Wld)(v:AV)(L:List Ent)(o0 o1 o2:AV)(c:Cmd)(fv:AV):Prop where
 S:StandR F G s p w v L o0 o1 o2
 hx:G.obj xw=some (.cells (wkC s c fv))
 ox:j5 v xw
 os:j5 v s
 hL:L.length<=w.U.length
 hF:D3 w L
theorem Work.ne{s:Nat}{L:List Ent}{c:Cmd}(h:Work F G xw s p w v L o0 o1 o2 c fv):xw≠s:=λe=>by have h1:=h.hx;rw[e,h.S.hs]at h1;cases h1
theorem Work.x{s:Nat}{L:List Ent}{c:Cmd}(h:Work F G xw s p w v L o0 o1 o2 c fv):(F'.un (svS G s w v q0 q1 q2 p)).obj xw=some (.cells (wkC s c fv)):=zf (by show(G.sO s _).obj xw=_;rw[zg h.ne];exact h.hx)
theorem Work.s{s:Nat}{L:List Ent}{c:Cmd}(h:Work F G xw s p w v L o0 o1 o2 c fv):(F'.un (svS G s w v q0 q1 q2 p)).obj s=some (.cells (svC w v q0 q1 q2 p)):=zf (Be _ _ _ _ _ _ _ _)
theorem Work.r{s:Nat}{L:List Ent}{c:Cmd}(h:Work F G xw s p w v L o0 o1 o2 c fv):RowsQ 10 zn (F'.un (svS G s w v q0 q1 q2 p)) v w.U:=(H3 h.S.hs h.S.hu).un
theorem fw(u:Unt)(st:Store)(R:Ja)(h:R (.agg (zn {u with goal:=-1,next:=-1,stuck:=0,state:=0})) st):Jb 284 [.agg (zn u)] st R:=by refine Qa (c:=cfg 8) zb Tryz.func284 ?_;exact ret h
theorem zhf{s:Nat}{L:List Ent}{c:Cmd}(hW:Work F G xw s p w v L o0 o1 o2 c fv)(hm:MayF w)(hn:∀u∈w.U,u.pos.ok)(hq:Vc.ok (c.X,c.Y))(R:Ja)
  (h:∀S',spE w c≠0->R (int (spE w c)) S') (h0:spE w c=0->∀S',Dp S' xw s c fv (spW w c)->R (int 0) S'):Jb 194 [ptr xw] (F.un (svS G s w v o0 o1 o2 p)) R:=by
 obtain⟨oa,cap,e,hget⟩:=hW.S.hu.form;subst e;have hU:=hm.hU;have hn2:=hm.hn2;have hn1:=hm.hn1;have hx:=hW.x (F':=F) (q0:=o0) (q1:=o1) (q2:=o2);have hs:=hW.s (F':=F) (q0:=o0) (q1:=o1) (q2:=o2);refine Qa (c:=cfg 96) zb Tryz.func194 ?_;refine za (o:=(F.un (svS G s w _ _ _ _ p)).obj xw) _ hx ?_;refine za (o:=(F.un (svS G s w _ _ _ _ p)).obj s) _ hs ?_;refine zw (λc1=>?_) (λc1=>?_)
 ·have hf:I0 w:=.inl θ;have he:spE w c=4:=by unfold spE;rw[if_pos hf]
  have:=h Store.empty θu;rw[he]at this;exact Cw (Tt) (Wq _) this
 refine za (o:=(F.un (svS G s w _ _ _ _ p)).obj xw) _ hx ?_;refine za (o:=(F.un (svS G s w _ _ _ _ p)).obj s) _ hs ?_;refine zw (λc2=>?_) (λc2=>?_)
 ·have hf:I0 w:=.inr θ;have he:spE w c=4:=by unfold spE;rw[if_pos hf]
  have:=h Store.empty θu;rw[he]at this;exact Cw (Tt) (Wq _) this
 have hf:¬I0 w:=λhh=>by rcases hh with hh|hh<;>omega
 refine Qc zb yc5 ?_;refine za (o:=(F.un (svS G s w _ _ _ _ p)).obj xw) _ hx ?_;refine za (o:=(F.un (svS G s w _ _ _ _ p)).obj xw) _ hx ?_;refine za (o:=(F.un (svS G s w _ _ _ _ p)).obj xw) _ hx ?_;refine⟨ew hW.S hm.hg (by have:=hm.hB;omega) hm.hb hm.hr θ hn hW.hL hW.hF 0 c.N (c.X,c.Y) hq _ (λz F2 q0 q1_ q2_ hz hS2=>⟨?_,?_⟩),Tv⟩
 ·have hx2:=hW.x (F':=F2) (q0:=q0) (q1:=q1_) (q2:=q2_);repeat(first|exact Tv|refine⟨rfl,?_⟩|refine⟨za (o:=(F2.un (svS G s w _ q0 q1_ q2_ p)).obj xw) _ hx2 rfl,?_⟩)
 have hx2:=hW.x (F':=F2) (q0:=q0) (q1:=q1_) (q2:=q2_);have hs2:=hW.s (F':=F2) (q0:=q0) (q1:=q1_) (q2:=q2_);have hr2:=hW.r (F':=F2) (q0:=q0) (q1:=q1_) (q2:=q2_);generalize F2.un (svS G s w _ q0 q1_ q2_ p)=S at hx2 hs2 hr2⊢;refine Qat ?_;refine yi ?_;refine zk (λc3=>?_) (λc3=>?_);rotate_left
 ·have hncl:¬qu w 0 c.N (c.X,c.Y):=λhh=>by have:=hz.2 hh;rw[this]at c3;cases c3
  have he:spE w c=5:=by unfold spE;rw[if_neg hf,if_neg hncl]
  have:=h S θu;rw[he]at this;exact ret this
 have he:spE w c=0:=by unfold spE;rw[if_neg hf,if_pos (hz.1 c3)]
 have hxs:=hW.ne;refine Qc zb yc4 ?_;refine Qav ?_;refine Qav ?_;refine Qav ?_;refine Qav ?_;refine Qav ?_;refine Qav ?_;refine Qav ?_;refine Qav ?_;refine⟨fw ⟨w.next,c.P,c.N,(c.X,c.Y),0,0,0,0,0⟩ _ _ ⟨?_,?_⟩,Tv⟩
 ·repeat(first|exact Tv|refine⟨rfl,?_⟩|refine⟨za (o:=S.obj xw) _ hx2 rfl,?_⟩|refine⟨za (o:=S.obj s) _ hs2 rfl,?_⟩)
 refine⟨ψ,?_⟩;refine⟨Hv (ie:=ti72) rfl Bb ψ hr2 (spU w c) rfl θ (λb cap2 L2 q1 q2 q3 q4=>?_),Tv⟩;have hbs:b≠s:=by
  rcases q1 with q1|⟨c0,q00,q1⟩
  ·exact q1.ne_obj hs2
  ·exact hW.os b _ _ q1 q00
 have hbx:b≠xw:=by
  rcases q1 with q1|⟨c0,q00,q1⟩
  ·exact q1.ne_obj hx2
  ·exact hW.ox b _ _ q1 q00
 have hx3:(S.sO b (.cells ((rws zn (w.U++[spU w c])).flatten++L2))).obj xw=some (.cells (wkC s c fv)):=by rw[zg (Ne.symm hbx)];exact hx2
 have hs3:(S.sO b (.cells ((rws zn (w.U++[spU w c])).flatten++L2))).obj s=some (.cells (svC w (.s (.slice oa w.U.length cap)) q0 q1_ q2_ p)):=by rw[zg (Ne.symm hbs)];exact hs2
 have hr3:RowsQ 10 zn (S.sO b (.cells ((rws zn (w.U++[spU w c])).flatten++L2))) (.s (.slice (some ⟨b,0,none⟩) (w.U++[spU w c]).length cap2)) (w.U++[spU w c]):=.inl (.inr ⟨b,cap2,L2,rfl,zd _ _ _,q2,q3,q4⟩);generalize S.sO b _=S3 at hx3 hs3 hr3⊢;have hoff:∀{q},b≠q->j5 (.s (.slice (some ⟨b,0,none⟩) (w.U++[spU w c]).length cap2)) q:=λhne b' n' c' e _=>by simp only[AV.s.injEq,Value.slice.injEq,Faf,Addr.mk.injEq]at e;exact e.1.1▸hne
 refine⟨?_,?_⟩
 ·repeat(first|exact Tv|refine⟨rfl,?_⟩|refine⟨za (o:=S3.obj xw) _ hx3 rfl,?_⟩|refine⟨za (o:=S3.obj s) _ hs3 rfl,?_⟩)
 refine⟨?_,Tv⟩;refine za _ rfl (xp rfl (xl (v:=.s (.slice (some ⟨b,0,none⟩) (w.U++[spU w c]).length cap2)) rfl rfl rfl rfl ?_));refine j4 (i:=ti26) (v:=.s (.slice (some ⟨b,0,none⟩) (w.U++[spU w c]).length cap2)) (b:=s) (o:=7) (l:=svC w (.s (.slice oa w.U.length cap)) q0 q1_ q2_ p) rfl rfl rfl hs3 (show 7+1<=12 by decide) ?_;have e3:zp (svC w (.s (.slice oa w.U.length cap)) q0 q1_ q2_ p) 7 [.s (.slice (some ⟨b,0,none⟩) (w.U++[spU w c]).length cap2)]=svC w (.s (.slice (some ⟨b,0,none⟩) (w.U++[spU w c]).length cap2)) q0 q1_ q2_ p:=rfl;rw[e3];have hr4:=hr3.set (hoff hbs) (.cells (svC w (.s (.slice (some ⟨b,0,none⟩) (w.U++[spU w c]).length cap2)) q0 q1_ q2_ p));have hs4:(S3.sO s (.cells (svC w (.s (.slice (some ⟨b,0,none⟩) (w.U++[spU w c]).length cap2)) q0 q1_ q2_ p))).obj s=_:=zd _ _ _;have hx4:(S3.sO s (.cells (svC w (.s (.slice (some ⟨b,0,none⟩) (w.U++[spU w c]).length cap2)) q0 q1_ q2_ p))).obj xw=_:=(zg hxs).trans hx3;generalize S3.sO s _=S4 at hr4 hs4 hx4⊢;refine⟨Tv,?_⟩;refine Qav ?_;refine Qav ?_;refine Qd ?_;refine j4 (i:=ti2) (v:=int (w.next+1)) (b:=s) (o:=2) (l:=svC w (.s (.slice (some ⟨b,0,none⟩) (w.U++[spU w c]).length cap2)) q0 q1_ q2_ p) rfl rfl rfl hs4 (show 2+1<=12 by decide) ?_;exact ret (h0 he _ ⟨_,q0,q1_,q2_,p,(zg hxs).trans hx4,zd _ _ _,hr4.set (hoff hbs) _⟩)
end
theorem yqp{c:Cmd}(h:qt c.X c.Y):Vc.ok (c.X,c.Y):=by unfold qt at h;unfold Vc.ok yg;dsimp only;omega
end Go.Proofs
namespace Go.Proofs
open Go Go.V
set_option maxRecDepth 20000
set_option maxHeartbeats 4000000
end Go.Proofs
namespace Go.Proofs
open Go Go.V
set_option maxRecDepth 20000
set_option maxHeartbeats 4000000
theorem yp4(l:List Cmd)(hl:l.length<=140737488355328)(hu:∀c∈l,c.sized)(st:Store)(R:Ja)
  (h:∀w:Int,l.length<=w->(w<1048576->∀c∈l,(c.U.length:Int)<=w)->w<=281474976710656->R (int w) st):Jb 42 [lst 10 yz l] st R:=by
 refine Qa (c:=cfg 26) zb Tryz.func42 ?_
 refine AWp.loop (σ:=Nat×Int) ⟨λs=>[(0,.av (lst 10 yz l)),(3,.av (int s.2)),(4,.av (int (s.1:Nat)))],λ_=>[],
  λs st'=>s.1<=l.length/\st'=st/\(l.length:Int)<=s.2/\s.2<=281474976710656/\(s.2<1048576->∀c∈l.take s.1,(c.U.length:Int)<=s.2),λs=>l.length-s.1⟩ zb ?_ ?_
 ·refine⟨(0,(l.length:Int)),Tv,⟨Fae _,rfl,Fcj _,by simp only;omega,λ_ c hc=>by simp at hc⟩,⟨Tq,?_,Tq,Tv⟩,Tv⟩;rw[<-zj (f:=yz) l];exact Tq
 rintro⟨i,n⟩ st' ⟨hi,rfl,hn,hn2,hU⟩;dsimp only at hi hn hn2 hU⊢;refine zk (λh1=>?_) (λh1=>?_)
 ·have hlt:i<l.length:=wo h1;have hsz:=hu _ (Faa hlt);unfold Cmd.sized at hsz;refine bcd (λh2=>?_) (λh2=>?_)
  ·refine⟨i,rfl,za _ (zq hlt) ?_⟩;refine⟨by rw[zj];exact⟨θ,θ⟩,?_⟩;refine⟨⟨θ,θ⟩,?_⟩;refine⟨(i+1,n+(l[i].U.length:Int)),?_,⟨hlt,rfl,by simp only;omega,by simp only;omega,λh3 c hc=>?_⟩,⟨Tq,?_,Tq,Tv⟩,Tv⟩
   ·show l.length-(i+1)<l.length-i;omega
   ·simp only at h3⊢;rw[Fab hlt]at hc;rcases Fat.1 hc with hc|hc
    ·have:=hU θ c hc;omega
    ·rw[Fbt]at hc;subst hc;omega
   ·simp only;rw[<-zj (f:=zv) l[i].U];exact Tq
  ·exact ret (h n hn (λh3=>absurd h3 h2) hn2)
 ·have hge:i=l.length:=Aw h1 hi;subst hge;rw[Fal]at hU;exact ret (h n hn hU hn2)
theorem yl9(s:Scr)(hf:∀c∈s.L,c.sized)(st:Store)(R:Ja)(h:∀z:Bool,(z=false->¬Po s.W/\s.L.length<=60/\∀c∈s.L,c.fits)->R (V.bool z) st):Jb 7 [.agg (fe s)] st R:=by
 have yes:=h true (λhh=>by cases hh);refine Qa (c:=cfg 18) zb Tryz.func7 ?_;refine ymm s.W _ _ (λz hz=>?_);refine zk (λc1=>ret yes) (λc1=>?_);have hng:¬Po s.W:=λhh=>ψp;refine zk (λc2=>ret yes) (λc2=>?_);have hl:s.L.length<=60:=by have c2:=of_decide_eq_false c2;rw[zj]at c2;omega
 refine yp4 s.L θ hf _ _ (λn h1 h2 h3=>?_);refine ret (h _ λhz=>⟨hng,hl,λc hc=>?_⟩);have hz:=of_decide_eq_false hz;have:=h2 θ c hc;unfold Cmd.fits;omega
end Go.Proofs
