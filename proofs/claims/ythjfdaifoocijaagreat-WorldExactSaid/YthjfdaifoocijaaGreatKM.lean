/- Ground of laws of thronglaw25: contracts and plain lemmas; no condition beyond the row's own. -/
import Derived.Test.YthjfdaifoocijaaGreatKL
import Derived.Test.YthjfdaifoocijaaGreatKF
set_option linter.unusedSimpArgs false
set_option linter.unusedVariables false
set_option linter.defProp false
namespace Go.Proofs
open Go Go.V
set_option maxRecDepth 20000
set_option maxHeartbeats 4000000
def ygt{R:Ja}{b:Bool}{st:Store}(h:R (V.bool b) st)(hb:b=true):R (V.bool true) st:=by rw[hb]at h;exact h
def yix(w:Wld)(b:Bld)(p:Nat)(st:Store)(hp:st.obj p=some (.cells (zp w)))(R:Ja)(h:R (V.bool (decide (b.owner>w.players\/b.id>=w.next))) st):
  Jb 129 ([.agg (zi b)]++[ptr p]) st R:=by
 refine Qy 16 Tryz.func129 ?_;refine za _ hp (bcd (λc1=>ret (ygt h (decide_eq_true (.inl c1)))) λc1=>za _ hp (ret ?_));have e:decide (b.owner>w.players\/b.id>=w.next)=decide (b.id>=w.next):=by rw[Fbq,decide_eq_true_iff,decide_eq_true_iff];omega
 rw[e]at h;exact h
def yiw(w:Wld)(hw:w.fits)(st:Store)(R:Ja)(h:∀z:Bool,(z=true↔Ir w)->R (V.bool z) st):Jb 78 [.agg (zp w)] st R:=by
 obtain⟨hw1,hw2,hw3⟩:=hw;refine Qa (c:=cfg 54 [1] []) zb Tryz.func78 ?_;intro p hp;have ho:(st.sO p (.cells (zp w))).obj p=some (.cells (zp w)):=zd _ _ _;have nof:¬Ir w->∃r st',AV.le (V.bool false) r/\(st.sO p (.cells (zp w))).Has st'/\R r st':=λhn=>vh (Tt) (Hl hp.1) (h false θ0);refine za _ ho (bcd (λc1=>nof λq=>θc) (λc1=>za _ ho (bcd (λc2=>nof λq=>θc) (λc2=>za _ ho (bcd (λc3=>nof λq=>θc) (λc3=>za _ ho (bcd (λc4=>nof λq=>θc) (λc4=>za _ ho (bcd (λc5=>nof λq=>θc) (λc5=>za _ ho (bcd (λc6=>nof λq=>θc) (λc6=>za _ ho (zbn w.G hw1 _ _ (λz hz=>ye (zh (λc7=>?_) (λc7=>nof λq=>by have:=hz.2 q.2.1.1;rw[this]at c7;cases c7))))))))))))))));have hg:=hz.1 c7;refine za _ ho (za _ ho (ymz w.G hg w.B hw2 _ _ (λz hz=>ye (zh (λc8=>?_) (λc8=>nof λq=>by have:=hz.2 q.2.1.2.1;rw[this]at c8;cases c8)))));have hb:=hz.1 c8;refine za _ ho ?_;have hUl:((rws zf w.U).length:Int)=(w.U.length:Int):=by rw[zl]
 refine bcd (λc9=>nof λq=>by have:=q.2.1.2.2;omega) λc9=>za _ ho (zd2 w.B hw2 _ _ (λb=>decide (b.owner>w.players\/b.id>=w.next)) _ (λb hb R h=>yix w b p _ ho R h) _ (vh (Tt) (Hl hp.1) (h _ ?_)));rw[Fb5,Fdg];constructor
 ·intro hh;refine⟨θ,⟨hg,hb,θ⟩,λb hb2=>?_⟩;have:=hh b hb2;rw[decide_eq_true_iff]at this;omega
 ·intro hh b hb2;have:=hh.2.2 b hb2;rw[decide_eq_true_iff];omega
def Na(cs:List (Int×Int))(bs:List Nat)(clk:Nat):AObj:=.map (cs.map (qb int)) bs clk
def Vy(m:Nat):AV:=.s (.map (some m))
def yb0(w:Wld)(hU:w.U.length<=1000000)(hr:yr w.U)(st:Store)(R:Ja)(h:∀z:Bool,(z=true↔∀u∈w.U,u.inn≠0->Bk w u)->R (V.bool z) st):Jb 82 [.agg (zp w)] st R:=by
 refine Qy 85 Tryz.func82 ?_;refine Ht rfl λm hm=>?_;have hhas:∀x,(st.sO m x).Has st:=λx=>Hl hm.1;have nof:∀x,¬(∀u∈w.U,u.inn≠0->Bk w u)->∃r st',AV.le (V.bool false) r/\(st.sO m x).Has st'/\R r st':=λx hn=>vh (Tt) (hhas x) (h false θ0)
 refine AWp.loop (σ:=Nat×List (Int×Int)×List Nat×Nat) ⟨λx=>[(1,.bx 1 0),(3,.av (Vy m)),(11,.av (lst 10 zf w.U)),(12,.av (int (w.U.length:Nat))),(13,.av (int (x.1:Nat)))],λ_=>[(1,zp w)],
  λx st'=>x.1<=w.U.length/\st'=st.sO m (Na x.2.1 x.2.2.1 x.2.2.2)/\(∀id,id≠0->(qc x.2.1 id).getD 0=((z8 (w.U.take x.1) id).length:Int))/\cq w x.1,λx=>w.U.length-x.1⟩ zb ?_ ?_
 ·refine⟨(0,[],[],0),Tv,⟨Fad _,rfl,λid _=>rfl,λj _ hj=>θ,λx _ _=>(K7 _).1⟩,⟨Tq,Tq,Tq,?_,Tq,Tv⟩,⟨rfl,Tv⟩⟩;rw[<-zl (f:=zf) w.U];exact Tq
 rintro⟨i,cs,bs,clk⟩ st' ⟨hi,rfl,hcnt,hup⟩;dsimp only at hi hcnt hup⊢;refine bcd (λh1=>?_) λh1=>?_;rotate_left
 ·have:i=w.U.length:=θ;subst this;exact vh (Tt) (hhas _) (h true (by simp only[true_iff];exact yb1 hup))
 have hlt:i<w.U.length:=θ;have hui:=Faa hlt;refine⟨i,rfl,za _ (zn hlt) (zt (λc1=>?_) λc1=>?_)⟩
 ·refine Qd ⟨(i+1,cs,bs,clk),?_,⟨ζ,rfl,λid hid=>?_,λj hj hji hne=>?_,λx hx hx0=>?_⟩,Qbn,⟨rfl,Tv⟩⟩
  ·show w.U.length-(i+1)<w.U.length-i;omega
  ·dsimp only;rw[hcnt id hid,O5 hlt,if_neg (by rw[c1];omega)];omega
  ·by_cases e:j=i
   ·subst e;exact absurd c1 hne
   ·exact hup.1 j hj ψh hne
  ·dsimp only;rw[O5 hlt,if_neg (by rw[c1];omega)];have:=hup.2 x hx hx0;omega
 refine lg w.U θ hr w.U[i].inn _ _ λk hk z hz=>?_;have nou:∀x,¬Bk w w.U[i]->∃r st',AV.le (V.bool false) r/\(st.sO m x).Has st'/\R r st':=λx hn=>nof x λhh=>hn (hh _ hui c1);have found:Bk w w.U[i]->z=true:=λ⟨x,hx,e,_⟩=>by
  obtain⟨j,hj,rfl⟩:=Fai hx;refine hz.2 ?_;have h5:j>=k:=Decidable.byContradiction λhn2=>by have:=hk.2.1 j hj θ;omega
  have h7:k<w.U.length:=θ;refine⟨h7,?_⟩;have h8:=hk.2.2 k h7 (Fal _);by_cases e2:k=j
  ·subst e2;exact e
  ·have:=Gb hr (show k<j by omega) hj;omega
 refine ye (zh (λc2=>?_) (λc2=>nou _ λhh=>by rw[found hh]at c2;cases c2));obtain⟨hkl,hkid⟩:=hz.1 c2;have uniq:Bk w w.U[i]->(w.U[k].inn=0/\w.U[k].owner=w.U[i].owner)/\((z8 w.U w.U[i].inn).length:Int)<=j2 w.U[k].kind:=λ⟨x,hx,e,e2,e3,_⟩=>by have:=H9 hr hx (Faa hkl) (by rw[e,hkid]);subst this;exact⟨e2,e3⟩
 refine kj w.U[i].kind _ _ (bcd (λc3=>nou _ λ⟨x,_,_,_,_,e,_⟩=>θ) λc3=>?_);have hroom:j2 w.U[i].kind=0:=by have:=K7 w.U[i].kind;omega
 refine ye (zh (λc4=>?_) (λc4=>nou _ λ⟨x,_,_,_,_,_,e,_⟩=>by rw[e]at c4;cases c4));have hpos:w.U[i].pos=(0,0):=by have:(w.U[i].pos.1==0&&(w.U[i].pos.2==0&&true))=true:=c4;simp at this;exact Prod.ext this.1 this.2
 refine qd (λc5=>nou _ λ⟨x,_,_,_,_,_,_,e,_⟩=>c5 e) λc5=>qd (λc6=>nou _ λ⟨x,_,_,_,_,_,_,_,e⟩=>c6 e) λc6=>⟨k,rfl,za _ (zn hkl) ?_⟩;have hmo:(st.sO m (Na cs bs clk)).obj m=some (Na cs bs clk):=zd _ _ _;refine Ak rfl (it:=ti237) (ie:=ti2) (ik:=ti2) rfl rfl rfl rfl hmo rfl (qA w.U[k].id) (λe he=>?_) ?_
 ·obtain⟨e,_,rfl⟩:=Fag.1 he;rfl
 rw[Hd];have hz0:w.U[k].id≠0:=by rw[hkid];exact c1
 have hcv:(Option.map int (qc cs w.U[k].id)).getD (Dg ti2)=int ((z8 (w.U.take i) w.U[k].id).length:Int):=by rw[<-hcnt _ hz0];cases qc cs w.U[k].id<;>rfl
 rw[hcv];have hcl:(z8 (w.U.take i) w.U[k].id).length<=1000000:=by have h1:=O6 (l:=w.U) i w.U[k].id;have h2:(z8 w.U w.U[k].id).length<=w.U.length:=θk;omega
 refine Qd (D3 (.inl rfl) rfl (it:=ti237) (ik:=ti2) rfl rfl rfl (es:=cs.map (qb int)) (bs:=bs) (clk:=clk) (k:=int w.U[k].id) (v:=int (((z8 (w.U.take i) w.U[k].id).length:Int)+1)) hmo rfl rfl (qA w.U[k].id) (λe he=>?_) (λe1 he hq=>?_) ?_)
 ·obtain⟨e,_,rfl⟩:=Fag.1 he;rfl
 ·obtain⟨g1,_,rfl⟩:=Fag.1 he;have:w.U[k].id=g1.1:=by simpa [qA,qb,int]using hq
  show int g1.1=_;rw[this]
 obtain⟨bs',clk',hput⟩:=K3 int cs bs clk w.U[k].id (((z8 (w.U.take i) w.U[k].id).length:Int)+1);have hput:wg (cs.map (qb int)) bs clk (qA w.U[k].id) (int w.U[k].id) (int (((z8 (w.U.take i) w.U[k].id).length:Int)+1))=Na (yw cs w.U[k].id (((z8 (w.U.take i) w.U[k].id).length:Int)+1)) bs' clk':=hput;rw[hput,yy];have hmo2:(st.sO m (Na (yw cs w.U[k].id (((z8 (w.U.take i) w.U[k].id).length:Int)+1)) bs' clk')).obj m=some (Na (yw cs w.U[k].id (((z8 (w.U.take i) w.U[k].id).length:Int)+1)) bs' clk'):=zd _ _ _;have hlook:Fj false (Dg ti2) (((yw cs w.U[k].id (((z8 (w.U.take i) w.U[k].id).length:Int)+1)).map (qb int)).find? (qA w.U[k].id))=int (((z8 (w.U.take i) w.U[k].id).length:Int)+1):=by rw[Hd,Ct,if_pos rfl];rfl
 have hsucc:=O5 hlt w.U[k].id;rw[if_pos hkid.symm]at hsucc;have hcnt2:∀id,id≠0->(qc (yw cs w.U[k].id (((z8 (w.U.take i) w.U[k].id).length:Int)+1)) id).getD 0=((z8 (w.U.take (i+1)) id).length:Int):=λid hid=>by
  rw[Ct];by_cases e:id=w.U[k].id
  ·rw[if_pos e,e,hsucc];rfl
  ·rw[if_neg e,hcnt id hid,O5 hlt,if_neg (by rw[<-hkid];exact Ne.symm e)];omega
 generalize yw cs w.U[k].id (((z8 (w.U.take i) w.U[k].id).length:Int)+1)=cs2 at*;have over:j2 w.U[k].kind<((z8 (w.U.take i) w.U[k].id).length:Int)+1->¬Bk w w.U[i]:=λhh hp=>by have h2:=(uniq hp).2;have h3:=O6 (l:=w.U) (i+1) w.U[k].id;rw[<-hkid]at h2;omega
 have good:w.U[k].inn=0->w.U[k].owner=w.U[i].owner->((z8 (w.U.take i) w.U[k].id).length:Int)+1<=j2 w.U[k].kind->cq w (i+1):=λe1 e2 e3=>by
  refine⟨λj hj hji hne=>?_,λx hx hx0=>?_⟩
  ·by_cases e:j=i
   ·subst e;exact⟨w.U[k],Faa hkl,hkid,⟨e1,e2⟩,hroom,hpos,c5,c6⟩
   ·exact hup.1 j hj θ hne
  ·by_cases e:x.id=w.U[k].id
   ·have:=H9 hr hx (Faa hkl) e;subst this;omega
   ·rw[O5 hlt,if_neg (by rw[<-hkid];exact Ne.symm e)];have:=hup.2 x hx hx0;omega
 refine Qc zb zvk (qd (λc7=>?_) λc7=>?_)
 ·refine⟨⟨Qe,⟨⟨Qe,nou _ λhh=>c7 (uniq hh).1.1⟩,Tv⟩⟩,⟨⟨Qe,⟨⟨Qe,nou _ λhh=>c7 (uniq hh).1.1⟩,Tv⟩⟩,Tv⟩⟩
 refine qd (λc8=>?_) λc8=>?_
 ·refine⟨⟨Qe,⟨⟨Qe,nou _ λhh=>c8 (uniq hh).1.2⟩,Tv⟩⟩,⟨⟨Qe,⟨⟨Qe,nou _ λhh=>c8 (uniq hh).1.2⟩,Tv⟩⟩,Tv⟩⟩
 refine⟨?_,?_,Tv⟩
 ·refine Ak rfl (it:=ti237) (ie:=ti2) (ik:=ti2) rfl rfl rfl rfl hmo2 rfl (qA w.U[k].id) (λe he=>ψt) ?_;rw[hlook];refine⟨Qe,⟨kj w.U[k].kind _ _ ⟨Qe,bcd (λc9=>nou _ (over θ)) λc9=>Qd ⟨(i+1,cs2,bs',clk'),?_,⟨ζ,rfl,hcnt2,good c7 c8 θ⟩,Qbn,⟨rfl,Tv⟩⟩⟩,Tv⟩⟩;show w.U.length-(i+1)<w.U.length-i;omega
 ·refine kj w.U[k].kind _ _ ⟨Qe,⟨Ak rfl (it:=ti237) (ie:=ti2) (ik:=ti2) rfl rfl rfl rfl hmo2 rfl (qA w.U[k].id) (λe he=>ψt) ?_,Tv⟩⟩;rw[hlook];refine⟨Qe,bcd (λc9=>nou _ (over θ)) λc9=>Qd ⟨(i+1,cs2,bs',clk'),?_,⟨ζ,rfl,hcnt2,good c7 c8 θ⟩,Qbn,⟨rfl,Tv⟩⟩⟩;show w.U.length-(i+1)<w.U.length-i;omega
def tkO(cs:List (Int×Bool))(bs:List Nat)(clk:Nat):AObj:=.map (cs.map (qb V.bool)) bs clk
def yf1(w:Wld)(hw:w.fits)(hn:∀u∈w.U,u.pos.ok):Jb 40 [.agg (zp w)] Store.empty λr _=>∃z,r=V.bool z/\(z=true↔ya w):=by
 have no:¬ya w->∃z,V.bool false=V.bool z/\(z=true↔ya w):=λhn=>⟨false,rfl,θ0⟩
 refine Qb (c:=cfg 87) zb Tryz.func40 (AWp.seq (AWp.of_vc zb ?_));refine AWp.seq (AWp.of_vc zb (yiw w hw _ _ λz hz=>?_));refine ye ?_;refine zh (λc1=>?_) (λc1=>ret (no λq=>by have:=hz.2 q.1.1;rw[this]at c1;cases c1));have hh:=hz.1 c1;have hg:=hh.2.1.1;have hbl:=hh.2.1.2.1;have hBl:w.B.length<=256:=hbl.1;have hU:w.U.length<=4096:=hh.2.1.2.2;have hbb:∀b∈w.B,yi b/\onP w.G b:=λb hb=>⟨(hbl.2.2.1 b hb).1,(hbl.2.2.1 b hb).2.1⟩
 refine AWp.seq (AWp.of_vc zb (Ht rfl λm hm=>AWp.meetA (σ:=List (Int×Bool)×List Nat×Nat) ⟨λ_=>[(1,.bx 1 0),(3,.av (Vy m))],λ_=>[(1,zp w)],λx st'=>st'=Store.empty.sO m (tkO x.1 x.2.1 x.2.2)/\∀id,(qc x.1 id).getD false=true↔∃b∈w.B,b.id=id⟩ ?_ ?_))
 ·refine AWp.of_vc zb ?_
  refine AWp.loop (σ:=Nat×List (Int×Bool)×List Nat×Nat) ⟨λx=>[(1,.bx 1 0),(3,.av (Vy m)),(16,.av (lst 6 zi w.B)),(17,.av (int (w.B.length:Nat))),(18,.av (int (x.1:Nat)))],λ_=>[(1,zp w)],
   λx st'=>x.1<=w.B.length/\st'=Store.empty.sO m (tkO x.2.1 x.2.2.1 x.2.2.2)/\∀id,(qc x.2.1 id).getD false=true↔∃b∈w.B.take x.1,b.id=id,λx=>w.B.length-x.1⟩ zb ?_ ?_
  ·refine⟨(0,[],[],0),Tv,⟨Fad _,rfl,λid=>⟨λh=>ω,λ⟨b,hb,_⟩=>(by simp at hb)⟩⟩,⟨Tq,Tq,Tq,?_,Tq,Tv⟩,⟨rfl,Tv⟩⟩;rw[<-zl (f:=zi) w.B];exact Tq
  rintro⟨i,cs,bs,clk⟩ st' ⟨hi,rfl,htk⟩;dsimp only at hi htk⊢;refine bcd (λh1=>?_) λh1=>?_;rotate_left
  ·have:i=w.B.length:=θ;subst this;rw[Fak]at htk;exact⟨(cs,bs,clk),⟨rfl,htk⟩,⟨Tq,Tq,Tv⟩,⟨rfl,Tv⟩⟩
  have hlt:i<w.B.length:=θ;refine⟨i,rfl,za _ (zn hlt) ?_⟩;have hmo:(Store.empty.sO m (tkO cs bs clk)).obj m=some (tkO cs bs clk):=zd _ _ _;refine D3 (.inl rfl) rfl (it:=ti162) (ik:=ti2) rfl rfl rfl (es:=cs.map (qb V.bool)) (bs:=bs) (clk:=clk) (k:=int w.B[i].id) (v:=V.bool true) hmo rfl rfl (qA w.B[i].id) (λe he=>?_) (λe1 he hq=>?_) ?_
  ·obtain⟨e,_,rfl⟩:=Fag.1 he;rfl
  ·obtain⟨g1,_,rfl⟩:=Fag.1 he;have:w.B[i].id=g1.1:=by simpa [qA,qb,int]using hq
   show int g1.1=_;rw[this]
  obtain⟨bs',clk',hput⟩:=K3 V.bool cs bs clk w.B[i].id true;have hput:wg (cs.map (qb V.bool)) bs clk (qA w.B[i].id) (int w.B[i].id) (V.bool true)=tkO (yw cs w.B[i].id true) bs' clk':=hput;rw[hput,yy];refine Qd ⟨(i+1,yw cs w.B[i].id true,bs',clk'),?_,⟨ζ,rfl,λid=>?_⟩,Qbn,⟨rfl,Tv⟩⟩
  ·show w.B.length-(i+1)<w.B.length-i;omega
  ·dsimp only;rw[Ct,Fab hlt];by_cases e:id=w.B[i].id
   ·rw[if_pos e];exact⟨λ_=>⟨w.B[i],Fat.2 (.inr (Fc3.2 rfl)),e.symm⟩,λ_=>rfl⟩
   ·rw[if_neg e,htk id];constructor
    ·rintro⟨b,hb,h3⟩;exact⟨b,Fat.2 (.inl hb),h3⟩
    ·rintro⟨b,hb,h3⟩;rcases Fat.1 hb with hb|hb
     ·exact⟨b,hb,h3⟩
     ·simp at hb;subst hb;exact absurd h3.symm e
 rintro⟨cs,bs,clk⟩ st' ⟨rfl,htk⟩;dsimp only at htk⊢;have hmo:(Store.empty.sO m (tkO cs bs clk)).obj m=some (tkO cs bs clk):=zd _ _ _;have hhas:(Store.empty.sO m (tkO cs bs clk)).Has Store.empty:=Hl rfl;refine AWp.meetA (σ:=Unit) ⟨λ_=>[(1,.bx 1 0)],λ_=>[(1,zp w)],λ_ st'=>st'=Store.empty.sO m (tkO cs bs clk)/\Hy w w.U.length⟩ ?_ ?_
 ·refine AWp.of_vc zb ?_
  refine AWp.loop (σ:=Nat) ⟨λi=>[(1,.bx 1 0),(3,.av (Vy m)),(27,.av (lst 10 zf w.U)),(28,.av (int (w.U.length:Nat))),(29,.av (int (i:Nat)))],λ_=>[(1,zp w)],
   λi st'=>i<=w.U.length/\st'=Store.empty.sO m (tkO cs bs clk)/\Hy w i,λi=>w.U.length-i⟩ zb ?_ ?_
  ·refine⟨0,Tv,⟨Fad _,rfl,λj _ hj=>θ⟩,⟨Tq,Tq,Tq,?_,Tq,Tv⟩,⟨rfl,Tv⟩⟩;rw[<-zl (f:=zf) w.U];exact Tq
  rintro i st' ⟨hi,rfl,hup⟩;refine bcd (λh1=>?_) λh1=>?_;rotate_left
  ·have:i=w.U.length:=θ;subst this;exact⟨(),⟨rfl,hup⟩,⟨Tq,Tv⟩,⟨rfl,Tv⟩⟩
  have hlt:i<w.U.length:=θ;have nou:¬((ko w w.U[i]/\∀b∈w.B,b.id≠w.U[i].id)/\(0<i->(w.U[i-1]'θ).id<w.U[i].id))->∃z,V.bool false=V.bool z/\(z=true↔ya w):=λhq=>no λq=>hq (mz q.1.2 (i+1) i hlt θ);refine⟨i,rfl,za _ (zn hlt) (Qc zb zwd ⟨yob w w.U[i] hg _ _ (λz hz=>⟨Tv,ye (zh (λc2=>?_) (λc2=>⟨⟨Tv,ret (nou λq=>by have:=hz.2 q.1.1;rw[this]at c2;cases c2)⟩,Tv⟩))⟩),Tv⟩)⟩;have hunt:=hz.1 c2;refine⟨Ak rfl (it:=ti162) (ie:=ti4) (ik:=ti2) rfl rfl rfl rfl hmo rfl (qA w.U[i].id) (λe he=>ψt) ?_,Tv⟩;rw[Hd];have hcv:(Option.map V.bool (qc cs w.U[i].id)).getD (Dg ti4)=V.bool ((qc cs w.U[i].id).getD false):=by cases qc cs w.U[i].id<;>rfl
  rw[hcv];have htki:=htk w.U[i].id;generalize(qc cs w.U[i].id).getD false=tk at htki;refine⟨Tv,zh (λc3=>ret (nou λq=>by obtain⟨b,hb,e⟩:=htki.1 c3;exact q.1.2 b hb e)) λc3=>?_⟩;have hnb:∀b∈w.B,b.id≠w.U[i].id:=λb hb e=>by have:=htki.2 ⟨b,hb,e⟩;rw[this]at c3;cases c3
  have next:(0<i->(w.U[i-1]'θ).id<w.U[i].id)->Hy w (i+1):=λhq j hj hji=>by
   by_cases e:j=i
   ·subst e;exact⟨⟨hunt,hnb⟩,hq⟩
   ·exact hup j hj θ
  have fin:Hy w (i+1)->ym ((i:Int)+1)/\(i+1<=w.U.length/\Store.empty.sO m (tkO cs bs clk)=Store.empty.sO m (tkO cs bs clk)/\Hy w (i+1)):=λhq=>⟨⟨θ,θ⟩,θ,rfl,hq⟩
  refine bcd (λc4=>?_) λc4=>?_
  ·have hi0:0<i:=θ;refine Qd ⟨i-1,θ,za _ (zn (show i-1<w.U.length by omega)) (bcd (λc5=>ret (nou λq=>by have:=q.2 hi0;omega)) λc5=>?_)⟩;obtain⟨f1,f2⟩:=fin (next λ_=>θ);refine⟨f1,⟨i+1,?_,f2,Qbn,⟨rfl,Tv⟩⟩⟩;show w.U.length-(i+1)<w.U.length-i;omega
  ·obtain⟨f1,f2⟩:=fin (next λh0=>absurd h0 θ);refine⟨f1,⟨i+1,?_,f2,Qbn,⟨rfl,Tv⟩⟩⟩;show w.U.length-(i+1)<w.U.length-i;omega
 rintro _ _ ⟨rfl,hall⟩;have hok:=m6 hall;refine AWp.leS hhas.toLe (AWp.seq (AWp.of_vc zb (yeo w θ hn _ λF s p L o0 o1 o2 hS hLl hL=>?_)));have hLm:=hL hok.1;refine AWp.meetA (σ:=Unit) ⟨λ_=>[(1,.bx 1 0)],λ_=>[(1,zp w)],λ_ st'=>∀u∈w.U,u.inn=0->qh w u.id u.kind u.pos⟩ ?_ ?_
 ·refine AWp.of_vc zb ?_
  refine AWp.loop (σ:=Nat×Store×AV×AV×AV) ⟨λx=>[(1,.bx 1 0),(8,.av (ptr s)),(64,.av (lst 10 zf w.U)),(65,.av (int (w.U.length:Nat))),(66,.av (int (x.1:Nat)))],λ_=>[(1,zp w)],
   λx st'=>x.1<=w.U.length/\st'=x.2.1.un (stS s w x.2.2.1 x.2.2.2.1 x.2.2.2.2 p)/\StandAt x.2.1 s p w L x.2.2.1 x.2.2.2.1 x.2.2.2.2/\∀j,(hj:j<w.U.length)->j<x.1->w.U[j].inn=0->qh w w.U[j].id w.U[j].kind w.U[j].pos,λx=>w.U.length-x.1⟩ zb ?_ ?_
  ·refine⟨(0,F,o0,o1,o2),Tv,⟨Fad _,rfl,hS,λj _ hj=>θ⟩,⟨Tq,Tq,Tq,?_,Tq,Tv⟩,⟨rfl,Tv⟩⟩;rw[<-zl (f:=zf) w.U];exact Tq
  rintro⟨i,F1,a0,a1,a2⟩ st' ⟨hi,rfl,hS1,hcl⟩;dsimp only at hi hS1 hcl⊢;refine bcd (λh1=>?_) λh1=>?_;rotate_left
  ·have:i=w.U.length:=θ;subst this;refine⟨(),λu hu h0=>?_,⟨Tq,Tv⟩,⟨rfl,Tv⟩⟩;obtain⟨j,hj,rfl⟩:=Fai hu;exact hcl j hj hj h0
  have hlt:i<w.U.length:=θ;have hui:=Faa hlt;have next:(w.U[i].inn=0->qh w w.U[i].id w.U[i].kind w.U[i].pos)->∀j,(hj:j<w.U.length)->j<i+1->w.U[j].inn=0->qh w w.U[j].id w.U[j].kind w.U[j].pos:=λhq j hj hji=>by
   by_cases e:j=i
   ·subst e;exact hq
   ·exact hcl j hj θ
  refine⟨i,rfl,za _ (zn hlt) (zt (λc2=>?_) λc2=>?_)⟩
  ·refine zun hS1 hg θ hbb hok.1 θ hn hLl hLm w.U[i].id w.U[i].kind w.U[i].pos (hn _ hui) _ (λz F2 b0 b1 b2 hz hS2=>ye (zh (λc3=>Qd ⟨(i+1,F2,b0,b1,b2),?_,⟨ζ,rfl,hS2,next λ_=>hz.1 c3⟩,Qbn,⟨rfl,Tv⟩⟩) (λc3=>ret (no λq=>by have:=hz.2 (q.2.1 _ hui c2);rw[this]at c3;cases c3))));show w.U.length-(i+1)<w.U.length-i;omega
  ·refine Qd ⟨(i+1,F1,a0,a1,a2),?_,⟨ζ,rfl,hS1,next λh0=>absurd h0 c2⟩,Qbn,⟨rfl,Tv⟩⟩;show w.U.length-(i+1)<w.U.length-i;omega
 rintro _ st' hclear;refine AWp.of_vc zb (yb0 w θ hok.1 _ _ λz hz=>ret ⟨z,rfl,?_⟩);rw[hz];exact⟨λhq=>⟨⟨hh,hok⟩,hclear,hq⟩,λhq=>hq.2.2⟩
def Fl{f:FuncId}{xs:List AV}{Q:AV->Prop}(key:Jb f xs Store.empty λr _=>Q r)(st:Store)(R:Ja)(h:∀r,Q r->R r st):Jb f xs st R:=by
 rw[<-xr st];refine ACalls.post (ACalls.frame (R':=λr st'=>Q r/\∃a',st'=a'.un st) (λb hb=>?_) key λr a' h1 _=>⟨h1,a',rfl⟩) (Store.Le.refl _) λr st' ⟨h1,a',h2⟩=>⟨r,st,Tt,h2▸zgg,?_⟩
 ·exact(hb.elim (λh=>h rfl) (λh=>h rfl):False).elim
 ·exact h r h1
def zah(w:Wld)(hw:w.fits)(hn:∀u∈w.U,u.pos.ok)(st:Store)(R:Ja)(h:∀z:Bool,(z=true↔ya w)->R (V.bool z) st):Jb 40 [.agg (zp w)] st R:=
 Fl (yf1 w hw hn) st R λr ⟨z,e,hz⟩=>e▸h z hz
def ct(w:Wld)(hU:w.U.length<=1000000)(id:Int)(st:Store)(R:Ja)(h:R (int (Bz (w.U.findIdx? λu=>decide (u.id=id)))) st):Jb 48 [.agg (zp w),int id] st R:=by
 refine Qy 22 Tryz.func48 ?_
 refine AWp.loop (σ:=Nat) ⟨λi=>[(1,.av (int id)),(2,.bx 2 0),(5,.av (int (i:Nat)))],λ_=>[(2,zp w)],
  λi st'=>i<=w.U.length/\st'=st/\∀j,(hj:j<w.U.length)->j<i->w.U[j].id≠id,λi=>w.U.length-i⟩ zb ?_ ?_
 ·exact⟨0,Tv,⟨Fad _,rfl,λj _ hj=>θ⟩,Qbn,⟨rfl,Tv⟩⟩
 rintro i st' ⟨hi,rfl,hall⟩;refine zh (λh1=>?_) λh1=>?_;rotate_left
 ·have:i=w.U.length:=qw h1 hi;subst this;have e:(w.U.findIdx? λu=>decide (u.id=id))=none:=by
   rw[Fbn];intro x hx;obtain⟨j,hj,rfl⟩:=Fai hx;exact decide_eq_false (hall j hj hj)
  rw[e]at h;exact ret h
 have hlt:=qn h1;refine⟨i,rfl,za _ (zn hlt) (zt (λc1=>?_) λc1=>?_)⟩
 ·have e:(w.U.findIdx? λu=>decide (u.id=id))=some i:=by
   rw[Fa5];exact⟨hlt,decide_eq_true c1,λj hj=>by simpa using hall j θ hj⟩
  rw[e]at h;exact ret h
 ·refine Qd ⟨i+1,?_,⟨θ,rfl,λj hj hj2=>?_⟩,Qbn,⟨rfl,Tv⟩⟩
  ·show w.U.length-(i+1)<w.U.length-i;omega
  ·by_cases e:j=i
   ·subst e;exact c1
   ·exact hall j hj θ
def f0{l:List Unt}{i:Nat}(hi:i<l.length)(id:Int):z8 (l.take (i+1)) id=z8 (l.take i) id++(if l[i].inn=id then [l[i].id]else []):=by unfold z8;rw[Fab hi,Fcr,Fa8];by_cases h:l[i].inn=id<;>simp[h]
def yaw(w:Wld)(hU:w.U.length<=1000000)(id:Int)(st:Store)(R:Ja)(h:R (y9 (z8 w.U id)) st):Jb 49 [.agg (zp w),int id] st R:=by
 refine Qy 32 Tryz.func49 ?_
 refine AWp.loop (σ:=Nat×AV) ⟨λx=>[(1,.av (int id)),(2,.bx 2 0),(5,.av x.2),(6,.av (int (x.1:Nat)))],λ_=>[(2,zp w)],
  λx st'=>x.1<=w.U.length/\App 1 st x.2 (rws zx (z8 (w.U.take x.1) id)) st',λx=>w.U.length-x.1⟩ zb ?_ ?_
 ·exact⟨(0,_),Tv,⟨Fad _,App.start 1 st⟩,⟨Tq,Tq,Tq,Tq,Tv⟩,⟨rfl,Tv⟩⟩
 rintro⟨i,v⟩ st' ⟨hi,ha⟩;dsimp only at hi ha⊢;refine zh (λh1=>?_) λh1=>?_;rotate_left
 ·have:i=w.U.length:=qw h1 hi;subst this;rw[Fak]at ha;exact⟨_,st,AV.le_trans ha.le (Tt),ha.has,h⟩
 have hlt:=qn h1;have hs:=f0 hlt id;have hl1:(z8 (w.U.take i) id).length<=1000000:=by have h1:=O6 (l:=w.U) i id;have h2:(z8 w.U id).length<=w.U.length:=θk;omega
 refine⟨i,rfl,za _ (zn hlt) (zt (λc1=>?_) λc1=>?_)⟩
 ·rw[if_pos c1]at hs;refine⟨i,rfl,za _ (zn hlt) ⟨ψ,Ba (ie:=ti2) (rows':=[zx w.U[i].id]) ha ?_ ?_ ⟨?_,?_⟩ λv3 st3 ha3=>?_⟩⟩
  ·rfl
  ·rfl
  ·simp only[zl,Fao,ti2];omega
  ·simp only[zl,Fao];omega
  refine Qd ⟨(i+1,v3),?_,⟨ζ,?_⟩,Qbn,⟨rfl,Tv⟩⟩
  ·show w.U.length-(i+1)<w.U.length-i;omega
  ·dsimp only;rw[hs];unfold rws;rw[Fa8];exact ha3
 ·rw[if_neg c1,Fbl]at hs;refine Qd ⟨(i+1,v),?_,⟨ζ,?_⟩,Qbn,⟨rfl,Tv⟩⟩
  ·show w.U.length-(i+1)<w.U.length-i;omega
  ·dsimp only;rw[hs];exact ha
def dc(w:Wld)(hg:zw w.G)(hB:w.B.length<=1000000000000)(hb:∀b∈w.B,yi b/\onP w.G b)(hU:w.U.length<=1000000)(hn:∀u∈w.U,u.pos.ok)(hk:∀u∈w.U,kr u.kind)(id k:Int)(hkk:kr k)(q:Vc)(hq:q.ok)(st:Store)(R:Ja)
  (h:∀z:Bool,(z=true↔qh w id k q)->R (V.bool z) st):Jb 47 [.agg (zp w),int id,int k,.agg (zu q)] st R:=by
 have no:¬qh w id k q->R (V.bool false) st:=λhh=>h false θ5;have hr:=Bm k;have hplace:qh w id k q->qs q.1 q.2:=λhh=>by have h1:=hh.1.1;have h2:=hg.1;have h3:=hg.2.1;unfold qs;omega
 refine Qy 79 Tryz.func47 ?_;refine Cn k hkk _ _ (bcd (λc1=>ret (no λhh=>ψi)) λc1=>bcd (λc2=>ret (no λhh=>ψi)) λc2=>bcd (λc3=>ret (no λhh=>ψi)) λc3=>bcd (λc4=>ret (no λhh=>ψi)) λc4=>?_);have e1:Int.negSucc 1099511627775=-1099511627776:=rfl;refine yb4 w.G hg w.B hB hb (yl k) (Gk k) q (by unfold qs;omega) (z6 k) ⟨hr.1,θ⟩ _ _ (λz hz=>ye (zh (λc5=>?_) (λc5=>ret (no λhh=>by have:=hz.2 hh.1;rw[this]at c5;cases c5))));have hfree:=hz.1 c5
 refine AWp.loop (σ:=Nat) ⟨λi=>[(1,.av (int id)),(4,.bx 4 0),(7,.bx 7 0),(9,.bx 9 0),(10,.av (int (i:Nat)))],λ_=>[(4,zp w),(7,zu q),(9,C7 k)],
  λi st'=>i<=w.U.length/\st'=st/\∀j,(hj:j<w.U.length)->j<i->w.U[j].inn=0->w.U[j].id≠id->vr q (z6 k) w.U[j].pos (z6 w.U[j].kind)=true,λi=>w.U.length-i⟩ zb ?_ ?_
 ·exact⟨0,Tv,⟨Fad _,rfl,λj _ hj=>θ⟩,Qbn,⟨rfl,rfl,rfl,Tv⟩⟩
 rintro i st' ⟨hi,rfl,hall⟩;refine zh (λh1=>?_) λh1=>?_;rotate_left
 ·have:i=w.U.length:=qw h1 hi;subst this;refine ret (h true (by simp only[true_iff];refine⟨hfree,λu hu h0 hne=>?_⟩;obtain⟨j,hj,rfl⟩:=Fai hu;exact hall j hj hj h0 hne))
 have hlt:=qn h1;have hui:=Faa hlt;have next:(w.U[i].inn=0->w.U[i].id≠id->vr q (z6 k) w.U[i].pos (z6 w.U[i].kind)=true)->∀j,(hj:j<w.U.length)->j<i+1->w.U[j].inn=0->w.U[j].id≠id->vr q (z6 k) w.U[j].pos (z6 w.U[j].kind)=true:=λhh j hj hji=>by
  by_cases e:j=i
  ·subst e;exact hh
  ·exact hall j hj θ
 refine⟨i,rfl,za _ (zn hlt) (Qc zb zvz (zt (λc6=>?_) λc6=>?_))⟩;rotate_left
 ·refine Qbq (Qbr (Qd ⟨i+1,?_,⟨θ,rfl,next λh0=>absurd h0 c6⟩,Qbn,⟨rfl,rfl,rfl,Tv⟩⟩));show w.U.length-(i+1)<w.U.length-i;omega
 refine qd (λc7=>?_) λc7=>?_;rotate_left
 ·refine Qbq (Qbr (Qd ⟨i+1,?_,⟨θ,rfl,next λ_ hne=>absurd c7 hne⟩,Qbn,⟨rfl,rfl,rfl,Tv⟩⟩));show w.U.length-(i+1)<w.U.length-i;omega
 have hr2:=Bm w.U[i].kind;refine⟨Cn w.U[i].kind (hk _ hui) _ _ ⟨Qe,⟨yc7 q (z6 k) w.U[i].pos (z6 w.U[i].kind) hq (hn _ hui) ⟨hr.1,θ⟩ ⟨hr2.1,θ⟩ _ _ ⟨Tv,ye (zh (λc8=>Qd ⟨i+1,?_,⟨θ,rfl,next λ_ _=>c8⟩,Qbn,⟨rfl,rfl,rfl,Tv⟩⟩) (λc8=>ret (no λhh=>by have:=hh.2 _ hui c6 c7;rw[this]at c8;cases c8)))⟩,Tv⟩⟩,Tv⟩;show w.U.length-(i+1)<w.U.length-i;omega
def stOf{s g:Int}:(!((s==1)==(g !=-1)))=false↔(s=1↔g≠-1):=by by_cases h1:s=1<;>by_cases h2:g=-1<;>simp[bne,lf,h1,h2]
def ygm(k:Int)(st:Store)(R:Ja)(h:∀z a b c d e,(z=true↔kr k)->R (.tup [.agg [int a,int b,int c,int d,int e],V.bool z]) st):Jb 43 [int k] st R:=
 zaw k st R (λhk=>h true _ _ _ _ _ (by simp only[true_iff];exact hk)) (λhk=>h false 0 0 0 0 0 (by simp only[Fah,false_iff];exact hk))
def yb2(w:Wld)(hw:w.fits)(st:Store)(R:Ja)(h:∀z:Bool,(z=true↔Ir w/\Kj w)->R (V.bool z) st):Jb 46 [.agg (zp w)] st R:=by
 obtain⟨hw1,hw2,hw3⟩:=hw;have no:¬(Ir w/\Kj w)->R (V.bool false) st:=λhh=>h false θ5;refine Qy 218 Tryz.func46 ?_;refine ye1 w.tick 1099511627776 _ _ λz hz=>ye ?_;refine zh (λc0=>?_) (λc0=>ret (no λq=>by have:=hz.2 q.1.1.1;rw[this]at c0;cases c0));have htick:=hz.1 c0;refine bcd (λc1=>ret (no λq=>by have:=q.1.1;omega)) (λc1=>bcd (λc2=>ret (no λq=>by have:=q.1.1;omega)) (λc2=>bcd (λc3=>ret (no λq=>by have:=q.1.1;omega)) (λc3=>bcd (λc4=>ret (no λq=>by have:=q.1.1;omega)) (λc4=>ycu w.G hw1 w.B hw2 _ _ (λz hz=>ye (zh (λc5=>?_) (λc5=>ret (no λq=>by have:=hz.2 ⟨q.1.2.1.1,q.1.2.1.2.1⟩;rw[this]at c5;cases c5))))))));obtain⟨hg,hbl⟩:=hz.1 c5;have hBl:w.B.length<=256:=hbl.1;have hUl:((rws zf w.U).length:Int)=(w.U.length:Int):=by rw[zl]
 refine bcd (λc6=>ret (no λq=>by have:=q.1.2.1.2.2;omega)) λc6=>?_
 refine AWp.loop (σ:=Nat) ⟨λi=>[(1,.bx 1 0),(3,.av (int (i:Nat)))],λ_=>[(1,zp w)],
  λi st'=>i<=w.B.length/\st'=st/\∀j,(hj:j<w.B.length)->j<i->w.B[j].owner<=w.players/\w.B[j].id<w.next,λi=>w.B.length-i⟩ zb ?_ ?_
 ·exact⟨0,Tv,⟨Fad _,rfl,λj _ hj=>θ⟩,⟨Tq,Tq,Tv⟩,⟨rfl,Tv⟩⟩
 rintro i st' ⟨hi,rfl,hall⟩;refine zh (λh1=>?_) λh1=>?_
 ·have hlt:=qn h1;refine Qc zb zv0 ⟨i,rfl,za _ (zn hlt) (bcd (λc7=>ret (no λq=>by have:=q.1.2.2 _ (Faa hlt);omega)) (λc7=>⟨i,rfl,za _ (zn hlt) (bcd (λc8=>ret (no λq=>by have:=q.1.2.2 _ (Faa hlt);omega)) λc8=>Qd ⟨i+1,?_,⟨θ,rfl,λj hj hji=>?_⟩,⟨Tq,Tq,Tv⟩,⟨rfl,Tv⟩⟩)⟩))⟩
  ·show w.B.length-(i+1)<w.B.length-i;omega
  ·by_cases e:j=i
   ·subst e;omega
   ·exact hall j hj θ
 have hie:i=w.B.length:=qw h1 hi;subst hie;have hhead:Ir w:=⟨⟨htick,θ⟩,⟨hg,hbl,θ⟩,λb hb=>by obtain⟨j,hj,rfl⟩:=Fai hb;exact hall j hj hj⟩
 refine AWp.loop (σ:=Nat) ⟨λi=>[(1,.bx 1 0),(4,.av (int (i:Nat)))],λ_=>[(1,zp w)],
  λi st2=>i<=w.U.length/\st2=st'/\Hy w i,λi=>w.U.length-i⟩ zb ?_ ?_
 ·exact⟨0,Tv,⟨Fad _,rfl,λj _ hj=>θ⟩,⟨Tq,Tq,Tv⟩,⟨rfl,Tv⟩⟩
 rintro i st2 ⟨hi,rfl,hup⟩;refine zh (λh2=>?_) λh2=>?_;rotate_left
 ·have:i=w.U.length:=qw h2 hi;subst this;exact ret (h true (by simp only[true_iff];exact⟨hhead,m6 hup⟩))
 have hlt:=qn h2;have nou:¬((ko w w.U[i]/\∀b∈w.B,b.id≠w.U[i].id)/\(0<i->(w.U[i-1]'θ).id<w.U[i].id))->R (V.bool false) st2:=λhq=>no λq=>hq (mz q.2 (i+1) i hlt θ);refine⟨i,rfl,za _ (zn hlt) (ygm w.U[i].kind _ _ λkz ka kb kc kd ke hk=>Qc zb zv2 ?_)⟩;have skip2:∀{p q:Prop},¬((ko w w.U[i]/\∀b∈w.B,b.id≠w.U[i].id)/\(0<i->(w.U[i-1]'θ).id<w.U[i].id))->∃r st',AV.le (V.bool false) r/\st2.Has st'/\R r st':=λhq=>ret (nou hq);refine bcd (λc7=>⟨⟨Tv,⟨⟨Tv,ret (nou λq=>by have:=q.1.1.1;omega)⟩,Tv⟩⟩,Tv⟩) (λc7=>bcd (λc8=>⟨⟨Tv,⟨⟨Tv,ret (nou λq=>by have:=q.1.1.1;omega)⟩,Tv⟩⟩,Tv⟩) λc8=>bcd (λc9=>?_) λc9=>?_);refine Qd ⟨i-1,θ,za _ (zn (show i-1<w.U.length by omega)) (bcd (λc9b=>⟨⟨Tv,⟨⟨Tv,ret (nou λq=>by have:=q.2 θ;omega)⟩,Tv⟩⟩,Tv⟩) λc9b=>?_)⟩;have hrise:0<i->(w.U[i-1]'θ).id<w.U[i].id:=λ_=>θ;rotate_left;have hrise:0<i->(w.U[i-1]'θ).id<w.U[i].id:=λh0=>absurd h0 θ
 all_goals
  refine bcd (λc10=>⟨⟨Tv,⟨⟨Tv,ret (nou λq=>by have:=q.1.1.1.2.1;omega)⟩,Tv⟩⟩,Tv⟩) (λc10=>bcd (λc11=>⟨⟨Tv,⟨⟨Tv,ret (nou λq=>by have:=q.1.1.1.2.1;omega)⟩,Tv⟩⟩,Tv⟩) (λc11=>ye (zh (λck=>?_) (λck=>⟨⟨Tv,⟨⟨Tv,ret (nou λq=>by have:=hk.2 q.1.1.1.2.2;rw[this]at ck;cases ck)⟩,Tv⟩⟩,Tv⟩))));have hkind:=hk.1 ck;refine qd (λc12=>?_) λc12=>?_;refine⟨Ns w.G w.U[i].goal hg _ _ (λz1 hz1=>⟨Tv,ye (zh (λc12b=>?_) (λc12b=>⟨⟨Tv,ret (nou λq=>by have:=q.1.1.2.1.1;unfold Aa at this;have:=hz1.2 (this.resolve_left c12);rw[this]at c12b;cases c12b)⟩,Tv⟩))⟩),Tv⟩;have ht1:Aa w.G w.U[i].goal:=.inr (hz1.1 c12b);rotate_left;refine Qbr ?_;have ht1:Aa w.G w.U[i].goal:=.inl c12
  all_goals
   refine qd (λc13=>?_) λc13=>?_;refine⟨Ns w.G w.U[i].next hg _ _ (λz2 hz2=>⟨Tv,ye (zh (λc14=>?_) (λc14=>ret (nou λq=>by have:=q.1.1.2.1.2.1;unfold Aa at this;have:=hz2.2 (this.resolve_left c13);rw[this]at c14;cases c14)))⟩),Tv⟩;have ht2:Aa w.G w.U[i].next:=.inr (hz2.1 c14);rotate_left;refine Qbr ?_;have ht2:Aa w.G w.U[i].next:=.inl c13
   all_goals
    refine bcd (λd1=>ret (nou λq=>by have:=q.1.1.2.1.2.2;omega)) (λd1=>bcd (λd2=>ret (nou λq=>by have:=q.1.1.2.1.2.2;omega)) (λd2=>bcd (λd3=>ret (nou λq=>by have:=q.1.1.2.2.1.1;omega)) (λd3=>bcd (λd4=>ret (nou λq=>by have:=q.1.1.2.2.1.1;omega)) (λd4=>zh (λd5=>ret (nou λq=>by have:=stOf.2 q.1.1.2.2.1.2;rw[this]at d5;cases d5)) λd5=>?_))));have hst:=stOf.1 d5;have go:(w.U[i].goal=-1->w.U[i].next=-1/\w.U[i].stuck=0)->ko w w.U[i]:=λhq=>⟨⟨θ,θ,hkind⟩,⟨ht1,ht2,θ⟩,⟨θ,hst⟩,hq⟩
    refine zt (λd6=>?_) λd6=>?_;refine qd (λd7=>ret (nou λq=>d7 (q.1.1.2.2.2 d6).1)) λd7=>qd (λd8=>ret (nou λq=>d8 (q.1.1.2.2.2 d6).2)) λd8=>?_;have hunt:=go λ_=>⟨d7,d8⟩
    rotate_left;have hunt:=go λe=>absurd e d6
    all_goals
     refine AWp.loop (σ:=Nat) ⟨λk=>[(1,.bx 1 0),(4,.av (int (i:Nat))),(5,.bx 5 0),(8,.av (int (k:Nat)))],λ_=>[(1,zp w),(5,zf w.U[i])],
      λk st3=>k<=w.B.length/\st3=st2/\∀j,(hj:j<w.B.length)->j<k->w.B[j].id≠w.U[i].id,λk=>w.B.length-k⟩ zb ?_ ?_
     ·exact⟨0,Tv,⟨Fad _,rfl,λj _ hj=>θ⟩,Qbn,⟨rfl,rfl,Tv⟩⟩
     rintro k st3 ⟨hk3,rfl,hne⟩;refine zh (λe1=>?_) λe1=>?_
     ·have hkl:=qn e1;refine Qc zb zv1 ⟨k,rfl,za _ (zn hkl) (zt (λe2=>ret (nou λq=>q.1.2 _ (Faa hkl) e2)) λe2=>Qd ⟨k+1,?_,⟨θ,rfl,λj hj hjk=>?_⟩,Qbn,⟨rfl,rfl,Tv⟩⟩)⟩
      ·show w.B.length-(k+1)<w.B.length-k;omega
      ·by_cases e:j=k
       ·subst e;exact e2
       ·exact hne j hj θ
     have hke:k=w.B.length:=qw e1 hk3;subst hke;refine Qd ⟨i+1,?_,⟨θ,rfl,λj hj hji=>?_⟩,⟨Tq,Tq,Tv⟩,⟨rfl,Tv⟩⟩
     ·show w.U.length-(i+1)<w.U.length-i;omega
     ·by_cases e:j=i
      ·subst e;refine⟨⟨hunt,λb hb=>?_⟩,hrise⟩;obtain⟨m,hm,rfl⟩:=Fai hb;exact hne m hm hm
      ·exact hup j hj θ
def Ga(w:Wld)(hw:w.fits)(hn:∀u∈w.U,u.pos.ok)(st:Store)(R:Ja)(h:∀z:Bool,(z=true↔ya w)->R (V.bool z) st):Jb 14 [.agg (zp w)] st R:=by
 have no:¬ya w->R (V.bool false) st:=λhh=>h false θ5;refine Qy 98 Tryz.func14 ?_;refine yb2 w hw _ _ λz hz=>ye ?_;refine zh (λc1=>?_) (λc1=>ret (no λq=>by have:=hz.2 q.1;rw[this]at c1;cases c1));obtain⟨hh,hok⟩:=hz.1 c1;have hg:=hh.2.1.1;have hbl:=hh.2.1.2.1;have hBl:w.B.length<=256:=hbl.1;have hU:w.U.length<=4096:=hh.2.1.2.2;have hbb:∀b∈w.B,yi b/\onP w.G b:=λb hb=>⟨(hbl.2.2.1 b hb).1,(hbl.2.2.1 b hb).2.1⟩
 have hkk:∀u∈w.U,kr u.kind:=λu hu=>(hok.2 u hu).1.1.2.2
 refine AWp.loop (σ:=Nat) ⟨λi=>[(1,.bx 1 0),(3,.av (int (i:Nat)))],λ_=>[(1,zp w)],
  λi st'=>i<=w.U.length/\st'=st/\∀j,(hj:j<w.U.length)->j<i->(w.U[j].inn=0->qh w w.U[j].id w.U[j].kind w.U[j].pos)/\(w.U[j].inn≠0->Bk w w.U[j]),λi=>w.U.length-i⟩ zb ?_ ?_
 ·exact⟨0,Tv,⟨Fad _,rfl,λj _ hj=>θ⟩,⟨Tq,Tq,Tv⟩,⟨rfl,Tv⟩⟩
 rintro i st' ⟨hi,rfl,hall⟩;refine zh (λh1=>?_) λh1=>?_;rotate_left
 ·have:i=w.U.length:=qw h1 hi;subst this;refine ret (h true (by
   simp only[true_iff];refine⟨⟨hh,hok⟩,λu hu h0=>?_,λu hu h0=>?_⟩
   ·obtain⟨j,hj,rfl⟩:=Fai hu;exact(hall j hj hj).1 h0
   ·obtain⟨j,hj,rfl⟩:=Fai hu;exact(hall j hj hj).2 h0))
 have hlt:=qn h1;have hui:=Faa hlt;have next:((w.U[i].inn=0->qh w w.U[i].id w.U[i].kind w.U[i].pos)/\(w.U[i].inn≠0->Bk w w.U[i]))->∀j,(hj:j<w.U.length)->j<i+1->(w.U[j].inn=0->qh w w.U[j].id w.U[j].kind w.U[j].pos)/\(w.U[j].inn≠0->Bk w w.U[j]):=λhq j hj hji=>by
  by_cases e:j=i
  ·subst e;exact hq
  ·exact hall j hj θ
 refine⟨i,rfl,za _ (zn hlt) (zt (λc2=>?_) λc2=>?_)⟩
 ·refine dc w hg θ hbb θ hn hkk w.U[i].id w.U[i].kind (hkk _ hui) w.U[i].pos (hn _ hui) _ _ (λz hz=>ye (zh (λc3=>Qd ⟨i+1,?_,⟨θ,rfl,next ⟨λ_=>hz.1 c3,λhne=>absurd c2 hne⟩⟩,⟨Tq,Tq,Tv⟩,⟨rfl,Tv⟩⟩) (λc3=>ret (no λq=>by have:=hz.2 (q.2.1 _ hui c2);rw[this]at c3;cases c3))));show w.U.length-(i+1)<w.U.length-i;omega
 have nou:¬Bk w w.U[i]->R (V.bool false) st':=λhq=>no λq=>hq (q.2.2 _ hui c2);refine ct w θ w.U[i].inn _ _ ?_;cases hf:w.U.findIdx? λu=>decide (u.id=w.U[i].inn)with
 |none=>
  have hno:¬Bk w w.U[i]:=λ⟨x,hx,e,_⟩=>by rw[Fbn]at hf;have:=hf x hx;rw[decide_eq_false_iff_not]at this;exact this e
  exact Qc zb p7 ⟨⟨Qe,⟨⟨Qe,⟨⟨Qe,ret (nou hno)⟩,Tv⟩⟩,Tv⟩⟩,Tv⟩
 |some k=>
  rw[Fa5]at hf;obtain⟨hkl,hkid,_⟩:=hf;have hkid:=of_decide_eq_true hkid;have uniq:Bk w w.U[i]->(w.U[k].inn=0/\w.U[k].owner=w.U[i].owner)/\((z8 w.U w.U[i].inn).length:Int)<=j2 w.U[k].kind:=λ⟨x,hx,e,e2,e3,_⟩=>by have:=H9 hok.1 hx (Faa hkl) (by rw[e,hkid]);subst this;exact⟨e2,e3⟩
  refine Qc zb p7 ⟨k,rfl,za _ (zn hkl) (qd (λc4=>⟨⟨Qe,⟨⟨Qe,⟨⟨Qe,ret (nou λq=>c4 (uniq q).1.1)⟩,Tv⟩⟩,Tv⟩⟩,Tv⟩) λc4=>⟨k,rfl,za _ (zn hkl) (qd (λc5=>⟨⟨Qe,⟨⟨Qe,⟨⟨Qe,ret (nou λq=>c5 (uniq q).1.2)⟩,Tv⟩⟩,Tv⟩⟩,Tv⟩) λc5=>⟨Cn w.U[i].kind (hkk _ hui) _ _ ⟨Qe,bcd (λc6=>⟨⟨Qe,⟨⟨Qe,ret (nou λ⟨x,_,_,_,_,e,_⟩=>θ)⟩,Tv⟩⟩,Tv⟩) λc6=>?_⟩,Tv⟩)⟩)⟩;have hroom:j2 w.U[i].kind=0:=by have:=K7 w.U[i].kind;omega
  refine⟨k,rfl,za _ (zn hkl) ⟨yaw w θ w.U[i].inn _ _ ⟨?_,?_⟩,Tv⟩⟩
  ·repeat(first|exact Tv|refine⟨rfl,?_⟩|refine⟨⟨k,rfl,za _ (zn hkl) rfl⟩,?_⟩)
  refine⟨Cn w.U[k].kind (hkk _ (Faa hkl)) _ _ ⟨?_,?_⟩,Tv⟩
  ·repeat(first|exact Tv|refine⟨rfl,?_⟩)
  have hrl:((rws zx (z8 w.U w.U[i].inn)).length:Int)=((z8 w.U w.U[i].inn).length:Int):=by rw[zl]
  refine bcd (λc7=>ret (nou λq=>by have:=(uniq q).2;omega)) (λc7=>ye (zh (λc8=>?_) (λc8=>ret (nou λ⟨x,_,_,_,_,_,e,_⟩=>by rw[e]at c8;cases c8))));have hpos:w.U[i].pos=(0,0):=by have:(w.U[i].pos.1==0&&(w.U[i].pos.2==0&&true))=true:=c8;simp at this;exact Prod.ext this.1 this.2
  refine qd (λc9=>ret (nou λ⟨x,_,_,_,_,_,_,e,_⟩=>c9 e)) λc9=>qd (λc10=>ret (nou λ⟨x,_,_,_,_,_,_,_,e⟩=>c10 e)) λc10=>Qd ⟨i+1,?_,⟨θ,rfl,next ⟨λh0=>absurd h0 c2,λ_=>⟨w.U[k],Faa hkl,hkid,⟨c4,c5⟩,θ,hroom,hpos,c9,c10⟩⟩⟩,⟨Tq,Tq,Tv⟩,⟨rfl,Tv⟩⟩;show w.U.length-(i+1)<w.U.length-i;omega
def yl3(l:List UInt8)(hl:l.length<=1000000000000)(st:Store)(R:Ja)(h:R (lst 1 u8C l) st):Jb 86 [lst 1 u8C l] st R:=by
 refine Qy 19 Tryz.func86 ?_;refine AWp.loop (σ:=Nat×AV) ⟨λs=>[(0,.av (lst 1 u8C l)),(3,.av s.2),(4,.av (int s.1))],λ_=>[],λs st'=>s.1<=l.length/\App 1 st s.2 (rws u8C (l.take s.1)) st',λs=>l.length-s.1⟩ zb ?_ ?_
 ·exact⟨(0,_),Tv,⟨Fad _,App.start 1 st⟩,⟨Tq,Tq,Tq,Tv⟩,Tv⟩
 ·rintro⟨i,v⟩ st' ⟨hi,ha⟩;simp only at hi;refine zh (λh1=>?_) λh1=>?_
  ·have hlt:i<l.length:=qn h1;refine⟨i,rfl,za _ (zn hlt) ⟨ψ,Ba (ie:=ti5) (rows':=[u8C l[i]]) ha ?_ ?_ ⟨?_,?_⟩ λv2 st2 ha2=>?_⟩⟩
   ·rfl
   ·rfl
   ·simp[zl,ti5];omega
   ·simp[zl];omega
   ·refine⟨⟨θ,θ⟩,⟨(i+1,v2),?_,⟨hlt,?_⟩,Qbn,Tv⟩⟩
    ·show l.length-(i+1)<l.length-i;omega
    ·rw[<-N9 hlt];exact ha2
  ·have hge:i=l.length:=qw h1 hi;subst hge;refine⟨_,st,AV.le_trans ha.le ?_,ha.has,h⟩;rw[Fak];exact Tt
def ip(l:List Bld)(hl:l.length<=1000000000000)(st:Store)(R:Ja)(h:R (lst 6 zi l) st):Jb 45 [lst 6 zi l] st R:=by
 refine Qy 19 Tryz.func45 ?_;refine AWp.loop (σ:=Nat×AV) ⟨λs=>[(0,.av (lst 6 zi l)),(3,.av s.2),(4,.av (int s.1))],λ_=>[],λs st'=>s.1<=l.length/\App 6 st s.2 (rws zi (l.take s.1)) st',λs=>l.length-s.1⟩ zb ?_ ?_
 ·exact⟨(0,_),Tv,⟨Fad _,App.start 6 st⟩,⟨Tq,Tq,Tq,Tv⟩,Tv⟩
 ·rintro⟨i,v⟩ st' ⟨hi,ha⟩;simp only at hi;refine zh (λh1=>?_) λh1=>?_
  ·have hlt:i<l.length:=qn h1;refine⟨i,rfl,za _ (zn hlt) ⟨ψ,Ba (ie:=ti163) (rows':=[zi l[i]]) ha ?_ ?_ ⟨?_,?_⟩ λv2 st2 ha2=>?_⟩⟩
   ·rfl
   ·rfl
   ·simp[zl,ti163];omega
   ·simp[zl];omega
   ·refine⟨⟨θ,θ⟩,⟨(i+1,v2),?_,⟨hlt,?_⟩,Qbn,Tv⟩⟩
    ·show l.length-(i+1)<l.length-i;omega
    ·rw[<-N9 hlt];exact ha2
  ·have hge:i=l.length:=qw h1 hi;subst hge;refine⟨_,st,AV.le_trans ha.le ?_,ha.has,h⟩;rw[Fak];exact Tt
def ylw(l:List Unt)(hl:l.length<=1000000000000)(st:Store)(R:Ja)(h:R (lst 10 zf l) st):Jb 12 [lst 10 zf l] st R:=by
 refine Qy 19 Tryz.func12 ?_;refine AWp.loop (σ:=Nat×AV) ⟨λs=>[(0,.av (lst 10 zf l)),(3,.av s.2),(4,.av (int s.1))],λ_=>[],λs st'=>s.1<=l.length/\App 10 st s.2 (rws zf (l.take s.1)) st',λs=>l.length-s.1⟩ zb ?_ ?_
 ·exact⟨(0,_),Tv,⟨Fad _,App.start 10 st⟩,⟨Tq,Tq,Tq,Tv⟩,Tv⟩
 ·rintro⟨i,v⟩ st' ⟨hi,ha⟩;simp only at hi;refine zh (λh1=>?_) λh1=>?_
  ·have hlt:i<l.length:=qn h1;refine⟨i,rfl,za _ (zn hlt) ⟨ψ,Ba (ie:=ti36) (rows':=[zf l[i]]) ha ?_ ?_ ⟨?_,?_⟩ λv2 st2 ha2=>?_⟩⟩
   ·rfl
   ·rfl
   ·simp[zl,ti36];omega
   ·simp[zl];omega
   ·refine⟨⟨θ,θ⟩,⟨(i+1,v2),?_,⟨hlt,?_⟩,Qbn,Tv⟩⟩
    ·show l.length-(i+1)<l.length-i;omega
    ·rw[<-N9 hlt];exact ha2
  ·have hge:i=l.length:=qw h1 hi;subst hge;refine⟨_,st,AV.le_trans ha.le ?_,ha.has,h⟩;rw[Fak];exact Tt
def io(g:Gnd)(hg:g.fits)(st:Store)(R:Ja)(h:R (.agg (zq g)) st):Jb 44 [.agg (zq g)] st R:=by refine Qy 10 Tryz.func44 ?_;exact yl3 g.T hg _ _ (ret h)
def ylt(w:Wld)(hw:w.fits)(st:Store)(R:Ja)(h:R (.agg (zp w)) st):Jb 13 [.agg (zp w)] st R:=by refine Qy 18 Tryz.func13 ?_;exact io w.G hw.1 _ _ (ip w.B hw.2.1 _ _ (ylw w.U hw.2.2 _ _ (ret h)))
def yke(a b:List UInt8)(ha:a.length<=1000000000000)(st:Store)(R:Ja)(h:R (bool (decide (a=b))) st):Jb 96 [lst 1 u8C a,lst 1 u8C b] st R:=by
 refine Qy 26 Tryz.func96 ?_;refine zh (λh1=>?_) λh1=>?_
 ·have:a≠b:=λh2=>Mm h1 (by rw[h2]);rw[show decide (a=b)=false by simp[this]]at h;exact⟨_,st,Tt,Store.Has.refl st,h⟩
 ·have hl:a.length=b.length:=I0 h1;refine AWp.loop (σ:=Nat) ⟨λi=>[(0,.av (lst 1 u8C a)),(1,.av (lst 1 u8C b)),(5,.av (int i))],λ_=>[],λi st'=>i<=a.length/\a.take i=b.take i/\st'=st,λi=>a.length-i⟩ zb ?_ ?_
  ·exact⟨0,Tv,⟨Fad _,rfl,rfl⟩,Qbn,Tv⟩
  ·rintro i st' ⟨hi,heq,hst⟩;refine zh (λh2=>?_) λh2=>?_
   ·have hlt:i<a.length:=qn h2;have hltb:i<b.length:=θ;refine Qc zb zvb ⟨i,rfl,za _ (zn hlt) ⟨i,rfl,za _ (zn hltb) (zh (λh3=>?_) λh3=>?_)⟩⟩
    ·have hne:a[i]≠b[i]:=by
      intro h4;rw[h4]at h3;simp at h3
     have:a≠b:=θ1;rw[show decide (a=b)=false by simp[this]]at h;subst hst;exact⟨_,st',Tt,Store.Has.refl st',h⟩
    ·refine⟨⟨θ,θ⟩,⟨i+1,?_,⟨hlt,?_,hst⟩,Qbn,Tv⟩⟩
     ·show a.length-(i+1)<a.length-i;omega
     ·rw[Fab hlt,Fab hltb,heq];have:a[i]=b[i]:=UInt8.toNat_inj.1 (by have:=h3;simp at this;omega);rw[this]
   ·have hge:i=a.length:=qw h2 hi;subst hge hst;have:a=b:=by
     rw[Fak,hl,Fak]at heq;exact heq
    rw[show decide (a=b)=true by simp[this]]at h;exact⟨_,st',Tt,Store.Has.refl st',h⟩
def ykf(a b:List Bld)(ha:a.length<=1000000000000)(st:Store)(R:Ja)(h:R (bool (decide (a=b))) st):Jb 54 [lst 6 zi a,lst 6 zi b] st R:=by
 refine Qy 26 Tryz.func54 ?_;refine zh (λh1=>?_) λh1=>?_
 ·have:a≠b:=λh2=>Mm h1 (by rw[h2]);rw[show decide (a=b)=false by simp[this]]at h;exact⟨_,st,Tt,Store.Has.refl st,h⟩
 ·have hl:a.length=b.length:=I0 h1;refine AWp.loop (σ:=Nat) ⟨λi=>[(0,.av (lst 6 zi a)),(1,.av (lst 6 zi b)),(5,.av (int i))],λ_=>[],λi st'=>i<=a.length/\a.take i=b.take i/\st'=st,λi=>a.length-i⟩ zb ?_ ?_
  ·exact⟨0,Tv,⟨Fad _,rfl,rfl⟩,Qbn,Tv⟩
  ·rintro i st' ⟨hi,heq,hst⟩;refine zh (λh2=>?_) λh2=>?_
   ·have hlt:i<a.length:=qn h2;have hltb:i<b.length:=θ;refine Qc zb zvv ⟨i,rfl,za _ (zn hlt) ⟨i,rfl,za _ (zn hltb) (zh (λh3=>?_) λh3=>?_)⟩⟩
    ·have hne:a[i]≠b[i]:=by
      intro h4;rw[h4]at h3;simp at h3
     have:a≠b:=θ1;rw[show decide (a=b)=false by simp[this]]at h;subst hst;exact⟨_,st',Tt,Store.Has.refl st',h⟩
    ·refine⟨⟨θ,θ⟩,⟨i+1,?_,⟨hlt,?_,hst⟩,Qbn,Tv⟩⟩
     ·show a.length-(i+1)<a.length-i;omega
     ·rw[Fab hlt,Fab hltb,heq];have:a[i]=b[i]:=by cases hx:a[i];cases hy:b[i];rw[hx,hy]at h3;simp at h3;simp[h3]
      rw[this]
   ·have hge:i=a.length:=qw h2 hi;subst hge hst;have:a=b:=by
     rw[Fak,hl,Fak]at heq;exact heq
    rw[show decide (a=b)=true by simp[this]]at h;exact⟨_,st',Tt,Store.Has.refl st',h⟩
def yj5(a b:List Unt)(ha:a.length<=1000000000000)(st:Store)(R:Ja)(h:R (bool (decide (a=b))) st):Jb 55 [lst 10 zf a,lst 10 zf b] st R:=by
 refine Qy 26 Tryz.func55 ?_;refine zh (λh1=>?_) λh1=>?_
 ·have:a≠b:=λh2=>Mm h1 (by rw[h2]);rw[show decide (a=b)=false by simp[this]]at h;exact⟨_,st,Tt,Store.Has.refl st,h⟩
 ·have hl:a.length=b.length:=I0 h1;refine AWp.loop (σ:=Nat) ⟨λi=>[(0,.av (lst 10 zf a)),(1,.av (lst 10 zf b)),(5,.av (int i))],λ_=>[],λi st'=>i<=a.length/\a.take i=b.take i/\st'=st,λi=>a.length-i⟩ zb ?_ ?_
  ·exact⟨0,Tv,⟨Fad _,rfl,rfl⟩,Qbn,Tv⟩
  ·rintro i st' ⟨hi,heq,hst⟩;refine zh (λh2=>?_) λh2=>?_
   ·have hlt:i<a.length:=qn h2;have hltb:i<b.length:=θ;refine Qc zb zvu ⟨i,rfl,za _ (zn hlt) ⟨i,rfl,za _ (zn hltb) (zh (λh3=>?_) λh3=>?_)⟩⟩
    ·have hne:a[i]≠b[i]:=by
      intro h4;rw[h4]at h3;simp at h3
     have:a≠b:=θ1;rw[show decide (a=b)=false by simp[this]]at h;subst hst;exact⟨_,st',Tt,Store.Has.refl st',h⟩
    ·refine⟨⟨θ,θ⟩,⟨i+1,?_,⟨hlt,?_,hst⟩,Qbn,Tv⟩⟩
     ·show a.length-(i+1)<a.length-i;omega
     ·rw[Fab hlt,Fab hltb,heq];have:a[i]=b[i]:=by cases hx:a[i];cases hy:b[i];rw[hx,hy]at h3;simp at h3;simp[h3,Prod.ext_iff]
      rw[this]
   ·have hge:i=a.length:=qw h2 hi;subst hge hst;have:a=b:=by
     rw[Fak,hl,Fak]at heq;exact heq
    rw[show decide (a=b)=true by simp[this]]at h;exact⟨_,st',Tt,Store.Has.refl st',h⟩
def yka(a b:Gnd)(ha:a.fits)(st:Store)(R:Ja)(h:R (V.bool (decide (a=b))) st):Jb 53 [.agg (zq a),.agg (zq b)] st R:=by
 refine Qy 24 Tryz.func53 ?_;refine zh (λh1=>zh (λh2=>yke a.T b.T ha _ _ ?_) λh1=>⟨_,st,Tt,Store.Has.refl st,isF h (decide_eq_false λe=>θf)⟩) λh1=>⟨_,st,Tt,Store.Has.refl st,isF h (decide_eq_false λe=>θf)⟩;refine⟨_,st,Tt,Store.Has.refl st,?_⟩;have e:decide (a.T=b.T)=decide (a=b):=by
  rw[Fbq];simp only[beq_iff_eq,decide_eq_true_eq]at*;constructor
  ·intro h9;cases a;cases b;simp_all
  ·rintro rfl;rfl
 rw[<-e]at h;exact h
def zcp(w:Wld)(hw:w.fits)(st:Store)(R:Ja)(h:R (V.bool true) st):Jb 20 [.agg (zp w),.agg (zp w)] st R:=by refine Qy 45 Tryz.func20 ?_;refine zt (λh1=>zt (λh2=>zt (λh3=>yka w.G w.G hw.1 _ _ ?_) λh1=>absurd rfl h1) λh1=>absurd rfl h1) λh1=>absurd rfl h1;rw[show decide (w.G=w.G)=true by simp];refine ykf w.B w.B hw.2.1 _ _ ?_;rw[show decide (w.B=w.B)=true by simp];refine yj5 w.U w.U hw.2.2 _ _ ?_;rw[show decide (w.U=w.U)=true by simp];exact ret h
section
variable {NT NB NU:Store} {w:Wld} {vT vB vU:AV}
theorem jb(u:Bld):(zi u).length=6:=rfl
def Nf(b:Bld):∀y∈zi b,∃x,y=AV.s x/\xp x=true:=by intro y hy;simp[zi]at hy;rcases hy with rfl|rfl|rfl|rfl|rfl|rfl<;>exact⟨_,rfl,rfl⟩
theorem Gw(c:UInt8):(u8C c).length=1:=rfl
def P7(c:UInt8):∀y∈u8C c,∃x,y=AV.s x/\xp x=true:=by intro y hy;simp[u8C]at hy;exact⟨_,hy,rfl⟩
def Dd(st:Store):zk Store.empty st:=λb hb=>(hb.elim (λh=>h rfl) (λh=>h rfl):False).elim
def M7(st:Store):zk Store.empty st:=λb hb=>(hb.elim (λh=>h rfl) (λh=>h rfl):False).elim
def ymd(l:List UInt8)(hl:l.length<=1000000000)(st:Store)(R:Ja)(h:∀v N,RowsQ 1 u8C N v l->zk N st->R v (N.un st)):Jb 154 [jt l] st R:=by
 refine Qy 8 Tryz.func154 ?_;intro b hb;cases b with
 |true=>
  have:l=[]:=ψu;subst this;have:=h (.s (.slice none 0 0)) Store.empty (.inl (.inl ⟨rfl,rfl⟩)) (M7 st);rw[xr]at this;exact ret this
 |false=>
  exact⟨ψ,lr (ie:=ti5) rfl Gw ψ hl λv N hv hd=>ret (h v N hv hd)⟩
def V2(l:List Bld)(hl:l.length<=1000000000)(st:Store)(R:Ja)(h:∀v N,RowsQ 6 zi N v l->zk N st->R v (N.un st)):Jb 102 [lst 6 zi l] st R:=by
 refine Qy 8 Tryz.func102 ?_;intro b hb;cases b with
 |true=>
  have:l=[]:=ψu;subst this;have:=h (.s (.slice none 0 0)) Store.empty (.inl (.inl ⟨rfl,rfl⟩)) (M7 st);rw[xr]at this;exact ret this
 |false=>
  exact⟨ψ,lr (ie:=ti163) rfl jb ψ hl λv N hv hd=>ret (h v N hv hd)⟩
def ymc(l:List Unt)(hl:l.length<=1000000000)(st:Store)(R:Ja)(h:∀v N,RowsQ 10 zf N v l->zk N st->R v (N.un st)):Jb 103 [lst 10 zf l] st R:=by
 refine Qy 8 Tryz.func103 ?_;intro b hb;cases b with
 |true=>
  have:l=[]:=ψu;subst this;have:=h (.s (.slice none 0 0)) Store.empty (.inl (.inl ⟨rfl,rfl⟩)) (M7 st);rw[xr]at this;exact ret this
 |false=>
  exact⟨ψ,lr (ie:=ti36) rfl yn ψ hl λv N hv hd=>ret (h v N hv hd)⟩
def ga(g:Gnd)(hg:g.T.length<=1000000000)(st:Store)(R:Ja)(h:∀v N,RowsQ 1 u8C N v g.T->zk N st->R (.agg [int g.W,int g.H,v]) (N.un st)):Jb 101 [.agg (zq g)] st R:=by refine Qy 8 Tryz.func101 ?_;refine ymd g.T hg _ _ λv N hv hd=>?_;obtain⟨oa,cap,hv2,_⟩:=hv.form;subst hv2;exact ret (h _ N hv hd)
def jf(w:Wld)(vT vB vU:AV):List AV:=[int w.tick,int w.players,int w.next,int w.G.W,int w.G.H,vT,vB,vU]
structure OwnQ(S:Store)(w:Wld)(vT vB vU:AV)(NT NB NU:Store):Prop where
 e:S=NU.un (NB.un NT)
 rT:RowsQ 1 u8C NT vT w.G.T
 rB:RowsQ 6 zi NB vB w.B
 rU:RowsQ 10 zf NU vU w.U
 dB:zk NB NT
 dU:zk NU (NB.un NT)
def Oq(w:Wld)(hT:w.G.T.length<=1000000000)(hB:w.B.length<=1000000000)(hU:w.U.length<=1000000000)(R:Ja)
  (h:∀S vT vB vU NT NB NU,OwnQ S w vT vB vU NT NB NU->R (.agg (jf w vT vB vU)) S):Jb 65 [.agg (zp w)] Store.empty R:=by
 refine Qy 16 Tryz.func65 ?_;refine Qc zb zvq ?_;refine⟨ga w.G hT _ _ λvT NT rT _=>⟨Qe,?_⟩,Tv⟩;rw[Bc];refine⟨V2 w.B hB _ _ λvB NB rB dB=>⟨Qe,⟨ymc w.U hU _ _ λvU NU rU dU=>⟨Qe,?_⟩,Tv⟩⟩,Tv⟩;have ho:OwnQ (NU.un (NB.un NT)) w vT vB vU NT NB NU:=⟨rfl,rT,rB,rU,dB,dU⟩
 obtain⟨_,_,e1,_⟩:=rT.form;obtain⟨_,_,e2,_⟩:=rB.form;obtain⟨_,_,e3,_⟩:=rU.form;subst e1 e2 e3;exact Qbq (Qbq (Qbq (ret (h _ _ _ _ _ _ _ ho))))
def Ic{S:Store}(h:OwnQ S w vT vB vU NT NB NU):RowsQ 1 u8C S vT w.G.T/\RowsQ 6 zi S vB w.B/\RowsQ 10 zf S vU w.U:=by have h1:=h.rT;have h2:=h.rB.unL h.dB;rw[h.e];exact⟨(h1.un (a:=NB)).un,h2.un,h.rU.unL h.dU⟩
def Kv{st:Store}(h:OwnQ st w vT vB vU NT NB NU){Oth M:BB}{W:World}(sto:StoreOK st Oth M W){x:Value}(hx:VRel W (λb o=>M b o\/Oth b o) (.agg (jf w vT vB vU)) x):
  VRel W (λb o=>(M b o\/Oth b o)/\st.obj b=none) (.agg (zp w)) x:=by
 obtain⟨hT,hB,hU⟩:=Ic h;cases hx with
 |agg _ c hl hc=>
  refine .agg _ c hl λi x y hx hy=>?_
  match i with
  |0=>simp only[zp,Fan,Faj]at hx;subst hx;exact qv (hc 0 _ y rfl hy)
  |1=>simp only[zp,Faq,Fan,Faj]at hx;subst hx;exact qv (hc 1 _ y rfl hy)
  |2=>simp only[zp,Faq,Fan,Faj]at hx;subst hx;exact qv (hc 2 _ y rfl hy)
  |3=>simp only[zp,Faq,Fan,Faj]at hx;subst hx;exact qv (hc 3 _ y rfl hy)
  |4=>simp only[zp,Faq,Fan,Faj]at hx;subst hx;exact qv (hc 4 _ y rfl hy)
  |5=>simp only[zp,Faq,Fan,Faj]at hx;subst hx;exact hT.borrow Gw P7 sto (hc 5 _ y rfl hy)
  |6=>simp only[zp,Faq,Fan,Faj]at hx;subst hx;exact hB.borrow jb Nf sto (hc 6 _ y rfl hy)
  |7=>simp only[zp,Faq,Fan,Faj]at hx;subst hx;exact hU.borrow yn P3 sto (hc 7 _ y rfl hy)
  |i+8=>simp[zp]at hx
def Kx{a b:Store}{i:Nat}(h:(a.un b).obj i=none):a.obj i=none/\b.obj i=none:=by
 unfold Store.un at h;dsimp only at h;cases hb:b.obj i with
 |none=>rw[hb]at h;exact⟨h,rfl⟩
 |some y=>rw[hb]at h;cases h
def tg(w:Wld)(hT:w.G.T.length<=1000000000)(hB:w.B.length<=1000000000)(hU:w.U.length<=1000000000)(R:Ja)
  (h:∀v N,RowsQ 10 zf N v w.U->R (.agg (zz w v)) N):Jb 65 [.agg (zp w)] Store.empty R:=by
 refine(Oq w hT hB hU (λr S=>∃vT vB vU NT NB NU,OwnQ S w vT vB vU NT NB NU/\r=.agg (jf w vT vB vU)) λS vT vB vU NT NB NU ho=>⟨vT,vB,vU,NT,NB,NU,ho,rfl⟩).frozenTo ?_;rintro r S ⟨vT,vB,vU,NT,NB,NU,ho,rfl⟩;have hk:∃N2:Store,RowsQ 10 zf N2 vU w.U/\(∀b x,N2.obj b=some x->NU.obj b=some x)/\(∀b x,N2.tok b≠some x):=by refine⟨⟨NU.obj,λ_=>none⟩,ho.rU.sub λ_ _ _ _=>rfl,λb x hx=>hx,λb x=>φ⟩
 obtain⟨N2,hN,hsub,htok⟩:=hk;refine⟨.agg (zz w vU),N2,h vU N2 hN,λb x hx=>?_,htok,λOth M W v sto hx=>?_⟩
 ·rw[ho.e];exact yg ho.dU (hsub b x hx)
 ·obtain⟨rT,rB,rU⟩:=Ic ho;cases hx with
  |agg _ c hl hc=>
   have mono1:∀{x:AV} {v:Value},VRel W (λb o=>M b o\/Oth b o) x v->VRel W (λb o=>(M b o\/Oth b o)/\(S.obj b=none\/N2.obj b≠none)) x v:=λh=>h.mono λ_ _ h=>h.1;have mono2:∀{x:AV} {v:Value} {Z:Store},(∀b,N2.obj b≠none->Z.obj b=none)->(∀b,S.obj b=none->Z.obj b=none)->VRel W (λb o=>(M b o\/Oth b o)/\Z.obj b=none) x v->VRel W (λb o=>(M b o\/Oth b o)/\(S.obj b=none\/N2.obj b≠none)) x v:=λhz1 hz2 h=>h.mono λb _ h=>⟨h.1,h.2.elim (hz2 b) (hz1 b)⟩
   have hS:∀b,S.obj b=none->NU.obj b=none/\NB.obj b=none/\NT.obj b=none:=λb hb=>by rw[ho.e]at hb;obtain⟨h1,h2⟩:=Kx hb;exact⟨h1,(Kx h2).1,(Kx h2).2⟩
   have hN2:∀b,N2.obj b≠none->NB.obj b=none/\NT.obj b=none:=λb hb=>by
    cases hx:N2.obj b with
    |none=>exact absurd hx hb
    |some y=>
     have h1:=xf (hsub b y hx);have h2:=k8 (ho.dU b h1);exact⟨(Kx h2.1).1,(Kx h2.1).2⟩
   have sNB:StoreOK NB Oth M W:=sto.weaken ⟨λb x hx=>by rw[ho.e];exact zg (yg ho.dB hx),λb x hx=>by rw[ho.e];exact F5 (Kk ho.dB hx)⟩;have sNT:StoreOK NT Oth M W:=sto.weaken ⟨λb x hx=>by rw[ho.e];exact zg (zg hx),λb x hx=>by rw[ho.e];exact F5 (F5 hx)⟩;refine .agg _ c hl λi x y hx hy=>?_
   match i with
   |0=>simp only[zz,Fan,Faj]at hx;subst hx;exact mono1 (hc 0 _ y rfl hy)
   |1=>simp only[zz,Faq,Fan,Faj]at hx;subst hx;exact mono1 (hc 1 _ y rfl hy)
   |2=>simp only[zz,Faq,Fan,Faj]at hx;subst hx;exact mono1 (hc 2 _ y rfl hy)
   |3=>simp only[zz,Faq,Fan,Faj]at hx;subst hx;exact mono1 (hc 3 _ y rfl hy)
   |4=>simp only[zz,Faq,Fan,Faj]at hx;subst hx;exact mono1 (hc 4 _ y rfl hy)
   |5=>simp only[zz,Faq,Fan,Faj]at hx;subst hx;exact mono2 (λb hb=>(hN2 b hb).2) (λb hb=>(hS b hb).2.2) (ho.rT.borrow Gw P7 sNT (hc 5 _ y rfl hy))
   |6=>simp only[zz,Faq,Fan,Faj]at hx;subst hx;exact mono2 (λb hb=>(hN2 b hb).1) (λb hb=>(hS b hb).2.1) (ho.rB.borrow jb Nf sNB (hc 6 _ y rfl hy))
   |7=>simp only[zz,Faq,Fan,Faj]at hx;subst hx;exact mono1 (hc 7 _ y rfl hy)
   |i+8=>simp[zz]at hx
end
section
variable {S:Store} {v:AV}
def Nz:Bld:=⟨-9,0,0,0,0,0⟩
def Ny:Unt:=⟨-9,0,0,(0,0),0,0,0,0,0⟩
def zBq:Bld:=⟨0,0,0,0,0,0⟩
def zUq:Unt:=⟨0,0,0,(0,0),0,0,0,0,0⟩
def Ca(st:Store):st.Has Store.empty:=⟨λb x h=>ω,λb x h=>ω⟩
def zuj{l:List Bld}(hv:RowsQ 6 zi S v l)(hl:l.length<=1000000)(R:Ja)(h:R (.tup []) Store.empty):Jb 60 [v] S R:=by
 refine Qy 17 Tryz.func60 ?_;refine AWp.loop (σ:=Nat×List Bld×Store) ⟨λs=>[(0,.av v),(2,.av (int (s.1:Nat)))],λ_=>[],λs st'=>st'=s.2.2/\RowsQ 6 zi s.2.2 v s.2.1/\s.2.1.length=l.length/\s.1<=l.length,λs=>l.length-s.1⟩ zb ?_ ?_
 ·exact⟨(0,l,S),Tv,⟨rfl,hv,rfl,Fad _⟩,⟨Tq,Tq,Tv⟩,Tv⟩
 rintro⟨i,ms,S1⟩ st' ⟨rfl,hm,hml,hi⟩;dsimp only at hm hml hi⊢;have hm0:=hm;rcases hm with(⟨rfl,rfl⟩|⟨b,cap,L,rfl,ho,h1,h2,h3⟩)|⟨a,ha,rfl,rfl⟩
 ·have hi0:i=0:=by simp at hml;omega
  subst hi0;exact⟨ψ,ww (ie:=ti163) rfl jb ψ hm0 zBq rfl φ λb cap L q1 q2 q3 q4=>vh (Tt) (Ca _) h⟩
 ·refine bcd (λc1=>?_) λc1=>?_
  ·have hlt:i<ms.length:=θ;refine⟨i,rfl,hlt,jq (i:=ti163) (v:=.agg (zi Nz)) (xs:=zi Nz) (b:=b) (o:=0+i*6) (l:=(rws zi ms).flatten++L) rfl rfl rfl ho (by rw[Fae,qr jb];show 0+i*6+6<=_;omega) (Qd ⟨(i+1,ms.set i Nz,_),?_,⟨rfl,?_,by dsimp only;rw[Faf];exact hml,ζ⟩,⟨Tq,Tq,Tv⟩,Tv⟩)⟩
   ·show l.length-(i+1)<l.length-i;omega
   ·have e:=Gz (f:=zi) (k:=6) (L:=L) jb hlt (j:=0) (ys:=zi Nz) (x':=Nz) ψ rfl;have e2:0+i*6=i*6+0:=θ;dsimp only;rw[e2,e];exact .inl (.inr ⟨b,cap,L,by rw[Faf],zd _ _ _,by rw[Faf];exact h1,by rw[Faf];exact h2,h3⟩)
  ·exact⟨ψ,ww (ie:=ti163) rfl jb ψ hm0 zBq rfl θ λb cap L q1 q2 q3 q4=>vh (Tt) (Ca _) h⟩
 ·have hi0:i=0:=by simp at hml;omega
  subst hi0;exact⟨ψ,ww (ie:=ti163) rfl jb ψ hm0 zBq rfl φ λb cap L q1 q2 q3 q4=>vh (Tt) (Ca _) h⟩
def zuh{l:List Unt}(hv:RowsQ 10 zf S v l)(hl:l.length<=1000000)(R:Ja)(h:R (.tup []) Store.empty):Jb 61 [v] S R:=by
 refine Qy 17 Tryz.func61 ?_;refine AWp.loop (σ:=Nat×List Unt×Store) ⟨λs=>[(0,.av v),(2,.av (int (s.1:Nat)))],λ_=>[],λs st'=>st'=s.2.2/\RowsQ 10 zf s.2.2 v s.2.1/\s.2.1.length=l.length/\s.1<=l.length,λs=>l.length-s.1⟩ zb ?_ ?_
 ·exact⟨(0,l,S),Tv,⟨rfl,hv,rfl,Fad _⟩,⟨Tq,Tq,Tv⟩,Tv⟩
 rintro⟨i,ms,S1⟩ st' ⟨rfl,hm,hml,hi⟩;dsimp only at hm hml hi⊢;have hm0:=hm;rcases hm with(⟨rfl,rfl⟩|⟨b,cap,L,rfl,ho,h1,h2,h3⟩)|⟨a,ha,rfl,rfl⟩
 ·have hi0:i=0:=by simp at hml;omega
  subst hi0;exact⟨ψ,ww (ie:=ti36) rfl yn ψ hm0 zUq rfl φ λb cap L q1 q2 q3 q4=>vh (Tt) (Ca _) h⟩
 ·refine bcd (λc1=>?_) λc1=>?_
  ·have hlt:i<ms.length:=θ;refine⟨i,rfl,hlt,jq (i:=ti36) (v:=.agg (zf Ny)) (xs:=zf Ny) (b:=b) (o:=0+i*10) (l:=(rws zf ms).flatten++L) rfl rfl rfl ho (by rw[Fae,qr yn];show 0+i*10+10<=_;omega) (Qd ⟨(i+1,ms.set i Ny,_),?_,⟨rfl,?_,by dsimp only;rw[Faf];exact hml,ζ⟩,⟨Tq,Tq,Tv⟩,Tv⟩)⟩
   ·show l.length-(i+1)<l.length-i;omega
   ·have e:=Gz (f:=zf) (k:=10) (L:=L) yn hlt (j:=0) (ys:=zf Ny) (x':=Ny) ψ rfl;have e2:0+i*10=i*10+0:=θ;dsimp only;rw[e2,e];exact .inl (.inr ⟨b,cap,L,by rw[Faf],zd _ _ _,by rw[Faf];exact h1,by rw[Faf];exact h2,h3⟩)
  ·exact⟨ψ,ww (ie:=ti36) rfl yn ψ hm0 zUq rfl θ λb cap L q1 q2 q3 q4=>vh (Tt) (Ca _) h⟩
 ·have hi0:i=0:=by simp at hml;omega
  subst hi0;exact⟨ψ,ww (ie:=ti36) rfl yn ψ hm0 zUq rfl φ λb cap L q1 q2 q3 q4=>vh (Tt) (Ca _) h⟩
def zui{l:List UInt8}(hv:RowsQ 1 u8C S v l)(hl:l.length<=1000000)(R:Ja)(h:R (.tup []) Store.empty):Jb 59 [v] S R:=by
 refine Qy 20 Tryz.func59 ?_;refine AWp.loop (σ:=Nat×List UInt8×Store) ⟨λs=>[(0,.av v),(2,.av (int (s.1:Nat)))],λ_=>[],λs st'=>st'=s.2.2/\RowsQ 1 u8C s.2.2 v s.2.1/\s.2.1.length=l.length/\s.1<=l.length,λs=>l.length-s.1⟩ zb ?_ ?_
 ·exact⟨(0,l,S),Tv,⟨rfl,hv,rfl,Fad _⟩,⟨Tq,Tq,Tv⟩,Tv⟩
 rintro⟨i,ms,S1⟩ st' ⟨rfl,hm,hml,hi⟩;dsimp only at hm hml hi⊢;have hm0:=hm;rcases hm with(⟨rfl,rfl⟩|⟨b,cap,L,rfl,ho,h1,h2,h3⟩)|⟨a,ha,rfl,rfl⟩
 ·have hi0:i=0:=by simp at hml;omega
  subst hi0;exact⟨ψ,ww (ie:=ti5) rfl Gw ψ hm0 5 rfl φ λb cap L q1 q2 q3 q4=>vh (Tt) (Ca _) h⟩
 ·refine bcd (λc1=>?_) λc1=>?_
  ·have hlt:i<ms.length:=θ;refine⟨i,rfl,hlt,?_⟩;have hhead:(((rws u8C ms).flatten++L).drop (0+i*1)).head?=some (.s (.int .u8 ms[i].toNat)):=by
    have hg:=Iy (k:=1) (rows:=rws u8C ms) (λrow hr=>by obtain⟨c,_,rfl⟩:=Fag.1 hr;rfl) (j:=0) (zn hlt) (x:=.s (.int .u8 ms[i].toNat)) rfl;have hlt2:=(Fax.1 hg).1;rw[Fbv,show 0+i*1=i*1+0 by omega,Fap hlt2];exact hg
   refine za _ ho (za _ hhead ⟨i,rfl,hlt,?_⟩);have hx:jj .xor .u8 ((ms[i].toNat:Nat):Int) 85=(((ms[i]^^^85:UInt8)).toNat:Int):=ynd .xor ms[i] 85;rw[hx];refine xo (i:=ti5) (v:=u8 (ms[i]^^^85)) (b:=b) (o:=0+i*1) (l:=(rws u8C ms).flatten++L) rfl rfl rfl ho (by rw[Fae,qr Gw];omega) (Qd ⟨(i+1,ms.set i (ms[i]^^^85),_),?_,⟨rfl,?_,by dsimp only;rw[Faf];exact hml,ζ⟩,⟨Tq,Tq,Tv⟩,Tv⟩)
   ·show l.length-(i+1)<l.length-i;omega
   ·have e:=Gz (f:=u8C) (k:=1) (L:=L) Gw hlt (j:=0) (ys:=[u8 (ms[i]^^^85)]) (x':=ms[i]^^^85) φ rfl;have e2:0+i*1=i*1+0:=θ;dsimp only;rw[e2,e];exact .inl (.inr ⟨b,cap,L,by rw[Faf],zd _ _ _,by rw[Faf];exact h1,by rw[Faf];exact h2,h3⟩)
  ·exact⟨ψ,ww (ie:=ti5) rfl Gw ψ hm0 5 rfl θ λb cap L q1 q2 q3 q4=>vh (Tt) (Ca _) h⟩
 ·have hi0:i=0:=by simp at hml;omega
  subst hi0;exact⟨ψ,ww (ie:=ti5) rfl Gw ψ hm0 5 rfl φ λb cap L q1 q2 q3 q4=>vh (Tt) (Ca _) h⟩
def bt{NT NB NU:Store}{w:Wld}{vT vB vU:AV}(ho:OwnQ S w vT vB vU NT NB NU)(hT:w.G.T.length<=1000000)(hB:w.B.length<=1000000)(hU:w.U.length<=1000000)(R:Ja)(h:R (.tup []) Store.empty):Jb 22 [.agg (jf w vT vB vU)] S R:=by
 have e:S=NT.un (NB.un NU):=by rw[ho.e,un_comm ho.dU,un_comm ho.dB,Kl]
 have d1:zk NT (NB.un NU):=λi h1 h2=>by
  rcases un_has.1 h2 with h2|h2
  ·exact ho.dB i h2 h1
  ·exact ho.dU i h2 (un_has.2 (.inr h1))
 have d2:zk NB NU:=λi h1 h2=>ho.dU i h2 (un_has.2 (.inl h1));rw[e];refine Qy 12 Tryz.func22 ?_;refine ACalls.frame (R:=λr S=>r=.tup []/\S=Store.empty) d1 (zui ho.rT hT _ ⟨rfl,rfl⟩) ?_;rintro r S1 ⟨rfl,rfl⟩ _;rw[xr];refine ACalls.frame (R:=λr S=>r=.tup []/\S=Store.empty) d2 (zuj ho.rB hB _ ⟨rfl,rfl⟩) ?_;rintro r S1 ⟨rfl,rfl⟩ _;rw[xr];exact zuh ho.rU hU _ (ret h)
end
def Qad{p:Prop}(h:p:=by unfold qs;simp at h1⊢;omega):p:=h
def ylz(l:List Int)(hl:l.length<=1000000000000)(st:Store)(R:Ja)(h:R (lst 1 zx l) st):Jb 105 [lst 1 zx l] st R:=by
 refine Qy 19 Tryz.func105 ?_;refine AWp.loop (σ:=Nat×AV) ⟨λs=>[(0,.av (lst 1 zx l)),(3,.av s.2),(4,.av (int s.1))],λ_=>[],λs st'=>s.1<=l.length/\App 1 st s.2 (rws zx (l.take s.1)) st',λs=>l.length-s.1⟩ zb ?_ ?_
 ·exact⟨(0,_),Tv,⟨Fad _,App.start 1 st⟩,⟨Tq,Tq,Tq,Tv⟩,Tv⟩
 ·rintro⟨i,v⟩ st' ⟨hi,ha⟩;simp only at hi;refine zh (λh1=>?_) λh1=>?_
  ·have hlt:i<l.length:=qn h1;refine⟨i,rfl,za _ (zn hlt) ⟨ψ,Ba (ie:=ti2) (rows':=[zx l[i]]) ha ?_ ?_ ⟨?_,?_⟩ λv2 st2 ha2=>?_⟩⟩
   ·rfl
   ·rfl
   ·simp[zl,ti2];omega
   ·simp[zl];omega
   ·refine⟨⟨θ,θ⟩,⟨(i+1,v2),?_,⟨hlt,?_⟩,Qbn,Tv⟩⟩
    ·show l.length-(i+1)<l.length-i;omega
    ·rw[<-N9 hlt];exact ha2
  ·have hge:i=l.length:=qw h1 hi;subst hge;refine⟨_,st,AV.le_trans ha.le ?_,ha.has,h⟩;rw[Fak];exact Tt
def yl1(c:Cmd)(hc:c.fits)(st:Store)(R:Ja)(h:R (.agg (yh c)) st):Jb 68 [.agg (yh c)] st R:=by refine Qy 10 Tryz.func68 ?_;refine ylz c.U hc _ _ ?_;exact⟨_,st,Tt,Store.Has.refl st,h⟩
def yj8(a b:List Int)(ha:a.length<=1000000000000)(st:Store)(R:Ja)(h:R (bool (decide (a=b))) st):Jb 77 [lst 1 zx a,lst 1 zx b] st R:=by
 refine Qy 26 Tryz.func77 ?_;refine zh (λh1=>?_) λh1=>?_
 ·have:a≠b:=λh2=>Mm h1 (by rw[h2]);rw[show decide (a=b)=false by simp[this]]at h;exact⟨_,st,Tt,Store.Has.refl st,h⟩
 ·have hl:a.length=b.length:=I0 h1;refine AWp.loop (σ:=Nat) ⟨λi=>[(0,.av (lst 1 zx a)),(1,.av (lst 1 zx b)),(5,.av (int i))],λ_=>[],λi st'=>i<=a.length/\a.take i=b.take i/\st'=st,λi=>a.length-i⟩ zb ?_ ?_
  ·exact⟨0,Tv,⟨Fad _,rfl,rfl⟩,Qbn,Tv⟩
  ·rintro i st' ⟨hi,heq,hst⟩;refine zh (λh2=>?_) λh2=>?_
   ·have hlt:i<a.length:=qn h2;have hltb:i<b.length:=θ;refine Qc zb zvm ⟨i,rfl,za _ (zn hlt) ⟨i,rfl,za _ (zn hltb) (zh (λh3=>?_) λh3=>?_)⟩⟩
    ·have hne:a[i]≠b[i]:=by
      intro h4;rw[h4]at h3;simp at h3
     have:a≠b:=θ1;rw[show decide (a=b)=false by simp[this]]at h;subst hst;exact⟨_,st',Tt,Store.Has.refl st',h⟩
    ·refine⟨⟨θ,θ⟩,⟨i+1,?_,⟨hlt,?_,hst⟩,Qbn,Tv⟩⟩
     ·show a.length-(i+1)<a.length-i;omega
     ·rw[Fab hlt,Fab hltb,heq];have:a[i]=b[i]:=by simpa using h3
      rw[this]
   ·have hge:i=a.length:=qw h2 hi;subst hge hst;have:a=b:=by
     rw[Fak,hl,Fak]at heq;exact heq
    rw[show decide (a=b)=true by simp[this]]at h;exact⟨_,st',Tt,Store.Has.refl st',h⟩
def I1(a b:Cmd)(ha:a.fits)(st:Store)(R:Ja)(h:R (bool (decide (a=b))) st):Jb 74 [.agg (yh a),.agg (yh b)] st R:=by
 refine Qy 66 Tryz.func74 ?_;refine zh (λh1=>zh (λh2=>zh (λh3=>zh (λh4=>?_) λh1=>⟨_,st,Tt,Store.Has.refl st,isF h (decide_eq_false λe=>θf)⟩) λh1=>⟨_,st,Tt,Store.Has.refl st,isF h (decide_eq_false λe=>θf)⟩) λh1=>⟨_,st,Tt,Store.Has.refl st,isF h (decide_eq_false λe=>θf)⟩) λh1=>⟨_,st,Tt,Store.Has.refl st,isF h (decide_eq_false λe=>θf)⟩;refine yj8 a.U b.U ha _ _ (zh (λh5=>zh (λh6=>zh (λh7=>zh (λh8=>?_) λh1=>⟨_,st,Tt,Store.Has.refl st,isF h (decide_eq_false λe=>θf)⟩) λh1=>⟨_,st,Tt,Store.Has.refl st,isF h (decide_eq_false λe=>θf)⟩) λh1=>⟨_,st,Tt,Store.Has.refl st,isF h (decide_eq_false λe=>θf)⟩) λh1=>⟨_,st,Tt,Store.Has.refl st,isF h (decide_eq_false λe=>θf)⟩);refine⟨_,st,Tt,Store.Has.refl st,?_⟩;have e:(a.X==b.X&&(a.Y==b.Y&&true))=decide (a=b):=by
  rw[Fbq];simp only[beq_iff_eq,decide_eq_true_eq,Fay,and_true]at*;constructor
  ·rintro⟨h9,h10⟩;cases a;cases b;simp_all
  ·rintro rfl;exact⟨rfl,rfl⟩
 rw[<-e]at h;exact h
def Fz(n lo hi:Int)(st:Store)(R:Ja)(h:∀b:Bool,(b=true↔lo<=n/\n<=hi)->R (bool b) st):Jb 158 [int n,int lo,int hi] st R:=by
 refine Qy 15 Tryz.func158 ?_;refine zh (λh1=>?_) λh1=>⟨_,st,Tt,Store.Has.refl st,h _ ?_⟩
 ·refine⟨_,st,Tt,Store.Has.refl st,h _ ?_⟩;simp at h1⊢;omega
 ·simp at h1⊢;omega
def ygn(n:Int)(st:Store)(R:Ja)(h:∀b:Bool,(b=true↔0<=n/\n<=3)->R (bool b) st):Jb 130 [int n] st R:=by
 refine Qy 9 Tryz.func130 ?_;refine zh (λh1=>?_) λh1=>⟨_,st,Tt,Store.Has.refl st,h _ ?_⟩
 ·refine⟨_,st,Tt,Store.Has.refl st,h _ ?_⟩;simp at h1⊢;omega
 ·simp at h1⊢;omega
def uj(n hi:Int)(st:Store)(R:Ja)(h:∀b:Bool,(b=true↔0<=n/\n<=hi)->R (bool b) st):Jb 87 [int n,int hi] st R:=by
 refine Qy 12 Tryz.func87 ?_;refine zh (λh1=>?_) λh1=>⟨_,st,Tt,Store.Has.refl st,h _ ?_⟩
 ·refine⟨_,st,Tt,Store.Has.refl st,h _ ?_⟩;simp at h1⊢;omega
 ·simp at h1⊢;omega
def bd(n:Int)(st:Store)(R:Ja)(h:∀b:Bool,(b=true↔kx n)->R (bool b) st):Jb 172 [int n] st R:=by
 refine Qy 9 Tryz.func172 ?_;refine zh (λh1=>?_) λh1=>⟨_,st,Tt,Store.Has.refl st,h _ ?_⟩
 ·refine⟨_,st,Tt,Store.Has.refl st,h _ ?_⟩;unfold kx;simp at h1⊢;omega
 ·unfold kx;simp at h1⊢;omega
def f8(n:Int)(st:Store)(R:Ja)(h:∀b:Bool,(b=true↔idP n)->R (bool b) st):Jb 173 [int n] st R:=by
 refine Qy 9 Tryz.func173 ?_;refine zh (λh1=>?_) λh1=>⟨_,st,Tt,Store.Has.refl st,h _ ?_⟩
 ·refine⟨_,st,Tt,Store.Has.refl st,h _ ?_⟩;unfold idP;simp at h1⊢;omega
 ·unfold idP;simp at h1⊢;omega
def yd7(x y:Int)(st:Store)(R:Ja)(h:∀b:Bool,(b=true↔qs x y)->R (bool b) st):Jb 235 [.agg [int x,int y]] st R:=by refine Qy 21 Tryz.func235 ?_;refine zh (λh1=>zh (λh2=>zh (λh3=>?_) λh1=>⟨_,st,Tt,Store.Has.refl st,h _ Qad⟩) λh1=>⟨_,st,Tt,Store.Has.refl st,h _ Qad⟩) λh1=>⟨_,st,Tt,Store.Has.refl st,h _ Qad⟩;refine⟨_,st,Tt,Store.Has.refl st,h _ ?_⟩;unfold qs;simp at h1 h2 h3⊢;omega
def yd9(x y:Int)(st:Store)(R:Ja)(h:∀b:Bool,(b=true↔qs x y)->R (bool b) st):Jb 170 [.agg [int x,int y],int 0] st R:=by refine Qy 31 Tryz.func170 ?_;refine zh (λh1=>zh (λh2=>zh (λh3=>?_) λh1=>⟨_,st,Tt,Store.Has.refl st,h _ Qad⟩) λh1=>⟨_,st,Tt,Store.Has.refl st,h _ Qad⟩) λh1=>⟨_,st,Tt,Store.Has.refl st,h _ Qad⟩;refine⟨_,st,Tt,Store.Has.refl st,h _ ?_⟩;unfold qs;simp at h1 h2 h3⊢;omega
def W3(l:List Int)(hl:l.length<=1000000000000)(st:Store)(R:Ja)(h:∀b:Bool,(b=true↔Bh l)->R (bool b) st):Jb 236 [y9 l] st R:=by
 refine Qy 40 Tryz.func236 ?_
 refine AWp.loop (σ:=Nat) ⟨λi=>[(0,.av (y9 l)),(5,.av (y9 l)),(6,.av (int l.length)),(7,.av (int i))],λ_=>[],
  λi st'=>i<=l.length/\st'=st/\∀j,j<i->(1<=l.getD j 0/\l.getD j 0<=1099511627776)/\(0<j->l.getD (j-1) 0<l.getD j 0),λi=>l.length-i⟩ zb ?_ ?_
 ·refine⟨0,Tv,⟨Fad _,rfl,λj hj=>θ⟩,⟨Tq,Tq,?_,Tq,Tv⟩,Tv⟩;rw[<-zl (f:=zx) l];exact Tq
 ·rintro i st' ⟨hi,rfl,hall⟩;refine zh (λh1=>?_) λh1=>?_
  ·have hlt:i<l.length:=by simpa using h1
   have hget:l.getD i 0=l[i]:=by simp[hlt]
   refine⟨i,rfl,za _ (zn hlt) ?_⟩;have bad:¬((1<=l.getD i 0/\l.getD i 0<=1099511627776)/\(0<i->l.getD (i-1) 0<l.getD i 0))->∀b:Bool,b=false->(b=true↔Bh l):=by rintro hb _ rfl;simp only[Fah,false_iff];exact λhu=>hb (hu.2 i hlt)
   have go:((1<=l.getD i 0/\l.getD i 0<=1099511627776)/\(0<i->l.getD (i-1) 0<l.getD i 0))->∀j,j<i+1->(1<=l.getD j 0/\l.getD j 0<=1099511627776)/\(0<j->l.getD (j-1) 0<l.getD j 0):=by
    intro hb j hj;by_cases hji:j=i
    ·subst hji;exact hb
    ·exact hall j θ
   refine zh (λh2=>⟨_,st',Tt,Store.Has.refl st',h _ (bad (by rw[hget];simp at h2;omega) _ rfl)⟩) (λh2=>zh (λh3=>⟨_,st',Tt,Store.Has.refl st',h _ (bad (by rw[hget];simp at h3;omega) _ rfl)⟩) λh3=>zh (λh4=>?_) λh4=>?_)
   ·have h4:0<i:=by simpa using h4
    have hget1:l.getD (i-1) 0=l[i-1]:=by simp[show i-1<l.length by omega]
    refine⟨⟨θ,θ⟩,⟨i-1,θ,za _ (zn (show i-1<l.length by omega)) (zh (λh5=>⟨_,st',Tt,Store.Has.refl st',h _ (bad (by rw[hget,hget1];simp at h5;omega) _ rfl)⟩) (λh5=>⟨⟨θ,θ⟩,⟨i+1,?_,⟨hlt,rfl,go (by rw[hget,hget1];simp at h2 h3 h5;omega)⟩,Qbn,Tv⟩⟩))⟩⟩;show l.length-(i+1)<l.length-i;omega
   ·refine⟨⟨θ,θ⟩,⟨i+1,?_,⟨hlt,rfl,go (by rw[hget];simp at h2 h3 h4;omega)⟩,Qbn,Tv⟩⟩;show l.length-(i+1)<l.length-i;omega
  ·have hge:i=l.length:=by
    have:¬i<l.length:=θz;omega
   subst hge;refine zh (λh2=>⟨_,st',Tt,Store.Has.refl st',h _ ?_⟩) λh2=>⟨_,st',Tt,Store.Has.refl st',h _ ?_⟩
   ·rw[zl]at h2⊢;unfold Bh;simp only[decide_eq_true_eq]at h2⊢;constructor
    ·intro h3;exact⟨θ,hall⟩
    ·intro h3;omega
   ·rw[zl]at h2;unfold Bh;simp only[decide_eq_false_iff_not]at h2;simp only[Fah,false_iff];intro h3;omega
def ybo(l:List Int)(hl:l.length<=1000000000000)(st:Store)(R:Ja)(h:∀b:Bool,(b=true↔∀j,j<l.length->0<j->l.getD (j-1) 0<l.getD j 0)->R (bool b) st):Jb 255 [y9 l] st R:=by
 refine Qy 20 Tryz.func255 ?_
 refine AWp.loop (σ:=Nat) ⟨λi=>[(0,.av (y9 l)),(3,.av (int (i:Nat)))],λ_=>[],
  λi st'=>1<=i/\(i<=l.length\/i=1)/\st'=st/\∀j,j<i->0<j->l.getD (j-1) 0<l.getD j 0,λi=>l.length-i⟩ zb ?_ ?_
 ·exact⟨1,Tv,⟨Fal _,.inr rfl,rfl,λj hj=>θ⟩,⟨Tq,Tq,Tv⟩,Tv⟩
 ·rintro i st' ⟨hi1,hi,rfl,hall⟩;refine zh (λh1=>?_) λh1=>?_
  ·have hlt:i<l.length:=qn h1;have hget:l.getD i 0=l[i]:=by simp[hlt]
   have hget1:l.getD (i-1) 0=l[i-1]:=by simp[show i-1<l.length by omega]
   refine Qc zb zwz ⟨i,rfl,za _ (zn hlt) ⟨⟨θ,θ⟩,⟨i-1,θ,za _ (zn (show i-1<l.length by omega)) (zh (λh2=>⟨_,st',Tt,Store.Has.refl st',h _ ?_⟩) λh2=>?_)⟩⟩⟩
   ·simp only[Fah,false_iff];intro h3;have:=h3 i hlt θ;rw[hget,hget1]at this;simp at h2;omega
   ·refine⟨⟨θ,θ⟩,⟨i+1,?_,⟨θ,.inl hlt,rfl,λj hj h0=>?_⟩,⟨Tq,Tq,Tv⟩,Tv⟩⟩
    ·show l.length-(i+1)<l.length-i;omega
    ·by_cases hji:j=i
     ·subst hji;rw[hget,hget1];simp at h2;omega
     ·exact hall j θ h0
  ·have hge:¬i<l.length:=by
    rw[zl]at h1;simpa using h1
   refine⟨_,st',Tt,Store.Has.refl st',h _ ?_⟩;simp only[true_iff];intro j hj h0;exact hall j θ h0
def yng(l:List Int)(lo hi:Int)(hl:l.length<=1000000000000)(st:Store)(R:Ja)(h:∀b:Bool,(b=true↔∀j,j<l.length->lo<=l.getD j 0/\l.getD j 0<=hi)->R (bool b) st):Jb 256 [y9 l,int lo,int hi] st R:=by
 refine Qy 28 Tryz.func256 ?_
 refine AWp.loop (σ:=Nat) ⟨λi=>[(0,.av (y9 l)),(1,.av (int lo)),(2,.av (int hi)),(7,.av (int (i:Nat)))],λ_=>[],
  λi st'=>i<=l.length/\st'=st/\∀j,j<i->lo<=l.getD j 0/\l.getD j 0<=hi,λi=>l.length-i⟩ zb ?_ ?_
 ·exact⟨0,Tv,⟨Fad _,rfl,λj hj=>θ⟩,Qbn,Tv⟩
 ·rintro i st' ⟨hi1,rfl,hall⟩;refine zh (λh1=>?_) λh1=>?_
  ·have hlt:i<l.length:=qn h1;have hget:l.getD i 0=l[i]:=by simp[hlt]
   refine⟨i,rfl,za _ (zn hlt) ?_⟩;have bad:¬(lo<=l.getD i 0/\l.getD i 0<=hi)->∀b:Bool,b=false->(b=true↔∀j,j<l.length->lo<=l.getD j 0/\l.getD j 0<=hi):=by rintro hb _ rfl;simp only[Fah,false_iff];exact λhu=>hb (hu i hlt)
   refine zh (λh2=>⟨_,st',Tt,Store.Has.refl st',h _ (bad (by rw[hget];simp at h2;omega) _ rfl)⟩) (λh2=>⟨i,rfl,za _ (zn hlt) (zh (λh3=>⟨_,st',Tt,Store.Has.refl st',h _ (bad (by rw[hget];simp at h3;omega) _ rfl)⟩) λh3=>⟨⟨θ,θ⟩,⟨i+1,?_,⟨hlt,rfl,λj hj=>?_⟩,Qbn,Tv⟩⟩)⟩)
   ·show l.length-(i+1)<l.length-i;omega
   ·by_cases hji:j=i
    ·subst hji;rw[hget];simp at h2 h3;omega
    ·exact hall j θ
  ·have hge:i=l.length:=qw h1 hi1;subst hge;refine⟨_,st',Tt,Store.Has.refl st',h _ ?_⟩;simp only[true_iff];exact hall
def f7(l:List Int)(hl:l.length<=1000000000000)(st:Store)(R:Ja)(h:∀b:Bool,(b=true↔Bh l)->R (bool b) st):Jb 171 [y9 l] st R:=by
 refine Qy 19 Tryz.func171 ?_;refine zh (λh1=>?_) (λh1=>⟨_,st,Tt,Store.Has.refl st,h _ (by unfold Bh;rw[zl]at h1;simp at h1⊢;omega)⟩);refine zh (λh2=>?_) (λh2=>⟨_,st,Tt,Store.Has.refl st,h _ (by unfold Bh;rw[zl]at h2;simp at h2⊢;omega)⟩);rw[zl]at h1 h2;simp at h1 h2;refine ybo l hl _ _ λb hb=>zh (λh3=>?_) λh3=>⟨_,st,Tt,Store.Has.refl st,h _ ?_⟩
 ·refine yng l 1 1099511627776 hl _ _ λb2 hb2=>⟨_,st,Tt,Store.Has.refl st,h _ ?_⟩;rw[hb2];unfold Bh;constructor
  ·intro h4;exact⟨θ,λj hj=>⟨h4 j hj,hb.1 h3 j hj⟩⟩
  ·intro h4 j hj;exact(h4.2 j hj).1
 ·simp only[Fah,false_iff];intro h4;have:=hb.2 λj hj h0=>(h4.2 j hj).2 h0;rw[h3]at this;cases this
def Qae{p:Prop}(h:p:=by simp only[Fah,false_iff]at hb0⊢;simp[kx,idP,hb0]):p:=h
def Qaf{p:Prop}(h:p:=by have q0:=hb0.1 rfl;rw[hb1];simp[kx,idP,q0]):p:=h
def yer(c:Cmd)(hc:c.fits)(st:Store)(R:Ja)(h:∀b:Bool,(b=true↔c.okP)->R (.tup [.agg (yh c.only),bool b]) st):Jb 157 [.agg (yh c)] st R:=by
 refine Qy 119 Tryz.func157 ?_;refine zh (λk1=>?_) λk1=>?_
 ·have k1:c.K=1:=by simpa using k1
  have fin:∀b:Bool,(b=true↔_)->R (.tup [.agg (yh _),bool b]) st:=λb hb=>h b (hb.trans (Cmd.ok1 k1).symm);rw[Cmd.only1 k1]at fin;refine Qc zb zyp (Qbq (Qbr (ygn c.N _ _ λb0 hb0=>?_)));cases b0 with
  |false=>
   refine⟨_,st,?_,Store.Has.refl st,fin false Qae⟩;exact AV.le_tupL ⟨AV.le_aggL ⟨Tt,Tt,Tt,Tt,AV.le_nil 1,Tt,Tt,Tt,Tt,Tt,Tv⟩,Tt,Tv⟩
  |true=>
   refine yd7 c.X c.Y _ _ λb1 hb1=>⟨_,st,?_,Store.Has.refl st,fin b1 Qaf⟩;exact AV.le_tupL ⟨AV.le_aggL ⟨Tt,Tt,Tt,Tt,AV.le_nil 1,Tt,Tt,Tt,Tt,Tt,Tv⟩,Tt,Tv⟩
 have k1:c.K≠1:=by simpa using k1
 refine zh (λk2=>?_) λk2=>?_
 ·have k2:c.K=2:=by simpa using k2
  have fin:∀b:Bool,(b=true↔_)->R (.tup [.agg (yh _),bool b]) st:=λb hb=>h b (hb.trans (Cmd.ok2 k2).symm);rw[Cmd.only2 k2]at fin;refine Qc zb zyo (Qbq (Qbr (W3 c.U hc _ _ λb0 hb0=>?_)));cases b0 with
  |false=>
   refine⟨_,st,?_,Store.Has.refl st,fin false Qae⟩;exact AV.le_tupL ⟨AV.le_aggL ⟨Tt,Tt,Tt,Tt,Tt,Tt,Tt,Tt,Tt,Tt,Tv⟩,Tt,Tv⟩
  |true=>
   refine Fz c.T 0 16383 _ _ λb1 hb1=>⟨_,st,?_,Store.Has.refl st,fin b1 Qaf⟩;exact AV.le_tupL ⟨AV.le_aggL ⟨Tt,Tt,Tt,Tt,Tt,Tt,Tt,Tt,Tt,Tt,Tv⟩,Tt,Tv⟩
 have k2:c.K≠2:=by simpa using k2
 refine zh (λk3=>?_) λk3=>?_
 ·have k3:c.K=3:=by simpa using k3
  have fin:∀b:Bool,(b=true↔_)->R (.tup [.agg (yh _),bool b]) st:=λb hb=>h b (hb.trans (Cmd.ok3 k3).symm);rw[Cmd.only3 k3]at fin;refine W3 c.U hc _ _ λb0 hb0=>⟨_,st,?_,Store.Has.refl st,fin b0 (hb0)⟩;exact AV.le_tupL ⟨AV.le_aggL ⟨Tt,Tt,Tt,Tt,Tt,Tt,Tt,Tt,Tt,Tt,Tv⟩,Tt,Tv⟩
 have k3:c.K≠3:=by simpa using k3
 refine zh (λk4=>?_) λk4=>?_
 ·have k4:c.K=4:=by simpa using k4
  have fin:∀b:Bool,(b=true↔_)->R (.tup [.agg (yh _),bool b]) st:=λb hb=>h b (hb.trans (Cmd.ok4 k4).symm);rw[Cmd.only4 k4]at fin;refine Qc zb zys (Qbq (Qbq (Qbr (Fz c.T 0 16383 _ _ λb0 hb0=>?_))));cases b0 with
  |false=>
   refine⟨_,st,?_,Store.Has.refl st,fin false Qae⟩;exact AV.le_tupL ⟨AV.le_aggL ⟨Tt,Tt,Tt,Tt,AV.le_nil 1,Tt,Tt,Tt,Tt,Tt,Tv⟩,Tt,Tv⟩
  |true=>
   refine Fz c.W 1 4 _ _ λb1 hb1=>?_;cases b1 with
   |false=>
    refine⟨_,st,?_,Store.Has.refl st,fin false (by simp only[Fah,false_iff]at hb1⊢;simp[kx,idP,hb1])⟩;exact AV.le_tupL ⟨AV.le_aggL ⟨Tt,Tt,Tt,Tt,AV.le_nil 1,Tt,Tt,Tt,Tt,Tt,Tv⟩,Tt,Tv⟩
   |true=>
    refine Fz c.H 1 4 _ _ (λb2 hb2=>⟨_,st,?_,Store.Has.refl st,fin b2 (by have q0:=hb0.1 rfl;have q1:=hb1.1 rfl;rw[hb2];simp[kx,idP,q0,q1])⟩);exact AV.le_tupL ⟨AV.le_aggL ⟨Tt,Tt,Tt,Tt,AV.le_nil 1,Tt,Tt,Tt,Tt,Tt,Tv⟩,Tt,Tv⟩
 have k4:c.K≠4:=by simpa using k4
 refine zh (λk5=>?_) λk5=>?_
 ·have k5:c.K=5:=by simpa using k5
  have fin:∀b:Bool,(b=true↔_)->R (.tup [.agg (yh _),bool b]) st:=λb hb=>h b (hb.trans (Cmd.ok5 k5).symm);rw[Cmd.only5 k5]at fin;refine Fz c.N 1 1099511627776 _ _ λb0 hb0=>⟨_,st,?_,Store.Has.refl st,fin b0 (hb0)⟩;exact AV.le_tupL ⟨AV.le_aggL ⟨Tt,Tt,Tt,Tt,AV.le_nil 1,Tt,Tt,Tt,Tt,Tt,Tv⟩,Tt,Tv⟩
 have k5:c.K≠5:=by simpa using k5
 refine zh (λk6=>?_) λk6=>?_
 ·have k6:c.K=6:=by simpa using k6
  have fin:∀b:Bool,(b=true↔_)->R (.tup [.agg (yh _),bool b]) st:=λb hb=>h b (hb.trans (Cmd.ok6 k6).symm);rw[Cmd.only6 k6]at fin;refine Qc zb zyr (Qbq (Qbr (W3 c.U hc _ _ λb0 hb0=>?_)));cases b0 with
  |false=>
   refine⟨_,st,?_,Store.Has.refl st,fin false Qae⟩;exact AV.le_tupL ⟨AV.le_aggL ⟨Tt,Tt,Tt,Tt,Tt,Tt,Tt,Tt,Tt,Tt,Tv⟩,Tt,Tv⟩
  |true=>
   refine Fz c.N 1 1099511627776 _ _ λb1 hb1=>⟨_,st,?_,Store.Has.refl st,fin b1 Qaf⟩;exact AV.le_tupL ⟨AV.le_aggL ⟨Tt,Tt,Tt,Tt,Tt,Tt,Tt,Tt,Tt,Tt,Tv⟩,Tt,Tv⟩
 have k6:c.K≠6:=by simpa using k6
 refine zh (λk7=>?_) λk7=>?_
 ·have k7:c.K=7:=by simpa using k7
  have fin:∀b:Bool,(b=true↔_)->R (.tup [.agg (yh _),bool b]) st:=λb hb=>h b (hb.trans (Cmd.ok7 k7).symm);rw[Cmd.only7 k7]at fin;refine Qc zb zyq (Qbq (Qbr (Fz c.N 1 1099511627776 _ _ λb0 hb0=>?_)));cases b0 with
  |false=>
   refine⟨_,st,?_,Store.Has.refl st,fin false Qae⟩;exact AV.le_tupL ⟨AV.le_aggL ⟨Tt,Tt,Tt,Tt,AV.le_nil 1,Tt,Tt,Tt,Tt,Tt,Tv⟩,Tt,Tv⟩
  |true=>
   refine Fz c.T 0 16383 _ _ λb1 hb1=>⟨_,st,?_,Store.Has.refl st,fin b1 Qaf⟩;exact AV.le_tupL ⟨AV.le_aggL ⟨Tt,Tt,Tt,Tt,AV.le_nil 1,Tt,Tt,Tt,Tt,Tt,Tv⟩,Tt,Tv⟩
 have k7:c.K≠7:=by simpa using k7
 have fin:R (.tup [.agg (yh c.only),bool false]) st:=h false (by simpa using Cmd.ok0 k1 k2 k3 k4 k5 k6 k7);rw[Cmd.only0 k1 k2 k3 k4 k5 k6 k7]at fin;refine⟨_,st,?_,Store.Has.refl st,fin⟩;exact AV.le_tupL ⟨AV.le_aggL ⟨Tt,Tt,Tt,Tt,AV.le_nil 1,Tt,Tt,Tt,Tt,Tt,Tv⟩,Tt,Tv⟩
def yeu{c:Cmd}(hc:c.fits):c.only.fits:=by
 unfold Cmd.fits at*;unfold Cmd.only;repeat' split
 all_goals first|exact hc|simp
def I3(c:Cmd)(hc:c.fits)(st:Store)(R:Ja)(h:∀b:Bool,(b=true↔js c)->R (bool b) st):Jb 112 [.agg (yh c)] st R:=by
 refine Qb (c:=cfg 168) zb Tryz.func112 ?_;have no:¬js c->R (bool false) st:=λhn=>h false (by simpa using hn);have fit:∀{o},c.only=o->c.only.fits:=λ_=>yeu hc;refine AWp.seq (AWp.of_vc zb (AWp.seq (AWp.of_vc zb ?_)))
 refine AWp.meet (σ:=Bool) ⟨λb=>[(1,.bx 1 0),(3,.bx 3 0),(4,.av (bool b))],λ_=>[(1,yh c),(3,[int c.P,int c.S,int c.K,int 0,nil,int 0,int 0,int 0,int 0,int 0])],
  λb st'=>st'=st/\(b=true↔(1<=c.P/\c.P<=8)/\(0<=c.S/\c.S<=1099511627776))⟩ zb ?_ ?_
 ·refine zh (λh1=>?_) λh1=>⟨_,⟨rfl,?_⟩,⟨Tq,Tq,Tq,Tv⟩,Qe⟩
  ·refine zh (λh2=>?_) λh2=>⟨_,⟨rfl,?_⟩,⟨Tq,Tq,Tq,Tv⟩,Qe⟩
   ·refine uj c.S 1099511627776 _ _ λb hb=>⟨_,⟨rfl,?_⟩,⟨Tq,Tq,Tq,Tv⟩,Qe⟩;rw[hb];simp at h1 h2;omega
   ·simp at h2⊢;omega
  ·simp at h1⊢;omega
 rintro b st' ⟨rfl,hb⟩;refine AWp.of_vc zb ?_;cases b with
 |false=>
  have nb:¬js c:=λhp=>by have:=hb.2 ⟨hp.2.1,hp.2.2.1⟩;cases this
  have rf:=no nb;refine zh (λk1=>?_) λk1=>?_
  ·exact Qc zb rb (Qbq (Qbr ⟨_,st',Tt,Store.Has.refl st',rf⟩))
  refine zh (λk2=>?_) λk2=>?_
  ·exact Qc zb ra (Qbq (Qbr ⟨_,st',Tt,Store.Has.refl st',rf⟩))
  refine zh (λk3=>?_) λk3=>?_
  ·exact⟨_,st',Tt,Store.Has.refl st',rf⟩
  refine zh (λk4=>?_) λk4=>?_
  ·exact Qc zb rh (Qbq (Qbq (Qbr ⟨_,st',Tt,Store.Has.refl st',rf⟩)))
  refine zh (λk5=>?_) λk5=>?_
  ·exact⟨_,st',Tt,Store.Has.refl st',rf⟩
  refine zh (λk6=>?_) λk6=>?_
  ·exact Qc zb rd (Qbq (Qbr ⟨_,st',Tt,Store.Has.refl st',rf⟩))
  refine zh (λk7=>?_) λk7=>?_
  ·exact Qc zb rc (Qbq (Qbr ⟨_,st',Tt,Store.Has.refl st',rf⟩))
  exact⟨_,st',Tt,Store.Has.refl st',rf⟩
 |true=>
 obtain⟨hP,hS⟩:=hb.1 rfl;refine zh (λk1=>?_) λk1=>?_
 ·have k1:c.K=1:=by simpa using k1
  have fin:=λb=>h b;refine Qc zb rb (Qbq (Qbr ?_));have ok:=Cmd.ok1 k1;have on:=Cmd.only1 k1;refine uj c.N 3 _ _ λb0 hb0=>?_;cases b0 with
  |false=>exact⟨_,st',Tt,Store.Has.refl st',no λhp=>θ6⟩
  |true=>
   refine yd9 c.X c.Y _ _ λb1 hb1=>?_;cases b1 with
   |false=>exact⟨_,st',Tt,Store.Has.refl st',no λhp=>ψj⟩
   |true=>
    have okp:c.okP:=ok.2 ⟨hb0.1 rfl,hb1.1 rfl⟩;have e2:=I1 c.only c (fit on) st';rw[on]at e2;refine ACalls.le ?_ (e2 _ ?_)
    ·exact⟨AV.le_aggL ⟨Tt,Tt,Tt,Tt,AV.le_nil 1,Tt,Tt,Tt,Tt,Tt,Tv⟩,Tt,Tv⟩
    rw[<-on];refine⟨_,st',Tt,Store.Has.refl st',h _ ?_⟩;rw[decide_eq_true_iff];exact⟨λe=>⟨okp,hP,hS,e⟩,λhp=>hp.2.2.2⟩
 have k1:c.K≠1:=by simpa using k1
 refine zh (λk2=>?_) λk2=>?_
 ·have k2:c.K=2:=by simpa using k2
  have fin:=λb=>h b;refine Qc zb ra (Qbq (Qbr ?_));have ok:=Cmd.ok2 k2;have on:=Cmd.only2 k2;refine f7 c.U hc _ _ λb0 hb0=>?_;cases b0 with
  |false=>exact⟨_,st',Tt,Store.Has.refl st',no λhp=>θ6⟩
  |true=>
   refine bd c.T _ _ λb1 hb1=>?_;cases b1 with
   |false=>exact⟨_,st',Tt,Store.Has.refl st',no λhp=>ψj⟩
   |true=>
    have okp:c.okP:=ok.2 ⟨hb0.1 rfl,hb1.1 rfl⟩;have e2:=I1 c.only c (fit on) st';rw[on]at e2;refine ACalls.le ?_ (e2 _ ?_)
    ·exact⟨AV.le_aggL ⟨Tt,Tt,Tt,Tt,Tt,Tt,Tt,Tt,Tt,Tt,Tv⟩,Tt,Tv⟩
    rw[<-on];refine⟨_,st',Tt,Store.Has.refl st',h _ ?_⟩;rw[decide_eq_true_iff];exact⟨λe=>⟨okp,hP,hS,e⟩,λhp=>hp.2.2.2⟩
 have k2:c.K≠2:=by simpa using k2
 refine zh (λk3=>?_) λk3=>?_
 ·have k3:c.K=3:=by simpa using k3
  have fin:=λb=>h b;have ok:=Cmd.ok3 k3;have on:=Cmd.only3 k3;refine f7 c.U hc _ _ λb0 hb0=>?_;cases b0 with
  |false=>exact⟨_,st',Tt,Store.Has.refl st',no (λhp=>by have:=hb0.2 (ok.1 hp.1);cases this)⟩
  |true=>
   have okp:c.okP:=ok.2 (hb0.1 rfl);have e2:=I1 c.only c (fit on) st';rw[on]at e2;refine ACalls.le ?_ (e2 _ ?_)
   ·exact⟨AV.le_aggL ⟨Tt,Tt,Tt,Tt,Tt,Tt,Tt,Tt,Tt,Tt,Tv⟩,Tt,Tv⟩
   rw[<-on];refine⟨_,st',Tt,Store.Has.refl st',h _ ?_⟩;rw[decide_eq_true_iff];exact⟨λe=>⟨okp,hP,hS,e⟩,λhp=>hp.2.2.2⟩
 have k3:c.K≠3:=by simpa using k3
 refine zh (λk4=>?_) λk4=>?_
 ·have k4:c.K=4:=by simpa using k4
  have fin:=λb=>h b;refine Qc zb rh (Qbq (Qbq (Qbr ?_)));have ok:=Cmd.ok4 k4;have on:=Cmd.only4 k4;refine bd c.T _ _ λb0 hb0=>?_;cases b0 with
  |false=>exact⟨_,st',Tt,Store.Has.refl st',no λhp=>θ6⟩
  |true=>
   refine zh (λw1=>zh (λw2=>zh (λw3=>zh (λw4=>?_) (λw4=>⟨_,st',Tt,Store.Has.refl st',no (λhp=>by have:=(ok.1 hp.1).2;simp at w4;omega)⟩)) (λw3=>⟨_,st',Tt,Store.Has.refl st',no (λhp=>by have:=(ok.1 hp.1).2;simp at w3;omega)⟩)) (λw2=>⟨_,st',Tt,Store.Has.refl st',no (λhp=>by have:=(ok.1 hp.1).2;simp at w2;omega)⟩)) (λw1=>⟨_,st',Tt,Store.Has.refl st',no (λhp=>by have:=(ok.1 hp.1).2;simp at w1;omega)⟩);have okp:c.okP:=ok.2 ⟨hb0.1 rfl,by simp at w1 w2;omega,by simp at w3 w4;omega⟩;have e2:=I1 c.only c (fit on) st';rw[on]at e2;refine ACalls.le ?_ (e2 _ ?_)
   ·exact⟨AV.le_aggL ⟨Tt,Tt,Tt,Tt,AV.le_nil 1,Tt,Tt,Tt,Tt,Tt,Tv⟩,Tt,Tv⟩
   rw[<-on];refine⟨_,st',Tt,Store.Has.refl st',h _ ?_⟩;rw[decide_eq_true_iff];exact⟨λe=>⟨okp,hP,hS,e⟩,λhp=>hp.2.2.2⟩
 have k4:c.K≠4:=by simpa using k4
 refine zh (λk5=>?_) λk5=>?_
 ·have k5:c.K=5:=by simpa using k5
  have fin:=λb=>h b;have ok:=Cmd.ok5 k5;have on:=Cmd.only5 k5;refine f8 c.N _ _ λb0 hb0=>?_;cases b0 with
  |false=>exact⟨_,st',Tt,Store.Has.refl st',no (λhp=>by have:=hb0.2 (ok.1 hp.1);cases this)⟩
  |true=>
   have okp:c.okP:=ok.2 (hb0.1 rfl);have e2:=I1 c.only c (fit on) st';rw[on]at e2;refine ACalls.le ?_ (e2 _ ?_)
   ·exact⟨AV.le_aggL ⟨Tt,Tt,Tt,Tt,AV.le_nil 1,Tt,Tt,Tt,Tt,Tt,Tv⟩,Tt,Tv⟩
   rw[<-on];refine⟨_,st',Tt,Store.Has.refl st',h _ ?_⟩;rw[decide_eq_true_iff];exact⟨λe=>⟨okp,hP,hS,e⟩,λhp=>hp.2.2.2⟩
 have k5:c.K≠5:=by simpa using k5
 refine zh (λk6=>?_) λk6=>?_
 ·have k6:c.K=6:=by simpa using k6
  have fin:=λb=>h b;refine Qc zb rd (Qbq (Qbr ?_));have ok:=Cmd.ok6 k6;have on:=Cmd.only6 k6;refine f7 c.U hc _ _ λb0 hb0=>?_;cases b0 with
  |false=>exact⟨_,st',Tt,Store.Has.refl st',no λhp=>θ6⟩
  |true=>
   refine f8 c.N _ _ λb1 hb1=>?_;cases b1 with
   |false=>exact⟨_,st',Tt,Store.Has.refl st',no λhp=>ψj⟩
   |true=>
    have okp:c.okP:=ok.2 ⟨hb0.1 rfl,hb1.1 rfl⟩;have e2:=I1 c.only c (fit on) st';rw[on]at e2;refine ACalls.le ?_ (e2 _ ?_)
    ·exact⟨AV.le_aggL ⟨Tt,Tt,Tt,Tt,Tt,Tt,Tt,Tt,Tt,Tt,Tv⟩,Tt,Tv⟩
    rw[<-on];refine⟨_,st',Tt,Store.Has.refl st',h _ ?_⟩;rw[decide_eq_true_iff];exact⟨λe=>⟨okp,hP,hS,e⟩,λhp=>hp.2.2.2⟩
 have k6:c.K≠6:=by simpa using k6
 refine zh (λk7=>?_) λk7=>?_
 ·have k7:c.K=7:=by simpa using k7
  have fin:=λb=>h b;refine Qc zb rc (Qbq (Qbr ?_));have ok:=Cmd.ok7 k7;have on:=Cmd.only7 k7;refine f8 c.N _ _ λb0 hb0=>?_;cases b0 with
  |false=>exact⟨_,st',Tt,Store.Has.refl st',no λhp=>θ6⟩
  |true=>
   refine bd c.T _ _ λb1 hb1=>?_;cases b1 with
   |false=>exact⟨_,st',Tt,Store.Has.refl st',no λhp=>ψj⟩
   |true=>
    have okp:c.okP:=ok.2 ⟨hb0.1 rfl,hb1.1 rfl⟩;have e2:=I1 c.only c (fit on) st';rw[on]at e2;refine ACalls.le ?_ (e2 _ ?_)
    ·exact⟨AV.le_aggL ⟨Tt,Tt,Tt,Tt,AV.le_nil 1,Tt,Tt,Tt,Tt,Tt,Tv⟩,Tt,Tv⟩
    rw[<-on];refine⟨_,st',Tt,Store.Has.refl st',h _ ?_⟩;rw[decide_eq_true_iff];exact⟨λe=>⟨okp,hP,hS,e⟩,λhp=>hp.2.2.2⟩
 have k7:c.K≠7:=by simpa using k7
 exact⟨_,st',Tt,Store.Has.refl st',no λhp=>Cmd.ok0 k1 k2 k3 k4 k5 k6 k7 hp.1⟩
def ymb(c:Cmd)(hc:c.fits)(st:Store)(R:Ja)(h:∀b:Bool,(b=true↔js c)->R (bool b) st):Jb 106 [.agg (yh c)] st R:=by
 refine Qy 65 Tryz.func106 ?_;refine yer c hc _ _ λb hb=>?_;have no:¬js c->R (bool false) st:=λhn=>h false (by simpa using hn);cases b with
 |false=>exact⟨_,st,Tt,Store.Has.refl st,no (λhp=>by have:=hb.2 hp.1;cases this)⟩
 |true=>
  refine Fz c.P 1 8 _ _ λb1 hb1=>?_;cases b1 with
  |false=>exact⟨_,st,Tt,Store.Has.refl st,no (λhp=>by have:=hb1.2 hp.2.1;cases this)⟩
  |true=>
   refine Fz c.S 0 1099511627776 _ _ λb2 hb2=>?_;cases b2 with
   |false=>exact⟨_,st,Tt,Store.Has.refl st,no (λhp=>by have:=hb2.2 hp.2.2.1;cases this)⟩
   |true=>
    have hP:c.only.P=c.P/\c.only.S=c.S/\c.only.K=c.K/\(c.only.U=c.U\/c.only.U=[]):=by
     unfold Cmd.only;repeat' split
     all_goals exact⟨rfl,rfl,rfl,φ⟩
    refine zh (λw1=>zh (λw2=>zh (λw3=>zh (λw4=>zh (λw5=>⟨_,st,Tt,Store.Has.refl st,h _ ?_⟩) (λw5=>⟨_,st,Tt,Store.Has.refl st,no (λhp=>by rw[hp.2.2.2]at w5;simp at w5)⟩)) (λw4=>⟨_,st,Tt,Store.Has.refl st,no (λhp=>by rw[hp.2.2.2]at w4;simp at w4)⟩)) (λw3=>⟨_,st,Tt,Store.Has.refl st,no (λhp=>by rw[hp.2.2.2]at w3;simp at w3)⟩)) (λw2=>⟨_,st,Tt,Store.Has.refl st,no (λhp=>by rw[hp.2.2.2]at w2;simp at w2)⟩)) (λw1=>⟨_,st,Tt,Store.Has.refl st,no (λhp=>by rw[hp.2.2.2]at w1;simp at w1)⟩);rw[zl,zl];constructor
    ·intro w6;refine⟨hb.1 rfl,hb1.1 rfl,hb2.1 rfl,?_⟩;have hU:c.only.U=c.U:=by
      rcases hP.2.2.2 with e|e
      ·exact e
      ·rw[e]at w6;simp at w6;rw[e,eq_comm,<-List.length_eq_zero_iff];omega
     simp only[beq_iff_eq,Fay,and_true]at w1 w2 w3 w4 w5;exact Cmd.eq_of hP.1 hP.2.1 hP.2.2.1 w1 hU w3 w4 w5 w2.1 w2.2
    ·intro hp;rw[hp.2.2.2];simp
section
variable {G:Store} {s p:Nat} {w:Wld} {v o0 o1 o2:AV}
def yq{i:TI}{cells row rest:List AV}{K:LV->Prop}(ha:Cr i.ty=true)(hs:i.size=row.length)(hc:cells=row++rest)(h:K (.av (.agg row))):partK i cells K:=by subst hc;unfold partK;rw[ha,cond_true,hs];have:Nat.ble row.length (row++rest).length=true:=φ;rw[this,cond_true];refine Lb ?_;rw[Fbu (Fal _),Fak];exact h
theorem xt{α:Type}{k:Nat}{f:α->List AV}(hf:∀x,(f x).length=k){l:List α}{L:List AV}{i:Nat}(hi:i<l.length):List.drop (0+i*k) ((rws f l).flatten++L)=f l[i]++((rws f (l.drop (i+1))).flatten++L):=by
 have h1:(rws f (l.take i)).flatten.length=i*k:=by rw[qr hf,Fam,Fdo θ]
 rw[Fbg,Rq hi,Faw,<-h1,List.drop_left,Faw]
def ymx{S:Store}(R:Ja)(h:∀F p,vx F p []->zk F S->R (ptr p) (F.un S)):Jb 132 [] S R:=by
 have:=ACalls.frame (a:=Store.empty) (g:=S) (λi h1=>by rcases h1 with h1|h1<;>exact absurd rfl h1) (zdo (λr a'=>∃p,r=ptr p/\vx a' p []) λa p h=>⟨p,rfl,h⟩) (R':=R) λr a' ⟨p,e,hc⟩ hd=>e▸h a' p hc hd
 rwa [xr]at this
def svC(w:Wld)(v o0 o1 o2:AV)(p:Nat):List AV:=zz w v++[o0,o1,o2,ptr p]
def svS(G:Store)(s:Nat)(w:Wld)(v o0 o1 o2:AV)(p:Nat):Store:=G.sO s (.cells (svC w v o0 o1 o2 p))
structure StandR(F G:Store)(s p:Nat)(w:Wld)(v:AV)(L:List Ent)(o0 o1 o2:AV):Prop where
 hc:vx F p L
 hd:zk F (svS G s w v o0 o1 o2 p)
 hs:G.obj s=none
 hu:RowsQ 10 zf G v w.U
 h0:Mi w 0 o0
 h1:Mi w 1 o1
 h2:Mi w 2 o2
def Bd(G:Store)(s:Nat)(w:Wld)(v o0 o1 o2:AV)(p:Nat):(svS G s w v o0 o1 o2 p).obj s=some (.cells (svC w v o0 o1 o2 p)):=zd _ _ _
def H2{u:AV}{l:List Unt}(hs:G.obj s=none)(h:RowsQ 10 zf G u l):RowsQ 10 zf (svS G s w v o0 o1 o2 p) u l:=by
 rcases h with(h|⟨b,cap,L,h1,h2,h3⟩)|h
 ·exact .inl (.inl h)
 ·refine .inl (.inr ⟨b,cap,L,h1,?_,h3⟩);have:b≠s:=λe=>by subst e;rw[hs]at h2;cases h2
  show(G.sO s _).obj b=_;rw[zj this];exact h2
 ·exact .inr h
def svS_has{i:Nat}:(svS G s w v o0 o1 o2 p).has i↔i=s\/G.has i:=by
 unfold svS Store.has;by_cases hi:i=s
 ·subst hi;simp[zd]
 ·rw[zj hi];simp[hi,Store.sO]
def ic{F:Store}{w':Wld}{v' q0 q1 q2:AV}(h:zk F (svS G s w v o0 o1 o2 p)):zk F (svS G s w' v' q0 q1 q2 p):=λi h1 h2=>h i h1 (svS_has.2 (svS_has.1 h2))
def tt(w:Wld)(v:AV)(G:Store)(hu:RowsQ 10 zf G v w.U)(hU:w.U.length<=1000000)(hn:∀u∈w.U,u.pos.ok)(R:Ja)
  (h:∀F s p L o0 o1 o2,Fresh G s->StandR F G s p w v L o0 o1 o2->L.length<=w.U.length->(yr w.U->∀e,e∈L↔∃u∈w.U,u.inn=0/\e=(u.id,u.pos))->R (ptr s) (F.un (svS G s w v o0 o1 o2 p))):Jb 80 [.agg (zz w v)] G R:=by
 obtain⟨oa,cap,hv,hget⟩:=hu.form;subst hv;refine Qa (c:=cfg 31 [9] []) zb Tryz.func80 ?_;refine Qc zb pu ?_;refine⟨ymx _ λF p hc hdF=>⟨Qe,⟨λs hs=>⟨Tv,Qbr ?_⟩,Tv⟩⟩,Tv⟩;have hs1:¬F.has s/\¬G.has s:=by have:=fresh_iff.1 hs;exact⟨λh=>this (un_has.2 (.inl h)),λh=>this (un_has.2 (.inr h))⟩
 have hsG:G.obj s=none:=(k8 hs1.2).1;have e0:(F.un G).sO s (.cells (svC w (.s (.slice oa w.U.length cap)) (.s (.slice none 0 0)) (.s (.slice none 0 0)) (.s (.slice none 0 0)) p))=F.un (svS G s w (.s (.slice oa w.U.length cap)) (.s (.slice none 0 0)) (.s (.slice none 0 0)) (.s (.slice none 0 0)) p):=by exact yd F G s _
 have h0:StandR F G s p w (.s (.slice oa w.U.length cap)) [] (.s (.slice none 0 0)) (.s (.slice none 0 0)) (.s (.slice none 0 0)):=⟨hc,λi h1 h2=>by
  rcases svS_has.1 h2 with rfl|h2
  ·exact hs1.1 h1
  ·exact hdF i h1 h2,hsG,hu,.inl rfl,.inl rfl,.inl rfl⟩
 have hsf:Fresh G s:=fresh_iff.2 hs1.2
 refine AWp.loop (σ:=Nat×Store×List Ent) ⟨λq=>[(3,.av (ptr s)),(11,.av (.s (.slice oa w.U.length cap))),(12,.av (int (w.U.length:Nat))),(13,.av (int (q.1:Nat)))],λ_=>[],
  λq st'=>st'=q.2.1.un (svS G s w (.s (.slice oa w.U.length cap)) (.s (.slice none 0 0)) (.s (.slice none 0 0)) (.s (.slice none 0 0)) p)/\StandR q.2.1 G s p w (.s (.slice oa w.U.length cap)) q.2.2 (.s (.slice none 0 0)) (.s (.slice none 0 0)) (.s (.slice none 0 0))/\q.1<=w.U.length/\q.2.2.length<=q.1/\(∀e∈q.2.2,e.2.ok)/\(yr w.U->∀e,e∈q.2.2↔∃u∈w.U.take q.1,u.inn=0/\e=(u.id,u.pos)),λq=>w.U.length-q.1⟩ zb ?_ ?_
 ·exact⟨(0,F,[]),Tv,⟨e0,h0,Fad _,Fal _,λe he=>(by cases he),λ_ e=>φ⟩,Qbn,Tv⟩
 rintro⟨i,F1,L⟩ st' ⟨rfl,hS,hi,hL,hok,hmem⟩;dsimp only at hS hi hL hok hmem⊢;refine bcd (λh1=>?_) λh1=>?_;rotate_left
 ·have:i=w.U.length:=θ;subst this;rw[Fak]at hmem;exact ret (h F1 s p L _ _ _ hsf hS hL hmem)
 have hlt:i<w.U.length:=θ;obtain⟨b,J,rfl,hob0⟩:=hget i hlt;have hbs:b≠s:=λe=>by subst e;rw[hsG]at hob0;cases hob0
 have hob:(F1.un (svS G s w (.s (.slice (some ⟨b,0,none⟩) w.U.length cap)) (.s (.slice none 0 0)) (.s (.slice none 0 0)) (.s (.slice none 0 0)) p)).obj b=some (.cells ((rws zf w.U).flatten++J)):=zg (by show(G.sO s _).obj b=_;rw[zj hbs];exact hob0);refine⟨i,rfl,hlt,zoo hob (yq (i:=ti36) (row:=zf w.U[i]) rfl rfl (xt yn hlt) ?_)⟩;have hn2:=hn w.U[i] (Faa hlt);refine zt (λc1=>?_) λc1=>?_
 ·refine Qc zb pt (zoo (zg (Bd G s w _ _ _ _ p)) ⟨i9 hS.hc hS.hd θ hok w.U[i].id w.U[i].pos hn2 _ λF2 h2 h3=>⟨Tv,?_⟩,Tv⟩);have hlen:(qx L w.U[i].id++[(w.U[i].id,w.U[i].pos)]).length<=i+1:=by
   rw[Fae];have:(qx L w.U[i].id).length<=L.length:=Fbk _ _;simp only[Fao];omega
  refine Qd ⟨(i+1,F2,_),?_,⟨rfl,⟨h2,h3,hsG,hu,.inl rfl,.inl rfl,.inl rfl⟩,ζ,hlen,λe he=>?_,λhr e=>?_⟩,⟨Tq,Tq,Tq,Tq,Tv⟩,Tv⟩
  ·show w.U.length-(i+1)<w.U.length-i;omega
  ·rcases Fat.1 he with he|he
   ·exact hok e (mem_dropId.1 he).1
   ·simp at he;subst he;exact hn2
  ·dsimp only;rw[Fab hlt,Fat,mem_dropId,hmem hr e];constructor
   ·rintro(⟨⟨u,hu,h4⟩,_⟩|he)
    ·exact⟨u,Fat.2 (.inl hu),h4⟩
    ·simp at he;exact⟨w.U[i],Fat.2 (.inr φ),c1,he⟩
   ·rintro⟨u,hu,h4,h5⟩;rcases Fat.1 hu with hu|hu
    ·refine .inl ⟨⟨u,hu,h4,h5⟩,?_⟩;obtain⟨j,hj,rfl⟩:=Fai hu;rw[Fam]at hj;rw[Fdt]at h5;have:=Rx hr (a:=j) (b:=i) θ hlt;subst h5;show w.U[j].id≠w.U[i].id;omega
    ·simp at hu;subst hu;exact .inr (by simp[h5])
 ·refine Qd ⟨(i+1,F1,L),?_,⟨rfl,hS,ζ,ζ,hok,λhr e=>?_⟩,Qbn,Tv⟩
  ·show w.U.length-(i+1)<w.U.length-i;omega
  ·dsimp only;rw[hmem hr e,Fab hlt];constructor
   ·rintro⟨u,hu,h3⟩;exact⟨u,Fat.2 (.inl hu),h3⟩
   ·rintro⟨u,hu,h3,h4⟩;rcases Fat.1 hu with hu|hu
    ·exact⟨u,hu,h3,h4⟩
    ·simp at hu;subst hu;exact absurd h3 c1
end
section
variable {F G:Store} {s p:Nat} {w:Wld} {v o0 o1 o2:AV}
def zt5{L:List Ent}(hS:StandR F G s p w v L o0 o1 o2)(hg:zw w.G)(hB:w.B.length<=1000000000000)(hb:∀b∈w.B,yi b/\onP w.G b)(c:Int)(hc:c=0\/c=1\/c=2)(R:Ja)
  (h:∀q0 q1 q2,StandR F G s p w v L q0 q1 q2->R (opV w.G w.B c) (F.un (svS G s w v q0 q1 q2 p))):Jb 136 [ptr s,int c] (F.un (svS G s w v o0 o1 o2 p)) R:=by
 have ho:=zg (a:=F) (Bd G s w v o0 o1 o2 p);obtain⟨x0,y0,hne0⟩:=Dq hg w.B 0;obtain⟨x1,y1,hne1⟩:=Dq hg w.B 1;obtain⟨x2,y2,hne2⟩:=Dq hg w.B 2;rcases hc with rfl|rfl|rfl
 ·rcases hS.h0 with e|e
  ·subst e;refine Qy 35 Tryz.func136 ?_;refine⟨0,rfl,ψ,zoo ho (Qc zb Md (zoo ho (zoo ho ⟨Li w.G hg w.B hB hb 0 _ _ ⟨Tv,⟨0,rfl,ψ,?_⟩⟩,Tv⟩)))⟩;have ho2:=zg (a:=F) (Bd G s w v (opV w.G w.B 0) o1 o2 p);have hc2:=Nd (Dq hg w.B 0);refine⟨za _ rfl (j3 rfl (ju (v:=opV w.G w.B 0) rfl rfl rfl rfl (yu (i:=ti88) (v:=opV w.G w.B 0) (b:=s) (o:=0+8+0*ti88.size) (l:=svC w v _ o1 o2 p) (st2:=F.un (svS G s w v (opV w.G w.B 0) o1 o2 p)) hc2.1 hc2.2 rfl ho (show 8+1<=12 by decide) ?_ ?_))),Tv⟩
   ·rw[yd];unfold svS;rw[yy];rfl
   exact⟨Tv,⟨0,rfl,ψ,zoo ho2 (ret (h _ _ _ ⟨hS.hc,ic hS.hd,hS.hs,hS.hu,.inr rfl,hS.h1,hS.h2⟩))⟩⟩
  ·rw[hne0]at e;subst e;refine Qy 35 Tryz.func136 ?_;refine⟨0,rfl,ψ,zoo ho λbb hbb=>?_⟩;have hbf:bb=false:=by grind
   subst hbf;refine⟨0,rfl,ψ,zoo ho (ret ?_)⟩;have:=h _ _ _ hS;rw[hne0]at this;exact this
 ·rcases hS.h1 with e|e
  ·subst e;refine Qy 35 Tryz.func136 ?_;refine⟨1,rfl,ψ,zoo ho (Qc zb Md (zoo ho (zoo ho ⟨Li w.G hg w.B hB hb 1 _ _ ⟨Tv,⟨1,rfl,ψ,?_⟩⟩,Tv⟩)))⟩;have ho2:=zg (a:=F) (Bd G s w v o0 (opV w.G w.B 1) o2 p);have hc2:=Nd (Dq hg w.B 1);refine⟨za _ rfl (j3 rfl (ju (v:=opV w.G w.B 1) rfl rfl rfl rfl (yu (i:=ti88) (v:=opV w.G w.B 1) (b:=s) (o:=0+8+1*ti88.size) (l:=svC w v o0 _ o2 p) (st2:=F.un (svS G s w v o0 (opV w.G w.B 1) o2 p)) hc2.1 hc2.2 rfl ho (show 9+1<=12 by decide) ?_ ?_))),Tv⟩
   ·rw[yd];unfold svS;rw[yy];rfl
   exact⟨Tv,⟨1,rfl,ψ,zoo ho2 (ret (h _ _ _ ⟨hS.hc,ic hS.hd,hS.hs,hS.hu,hS.h0,.inr rfl,hS.h2⟩))⟩⟩
  ·rw[hne1]at e;subst e;refine Qy 35 Tryz.func136 ?_;refine⟨1,rfl,ψ,zoo ho λbb hbb=>?_⟩;have hbf:bb=false:=by grind
   subst hbf;refine⟨1,rfl,ψ,zoo ho (ret ?_)⟩;have:=h _ _ _ hS;rw[hne1]at this;exact this
 ·rcases hS.h2 with e|e
  ·subst e;refine Qy 35 Tryz.func136 ?_;refine⟨2,rfl,ψ,zoo ho (Qc zb Md (zoo ho (zoo ho ⟨Li w.G hg w.B hB hb 2 _ _ ⟨Tv,⟨2,rfl,ψ,?_⟩⟩,Tv⟩)))⟩;have ho2:=zg (a:=F) (Bd G s w v o0 o1 (opV w.G w.B 2) p);have hc2:=Nd (Dq hg w.B 2);refine⟨za _ rfl (j3 rfl (ju (v:=opV w.G w.B 2) rfl rfl rfl rfl (yu (i:=ti88) (v:=opV w.G w.B 2) (b:=s) (o:=0+8+2*ti88.size) (l:=svC w v o0 o1 _ p) (st2:=F.un (svS G s w v o0 o1 (opV w.G w.B 2) p)) hc2.1 hc2.2 rfl ho (show 10+1<=12 by decide) ?_ ?_))),Tv⟩
   ·rw[yd];unfold svS;rw[yy];rfl
   exact⟨Tv,⟨2,rfl,ψ,zoo ho2 (ret (h _ _ _ ⟨hS.hc,ic hS.hd,hS.hs,hS.hu,hS.h0,hS.h1,.inr rfl⟩))⟩⟩
  ·rw[hne2]at e;subst e;refine Qy 35 Tryz.func136 ?_;refine⟨2,rfl,ψ,zoo ho λbb hbb=>?_⟩;have hbf:bb=false:=by grind
   subst hbf;refine⟨2,rfl,ψ,zoo ho (ret ?_)⟩;have:=h _ _ _ hS;rw[hne2]at this;exact this
def yje(cs:List Value):flat (.tup (cs.map AV.s)):=by
 intro w T w' T' v h;cases h with
 |tup _ c hl h=>
  refine .tup _ c hl λi x y hx hy=>?_;rw[Far]at hx;cases hc:cs[i]? with
  |none=>rw[hc]at hx;cases hx
  |some z=>
   rw[hc]at hx;cases hx;have:=h i (.s z) y δ hy;cases this;exact .s _
def Wc{g:Store}{l:List Unt}(hv:RowsQ 10 zf g v l)(hl:l.length<=1000000000000)(hr:yr l)(id:Int)(R:Ja)
  (h:∀i,Mq l id i->∀z:Bool,(z=true↔∃hi:i<l.length,l[i].id=id)->R (.tup [int (i:Nat),V.bool z]) g):Jb 41 [v,int id] g R:=
 ACalls.read (ys:=[lst 10 zf l,int id]) (Q:=λr=>∃(i:Nat) (z:Bool),r=.tup [int (i:Nat),V.bool z]/\Mq l id i/\(z=true↔∃hi:i<l.length,l[i].id=id)) (λOth M W vs sto hr=>by obtain⟨x,y,rfl,h1,h2⟩:=Fc hr;exact Reads.cons (hv.borrow yn P3 sto h1) (Reads.cons (qv h2) Reads.nil)) (lg l hl hr id _ _ λi hi z hz=>⟨i,z,rfl,hi,hz⟩) (λr ⟨i,z,e,_⟩=>e▸yje [_,_]) λr ⟨i,z,e,hi,hz⟩=>e▸h i hi z hz
def o7{L:List Ent}(hS:StandR F G s p w v L o0 o1 o2)(hr:yr w.U)(hU:w.U.length<=1000000)(hn:∀u∈w.U,u.pos.ok)(hLl:L.length<=w.U.length)(hL:Dr w L)(q:Vc)(hq:q.ok)(r:Int)(hrr:0<r/\r<=262144)(R:Ja)
  (h:∀F' us,StandR F' G s p w v L o0 o1 o2->K0 w q (r+81920) us->(us.map (·.id)).Pairwise (·<·)->us.length<=1000000->R (lst 10 zf us) (F'.un (svS G s w v o0 o1 o2 p))):Jb 137 [ptr s,.agg (zu q),int r] (F.un (svS G s w v o0 o1 o2 p)) R:=by
 have ho:=zg (a:=F) (Bd G s w v o0 o1 o2 p);refine Qy 47 Tryz.func137 ?_;refine Qc zb p8 (zoo ho ?_);refine Qd ?_;refine⟨zdu hS.hc hS.hd θ (Kw hL hn) hq (r:=r+81920) ⟨θ,θ⟩ _ λF' N nv ns g1 g2 g3 g4 g5 g6=>⟨Tv,?_⟩,Tv⟩;have hS':StandR F' G s p w v L o0 o1 o2:=⟨g1,g3,hS.hs,hS.hu,hS.h0,hS.h1,hS.h2⟩
 have ho':((F'.un N).un (svS G s w v o0 o1 o2 p)).obj s=some (.cells (svC w v o0 o1 o2 p)):=zg (Bd G s w v o0 o1 o2 p);have g4':zk (F'.un N) (svS G s w v o0 o1 o2 p):=disj_un.2 ⟨g3,g4⟩;have hv:∃oa cap,nv=.s (.slice oa ns.length cap)/\∀i,i<ns.length->∃b J,oa=some ⟨b,0,none⟩/\((F'.un N).un (svS G s w v o0 o1 o2 p)).obj b=some (.cells (ns.map aI++J)):=by
  rcases O3 g5 with⟨rfl,rfl⟩|⟨b,cap,J,rfl,hob,_⟩
  ·grind
  simp_all[yg,zg]
 obtain⟨oa,cap,rfl,hget⟩:=hv;have hrow:RowsQ 10 zf ((F'.un N).un (svS G s w v o0 o1 o2 p)) v w.U:=(H2 hS.hs hS.hu).un;have hnl:ns.length<=w.U.length:=by have:=Fbs (l₂:=L.map (·.1)) (g6.1.imp λh=>θ) (λid hid=>by obtain⟨e,he,h2,_⟩:=(g6.2 id).1 hid;grind);grind
 have hfin:∀us:List Unt,us.map (·.id)=ns->(∀u∈us,u∈w.U/\u.inn=0)->R (lst 10 zf us) (F'.un (svS G s w v o0 o1 o2 p)):=λus e1 e2=>
  h F' us hS' (ul hr hL g6 e1 e2) (by rw[e1];exact g6.1) δ
 have hback:=zbg (S:=svS G s w v o0 o1 o2 p) g2;generalize(F'.un N).un (svS G s w v o0 o1 o2 p)=st1 at*
 refine AWp.loop (σ:=Nat×AV×List Unt) ⟨λx=>[(0,.av (ptr s)),(6,.av x.2.1),(18,.av (.s (.slice oa ns.length cap))),(19,.av (int (ns.length:Nat))),(20,.av (int (x.1:Nat)))],λ_=>[],
  λx st'=>x.1<=ns.length/\App 10 st1 x.2.1 (rws zf x.2.2) st'/\x.2.2.map (·.id)=ns.take x.1/\∀u∈x.2.2,u∈w.U/\u.inn=0,λx=>ns.length-x.1⟩ zb ?_ ?_
 ·exact⟨(0,_,[]),Tv,⟨Fad _,App.start 10 st1,rfl,λu hu=>(by cases hu)⟩,⟨Tq,Tq,Tq,Tq,Tq,Tv⟩,Tv⟩
 rintro⟨i,v2,us⟩ st' ⟨hi,ha,hus,hin⟩;dsimp only at hi ha hus hin⊢;refine bcd (λh1=>?_) λh1=>?_;rotate_left
 ·have:i=ns.length:=θ;subst this;rw[Fak]at hus;exact⟨_,_,AV.le_trans ha.le (Tt),ha.has.trans hback,hfin us hus hin⟩
 have hlt:i<ns.length:=θ;obtain⟨b,J,rfl,hob⟩:=hget i hlt;have hob':st'.obj b=some (.cells (ns.map aI++J)):=by rw[ha.obj];exact hob
 have hrow':RowsQ 10 zf st' v w.U:=by exact hrow.sub λ_ _ _ _=>by rw[ha.obj]
 have hos:st'.obj s=some (.cells (svC w v o0 o1 o2 p)):=by rw[ha.obj];exact ho'
 refine⟨i,rfl,hlt,Qbs ?_⟩;refine za (o:=List.head? _) (int ns[i]) ψy ?_;refine Qbs (Wc hrow' θ hr ns[i] _ λk hk z hz=>?_);obtain⟨e,he,hid,_⟩:=(g6.2 ns[i]).1 (Faa hlt);obtain⟨u,hu,hu0,rfl⟩:=(hL e).1 he;have hfound:∃hk2:k<w.U.length,w.U[k].id=ns[i]:=by
  obtain⟨j,hj,rfl⟩:=Fai hu;have h5:j>=k:=Decidable.byContradiction λhn2=>by have:=hk.2.1 j hj θ;grind
  have h7:k<w.U.length:=θ;refine⟨h7,?_⟩;have h8:=hk.2.2 k h7 (Fal _);have h6:(w.U[j]).id=ns[i]:=hid;by_cases e:k=j
  ·subst e;exact h6
  ·have:=Gb hr (show k<j by omega) hj;omega
 obtain⟨hk2,hk3⟩:=hfound;refine Qbs ?_;obtain⟨oa2,cap2,hv2,hget2⟩:=hrow'.form;obtain⟨b2,J2,rfl,hob2⟩:=hget2 k hk2;subst hv2;refine⟨k,rfl,hk2,Qbs (yq (i:=ti36) (row:=zf w.U[k]) rfl rfl (xt yn hk2) ?_)⟩;refine⟨ψ,?_⟩;have hul:us.length=i:=by have:=congrArg List.length hus;grind
 refine Ba (ie:=ti36) (rows':=[zf w.U[k]]) ha ?_ ?_ ⟨?_,?_⟩ λv3 st3 ha3=>?_
 ·rfl
 ·rfl
 ·simp only[zl,Fao,ti36];omega
 ·grind[zl]
 refine Qd ?_;have huk:w.U[k]=u:=H9 hr (Faa hk2) hu (by rw[hk3];exact hid.symm);refine⟨(i+1,v3,us++[w.U[k]]),?_,⟨ζ,?_,?_,λu2 hu2=>?_⟩,Qbn,Tv⟩
 ·grind
 ·dsimp only;unfold rws at ha3⊢;rw[Fa8];exact ha3
 ·simp_all
 grind
def o8{L:List Ent}(hS:StandR F G s p w v L o0 o1 o2)(hr:yr w.U)(hU:w.U.length<=1000000)(hn:∀u∈w.U,u.pos.ok)(hLl:L.length<=w.U.length)(hL:Dr w L)(q:Vc)(hq:q.ok)(r:Int)(hrr:0<r/\r<=262144)(R:Ja)
  (h:∀F' us,StandR F' G s p w v L o0 o1 o2->K0 w q (r+81920) us->us.length<=1000000->R (lst 10 zf us) (F'.un (svS G s w v o0 o1 o2 p))):Jb 137 [ptr s,.agg (zu q),int r] (F.un (svS G s w v o0 o1 o2 p)) R:=
 o7 hS hr hU hn hLl hL q hq r hrr R λF' us a b _ d=>h F' us a b d
def bu{L:List Ent}(hS:StandR F G s p w v L o0 o1 o2)(hg:zw w.G)(hB:w.B.length<=1000000000000)(hb:∀b∈w.B,yi b/\onP w.G b)(hr:yr w.U)(hU:w.U.length<=1000000)(hn:∀u∈w.U,u.pos.ok)(hLl:L.length<=w.U.length)(hL:Dr w L)
  (id k:Int) (q:Vc) (hq:q.ok) (R:Ja)
  (h:∀z F' q0 q1 q2,(z=true↔qh w id k q)->StandR F' G s p w v L q0 q1 q2->R (V.bool z) (F'.un (svS G s w v q0 q1 q2 p))):Jb 81 [ptr s,int id,int k,.agg (zu q)] (F.un (svS G s w v o0 o1 o2 p)) R:=by
 have ho:=zg (a:=F) (Bd G s w v o0 o1 o2 p);have hk:=Bm k;have hc:=Gk k;refine Qy 56 Tryz.func81 ?_;refine kj k _ _ ?_;refine Qc zb pr (zoo ho ?_);refine⟨zt5 hS hg hB hb (yl k) hc _ λa0 a1 a2 hS1=>⟨?_,?_⟩,Tv⟩
 ·have ho1:=zg (a:=F) (Bd G s w v a0 a1 a2 p);repeat(first|exact Tv|refine⟨rfl,?_⟩|refine⟨zoo ho1 rfl,?_⟩)
 refine⟨zb0 w.G hg w.B (yl k) q hq (z6 k) ⟨hk.1,θ⟩ _ _ λz hz=>⟨Tv,ye (zh (λc1=>?_) λc1=>ret (h false _ _ _ _ ψz hS1))⟩,Tv⟩;have hfree:=hz.1 c1;refine o8 hS1 hr hU hn hLl hL q hq (z6 k) ⟨hk.1,θ⟩ _ λF' us hS2 hus hul=>?_;have hci:=zdi (id:=id) hfree hus;have no:¬qh w id k q->R (V.bool false) (F'.un (svS G s w v a0 a1 a2 p)):=λhh=>h false _ _ _ _ θ5 hS2
 refine AWp.loop (σ:=Nat) ⟨λi=>[(1,.av (int id)),(7,.bx 7 0),(9,.bx 9 0),(32,.av (lst 10 zf us)),(33,.av (int (us.length:Nat))),(34,.av (int (i:Nat)))],λ_=>[(7,zu q),(9,C7 k)],
  λi st'=>st'=F'.un (svS G s w v a0 a1 a2 p)/\i<=us.length/\∀j,(hj:j<us.length)->j<i->us[j].id≠id->vr q (z6 k) us[j].pos (z6 us[j].kind)=true,λi=>us.length-i⟩ zb ?_ ?_
 ·refine⟨0,Tv,⟨rfl,Fad _,λj _ hj=>θ⟩,⟨Tq,Tq,Tq,Tq,?_,Tq,Tv⟩,⟨rfl,rfl,Tv⟩⟩;rw[<-zl (f:=zf) us];exact Tq
 rintro i st' ⟨rfl,hi,hall⟩;refine bcd (λh1=>?_) λh1=>?_;rotate_left
 ·refine ret (h true _ _ _ _ ψ0 hS2)
 have hlt:i<us.length:=θ;have hui:=(hus us[i]).1 (Faa hlt);have next:(us[i].id≠id->vr q (z6 k) us[i].pos (z6 us[i].kind)=true)->∀j,(hj:j<us.length)->j<i+1->us[j].id≠id->vr q (z6 k) us[j].pos (z6 us[j].kind)=true:=λhh j hj hji=>by
  by_cases e:j=i
  ·subst e;exact hh
  ·exact hall j hj θ
 refine⟨i,rfl,za _ (zn hlt) (Qc zb pq (qd (λc2=>?_) λc2=>?_))⟩
 ·refine⟨kj us[i].kind _ _ ⟨Qe,?_⟩,Tv⟩;have hk2:=Bm us[i].kind;refine⟨zek q (z6 k) us[i].pos (z6 us[i].kind) hq (hn _ hui.1.1) ⟨hk.1,θ⟩ ⟨hk2.1,θ⟩ _ _ ⟨Tv,ye (zh (λc3=>?_) λc3=>?_)⟩,Tv⟩
  ·refine Qd ⟨i+1,?_,⟨rfl,θ,next λ_=>c3⟩,Qbn,⟨rfl,rfl,Tv⟩⟩;show us.length-(i+1)<us.length-i;omega
  ·refine ret (no λhh=>?_);have:=hci.1 hh us[i] (Faa hlt) c2;rw[this]at c3;cases c3
 ·refine Qbq (Qbr (Qd ⟨i+1,?_,⟨rfl,θ,next λhne=>absurd c2 hne⟩,Qbn,⟨rfl,rfl,Tv⟩⟩));show us.length-(i+1)<us.length-i;omega
end
section
variable {S:Store} {w:Wld} {v:AV}
def sj(hv:RowsQ 10 zf S v w.U)(hm:MayF w)(hn:∀u∈w.U,u.pos.ok)(id k:Int)(hkk:kr k)(q:Vc)(hq:q.ok)(R:Ja)
  (h:∀z:Bool,(z=true↔qh w id k q)->R (V.bool z) S):Jb 47 [.agg (zz w v),int id,int k,.agg (zu q)] S R:=
 ACalls.read (ys:=[.agg (zp w),int id,int k,.agg (zu q)]) (Q:=λr=>∃z:Bool,r=V.bool z/\(z=true↔qh w id k q)) (λOth M W vs sto hr=>by
  obtain⟨hl,h2⟩:=hr
  match vs,hl with
  |[a,b,c,d],_=>exact Reads.cons (Dh hv sto (h2 0 _ a rfl rfl)) (Reads.cons (qv (h2 1 _ b rfl rfl)) (Reads.cons (qv (h2 2 _ c rfl rfl)) (Reads.cons (qv (h2 3 _ d rfl rfl)) Reads.nil))))
  (dc w hm.hg (by have:=hm.hB;omega) hm.hb (by have:=hm.hU;omega) hn hm.hk id k hkk q hq _ _ λz hz=>⟨z,rfl,hz⟩) (λr ⟨z,e,_⟩=>e▸Cu _) λr ⟨z,e,hz⟩=>e▸h z hz
def yas{p:Nat}(hp:S.obj p=some (.cells (zz w v)))(hv:RowsQ 10 zf S v w.U)(hoff:xz v p)(hm:MayF w)(hn:∀u∈w.U,u.pos.ok)(c:Cmd)(hkk:kr c.N)(hq:Vc.ok (c.X,c.Y))(R:Ja)
  (h:∀S',spE w c≠0->R (int (spE w c)) S') (h0:spE w c=0->∀S' v',S'.obj p=some (.cells (zz (spW w c) v'))->RowsQ 10 zf S' v' (spW w c).U->R (int 0) S'):Jb 113 [ptr p,.agg (yh c)] S R:=by
 obtain⟨oa,cap,e,hget⟩:=hv.form;subst e;have hU:=hm.hU;have hn2:=hm.hn2;have hn1:=hm.hn1;refine Qy 54 Tryz.func113 ?_;refine Qbs (bcd (λc1=>?_) λc1=>?_)
 ·have hf:Fq w:=.inl θ;have he:spE w c=4:=by unfold spE;rw[if_pos hf]
  have:=h S θa;rw[he]at this;exact ret this
 refine Qbs (bcd (λc2=>?_) λc2=>?_)
 ·have hf:Fq w:=.inr θ;have he:spE w c=4:=by unfold spE;rw[if_pos hf]
  have:=h S θa;rw[he]at this;exact ret this
 have hf:¬Fq w:=λhh=>by rcases hh with hh|hh<;>omega
 refine Qc zb zz8 (Qbs ?_);refine⟨sj hv hm hn 0 c.N hkk (c.X,c.Y) hq _ λz hz=>⟨Tv,ye (zh (λc3=>?_) λc3=>?_)⟩,Tv⟩;rotate_left
 ·have hncl:¬qh w 0 c.N (c.X,c.Y):=λhh=>by have:=hz.2 hh;rw[this]at c3;cases c3
  have he:spE w c=5:=by unfold spE;rw[if_neg hf,if_neg hncl]
  have:=h S θa;rw[he]at this;exact ret this
 have he:spE w c=0:=by unfold spE;rw[if_neg hf,if_pos (hz.1 c3)]
 refine Qc zb zz7 (Qbs (Qbs ?_));refine⟨ψ,⟨ww (ie:=ti36) rfl yn ψ hv (spU w c) rfl θ λb cap2 L q1 q2 q3 q4=>⟨Tv,?_⟩,Tv⟩⟩;have hbp:b≠p:=by
  rcases q1 with q1|⟨c0,q0,q1⟩
  ·exact q1.ne_obj hp
  ·exact hoff b _ _ q1 q0
 have hp2:(S.sO b (.cells ((rws zf (w.U++[spU w c])).flatten++L))).obj p=some (.cells (zz w (.s (.slice oa w.U.length cap)))):=by rw[zj (Ne.symm hbp)];exact hp
 have hr2:RowsQ 10 zf (S.sO b (.cells ((rws zf (w.U++[spU w c])).flatten++L))) (.s (.slice (some ⟨b,0,none⟩) (w.U++[spU w c]).length cap2)) (w.U++[spU w c]):=.inl (.inr ⟨b,cap2,L,rfl,zd _ _ _,q2,q3,q4⟩);generalize S.sO b _=S2 at hp2 hr2⊢;generalize hv2:(.s (.slice (some ⟨b,0,none⟩) (w.U++[spU w c]).length cap2):AV)=v2 at*;have hoff2:xz v2 p:=by rw[<-hv2];intro b' n' c' e _;simp only[AV.s.injEq,Value.slice.injEq,Faj,Addr.mk.injEq]at e;exact e.1.1▸hbp
 subst hv2;refine⟨za _ rfl (j3 rfl (ju (v:=.s (.slice (some ⟨b,0,none⟩) (w.U++[spU w c]).length cap2)) rfl rfl rfl rfl (xo (i:=ti26) (v:=.s (.slice (some ⟨b,0,none⟩) (w.U++[spU w c]).length cap2)) (b:=p) (o:=7) (l:=zz w (.s (.slice oa w.U.length cap))) rfl rfl rfl hp2 (show 7+1<=8 by decide) ?_))),Tv⟩;have e3:zv (zz w (.s (.slice oa w.U.length cap))) 7 [.s (.slice (some ⟨b,0,none⟩) (w.U++[spU w c]).length cap2)]=zz w (.s (.slice (some ⟨b,0,none⟩) (w.U++[spU w c]).length cap2)):=rfl;rw[e3];have hr3:=hr2.set hoff2 (.cells (zz w (.s (.slice (some ⟨b,0,none⟩) (w.U++[spU w c]).length cap2))));have hp3:(S2.sO p (.cells (zz w (.s (.slice (some ⟨b,0,none⟩) (w.U++[spU w c]).length cap2))))).obj p=some (.cells (zz w (.s (.slice (some ⟨b,0,none⟩) (w.U++[spU w c]).length cap2)))):=zd _ _ _;generalize S2.sO p _=S3 at hr3 hp3⊢;refine⟨Tv,Qbs ?_⟩;exact Qd (xo (i:=ti2) (v:=int (w.next+1)) (b:=p) (o:=2) (l:=zz w (.s (.slice (some ⟨b,0,none⟩) (w.U++[spU w c]).length cap2))) rfl rfl rfl hp3 (show 2+1<=8 by decide) (ret (h0 he _ _ (zd _ _ _) (hr3.set hoff2 _))))
end
end Go.Proofs
