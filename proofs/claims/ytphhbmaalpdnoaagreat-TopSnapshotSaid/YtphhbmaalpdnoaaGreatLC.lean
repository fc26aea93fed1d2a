/- Ground of laws of throngtop: contracts and plain lemmas; no condition beyond the row's own. -/
import Derived.Test.YtphhbmaalpdnoaaGreatLB
set_option linter.unusedSimpArgs false
set_option linter.unusedVariables false
set_option linter.defProp false
namespace Go.Proofs
open Go Go.V
set_option maxRecDepth 20000
set_option maxHeartbeats 4000000
theorem zbq{id n d:Int}(hn:1<=n/\n<=8)(hid:1<=id/\id<=n):Ci (xu id n d)↔1<=d/\d<=8:=by
 refine⟨λh=>h.1.2.2.1,λhd=>?_⟩;have hl:0<(List.replicate n.toNat (d-1)).length:=by rw[Fa5];omega
 have h1:=List.eq_of_mem_replicate (zb9 hl);have h2:=List.eq_of_mem_replicate (yjx hl);have hc:countsP (xu id n d) (List.replicate n.toNat (d-1)):=by
  refine⟨λj hj=>?_,?_,λh=>?_⟩
  ·rw[Fdk];show d-1<=d-1/\d-1<=0+16/\d-1<=maxT;unfold maxT;omega
  ·rw[Fa5];show _=n;omega
  ·rw[Fdk];rfl
 have e:xu id n d=⟨id,n,d,0,d-1,[],[],List.replicate n.toNat (d-1),List.replicate n.toNat (d-1),[],false⟩:=by unfold xu;rw[if_pos hn]
 rw[e]at hc⊢;unfold maxT at*;refine⟨⟨hn,hid,hd,Fcj 0,(show(0:Int)<=1099511627776 by decide)⟩,⟨Fcj _,?_,?_⟩,hc,hc,?_,?_,(show(0:Nat)<=16 by decide),(show((0:Nat):Int)<=0 by decide),⟨?_,λj hj=>absurd hj (Fa3 j)⟩,?_,λj hj=>absurd hj (Fa3 j)⟩
 ·show d-1<=0+d-1;omega
 ·show d-1<=1099511627776;omega
 ·show(0:Int)-1<=Dj (List.replicate n.toNat (d-1));omega
 ·show Gq (List.replicate n.toNat (d-1))<=d-1;omega
 ·show((0:Nat):Int)=d-1-Dj (List.replicate n.toNat (d-1));omega
 ·exact λj hj=>absurd hj (Fa3 j)
def mkP(room:Int)(s:Nat)(X:List One)(vp:AV):List (Store->Prop):=
 [Bm s [vp,nil,nil,nil,nil,nil,nil],TokR 1 vp (X.map λo=>[ptr o.q]),Sp (X.map λo=>Bm o.q (yx o.p++[ptr o.eb])),Sp (X.map λo=>EngR o.eb room o.k o.w)]
def gz(g:Gnd)(n d:Int)(i:Nat)(o:One):Prop:=o.p=xu ((i+1:Nat):Int) n d/\o.w=Hf g n/\o.h=[]/\o.k=0/\o.vh=.s (.slice none 0 0)
theorem zy5(g:Gnd)(hg:g.fits)(hT:g.T.length<=1000000)(n d room:Int)(hn:yg n)(hd:-1000000<=d/\d<=1000000)(hr:1<=room/\room<=4096)(rows:List (List AV))(hl:rows.length<=400)(hr5:∀row∈rows,∃(x1 x2 x3 x4:Int) (y:AV),row=[int x1,int x2,int x3,int x4,y]/\(y=nil\/∃l,y=lst 10 yz l))
  (Inv:Nat->List One->AV->List Nte->List Frm->Prop) (hI0:∀X:List One,Bv g n->(1<=d/\d<=8)->(X.length:Int)=n->(∀i,(hi:i<X.length)->gz g n d i X[i])->Inv 0 X nil [] [])
  (hIw:∀i X vm m log,Inv i X vm m log->(X.length:Int)=n/\(∀o∈X,playW o.w)/\log.length<=1000000)
  (hact:∀i,(hi:i<rows.length)->∀s hb X vp vm vl m log S,Inv i X vm m log->Sp (q9 room s hb X vp vm nil nil nil vl m log [] [] []) S->
   Jb 91 [ptr s,.agg rows[i]] S λr S'=>r=.tup []/\∃X' vp' vm' vl' m' log',Inv (i+1) X' vm' m' log'/\Sp (q9 room s hb X' vp' vm' nil nil nil vl' m' log' [] [] []) S'):
  Jb 36 [.agg (zu g),int n,int d,int room,.lst 5 rows none] Store.empty λr S=>(¬(Bv g n/\1<=d/\d<=8)/\r=.tup [.agg [nil,nil,nil,nil,nil],int 1])∨
   ((Bv g n/\1<=d/\d<=8)/\∃X vm m log hb,Inv rows.length X vm m log/\(S.obj hb=some (.cells (X.map λo=>o.vh))/\∀o∈X,AV.le o.vh (lst 1 xh o.h)/\o.vh.one=true)/\r=.tup [.agg [yh (X.map λo=>o.p.turn),.s (.slice (some ⟨hb,0,none⟩) X.length X.length),lst 8 zo (X.map λo=>o.w),lst 1 qv (X.map λo=>o.p.split),lst 3 kk log],int 0]):=by
 refine Qa (c:=cfg 156 [39,73] []) zb Tryz.func36 ?_;refine zhp g hg θ n hn _ _ (λhb=>?_) (λhp=>?_)
 ·exact ret (.inl ⟨λhh=>hb hh.1,rfl⟩)
 refine bcd (λc1=>?_) (λc1=>?_)
 ·exact absurd c1 θ
 intro s hs;have hw:=za6 hp;have hper:∀k:Nat,((k+1:Nat):Int)<=n->(Ci (xu ((k+1:Nat):Int) n d)↔1<=d/\d<=8):=λk hk=>zbq hp.2 ⟨θ,hk⟩
 refine AWp.loop (σ:=List One×AV) ⟨λx=>[(1,.av (int n)),(2,.av (int d)),(3,.av (int room)),(4,.av (.lst 5 rows none)),(10,.bx 10 0),(11,.av (int 0)),(12,.bx 12 0),(14,.av (ptr s)),(15,.av (int ((x.1.length+1:Nat):Int)))],
  λ_=>[(10,[nil,nil,nil,nil,nil]),(12,zo (Hf g n))],λx S=>Sp (mkP room s x.1 x.2) S/\(x.1.length:Int)<=n/\(x.1≠[]->1<=d/\d<=8)/\∀i,(hi:i<x.1.length)->gz g n d i x.1[i],λx=>n.toNat-x.1.length⟩ zb ?_ ?_
 ·refine⟨([],nil),Tv,⟨?_,?_,λh=>absurd rfl h,λi hi=>absurd hi (Fa3 i)⟩,Qaq,⟨rfl,rfl,Tv⟩⟩
  ·refine⟨_,Store.empty,(Du _).symm,λi _ h2=>h2.elim (λh=>h rfl) (λh=>h rfl),rfl,?_⟩;exact⟨Store.empty,Store.empty,rfl,Rb _,TokR.nil 1,⟨Store.empty,Store.empty,rfl,Rb _,rfl,⟨Store.empty,Store.empty,rfl,Rb _,rfl,rfl⟩⟩⟩
  ·have:=hp.2.1;show(0:Int)<=n;omega
 rintro⟨X,vp⟩ S ⟨hP,hqn,hqd,hnew⟩;dsimp only at hP hqn hqd hnew⊢;refine bcd (λc2=>?_) (λc2=>?_)
 ·have hlen:(X.length+1:Int)<=n:=θ;have hpk:=hper X.length θ;refine yg9 _ n d hd _ _ (λhb=>?_) (λhper1=>?_)
  ·refine Rt hw hr _ (λeb E hE hdE=>?_);exact ret (.inl ⟨λhh=>hb (hpk.2 hh.2),rfl⟩)
  refine Rt hw hr _ (λeb E hE hdE=>?_);have hP1:=(hP.at 3 rfl).last hE hdE;have hs1:=(hP1.at 0 rfl).obj;refine Qc zb yau ?_;refine za (o:=(E.un S).obj s) _ hs1 ?_;refine⟨λq hq=>?_,Tv⟩;have hP2:=(hP1.at 2 rfl).box hq (yx (xu ((X.length+1:Nat):Int) n d)++[ptr eb]);have hs2:=(hP2.at 0 rfl).obj;refine⟨(by repeat(first|exact Tv|refine⟨rfl,?_⟩|refine⟨za (o:=Store.obj _ _) _ hs2 rfl,?_⟩)),?_⟩;refine⟨ψ,?_⟩;refine⟨(hP2.at 1 rfl).app (ie:=ti184) rfl rfl (rows:=[[ptr q]]) rfl φ ?_ (λb S3 hP3=>⟨Tv,?_⟩),Tv⟩
  ·have hn8:=hp.2.2;rw[Fad,Fap];show(X.length+1)*8<=_/\X.length+1<=_;omega
  have hs3:=(hP3.at 0 rfl).obj;refine⟨?_,Tv⟩;refine za _ rfl (xp rfl (xl (v:=.lst 1 (X.map (λo=>[ptr o.q])++[[ptr q]]) (some b)) rfl rfl rfl rfl ?_));refine qd (i:=ti175) (v:=.lst 1 (X.map (λo=>[ptr o.q])++[[ptr q]]) (some b)) (b:=s) (o:=0) rfl rfl rfl hs3 (show 0+1<=7 by decide) rfl ?_;have hP4:=(hP3.at 0 rfl).store [.lst 1 (X.map (λo=>[ptr o.q])++[[ptr q]]) (some b),nil,nil,nil,nil,nil,nil];refine⟨Tv,?_⟩;refine ze (by have:=hp.2.2;omega) ?_
  let o:One:=⟨q,eb,0,xu ((X.length+1:Nat):Int) n d,Hf g n,[],.s (.slice none 0 0)⟩
  refine⟨(X++[o],.lst 1 (X.map (λo=>[ptr o.q])++[[ptr q]]) (some b)),?_,⟨?_,?_,λ_=>hpk.1 hper1,λi hi=>?_⟩,⟨Tq,Tq,Tq,Tq,Tq,Tq,Tq,Tq,?_,Tv⟩,⟨rfl,rfl,Tv⟩⟩
  ·show n.toNat-(X++[o]).length<n.toNat-X.length;rw[Fad];show _-(_+1)<_;omega
  ·dsimp only;unfold mkP;rw[Fax,Fax,Fax];exact hP4
  ·show(((X++[o]).length:Nat):Int)<=n;rw[Fad];exact hlen
  ·dsimp only at hi⊢;by_cases hlt:i<X.length
   ·rw[Fbo hlt];exact hnew i hlt
   ·have:i=X.length:=by simp at hi;omega
    subst this;simp only[Fdb (Fak _),Nat.sub_self,Fcp];exact⟨rfl,rfl,rfl,rfl,rfl⟩
  ·show LV.le (.av (int (((X.length+1:Nat):Int)+1))) (.av (int (((X++[o]).length+1:Nat):Int)));rw[Fad];exact Tq
 have hnq:n=(X.length:Int):=θ;subst hnq;have hX0:X≠[]:=λe=>by have:=hp.2.1;rw[e]at this;exact absurd this ψ
 have hX8:X.length<=8:=by have:=hp.2.2;omega
 have hd8:=hqd hX0;refine I7 rfl (it:=ti105) (ie:=ti88) rfl rfl rfl rfl rfl (n:=X.length) (by show 24*X.length<=_;omega) θ (λhb hhb=>?_);have hP1:=hP.new hhb (List.replicate X.length (.s (.slice none 0 0)));have hs1:=(hP1.at 1 rfl).obj;refine qd (i:=ti105) (v:=.s (.slice (some ⟨hb,0,none⟩) X.length X.length)) (b:=s) (o:=3) rfl rfl rfl hs1 (show 3+1<=7 by decide) rfl ?_;have hP2:=(hP1.at 1 rfl).store [vp,nil,nil,.s (.slice (some ⟨hb,0,none⟩) X.length X.length),nil,nil,nil];have hI:=hI0 X hp hd8 rfl hnew;have hvh:List.replicate X.length (AV.s (.slice none 0 0))=X.map λo=>o.vh:=by refine Fcs φ λj h1 h2=>?_;have hj:j<X.length:=θn;rw[Fdk,Fbw];exact(hnew j hj).2.2.2.2.symm
 have hP3:Sp (q9 room s hb X vp nil nil nil nil nil [] [] [] [] []) (((S.sO hb (.cells (List.replicate X.length (.s (.slice none 0 0)))))).sO s (.cells [vp,nil,nil,.s (.slice (some ⟨hb,0,none⟩) X.length X.length),nil,nil,nil])):=by have hq:∀{α:Type} (k:Nat) (f:α->List AV),RowsQ k f Store.empty nil []:=λk f=>.inl (.inl ⟨rfl,rfl⟩);unfold q9;rw[<-hvh];refine Sp.none (hq 8 gw) (Sp.none (TokR.nil 1) (Sp.none (TokR.nil 8) (Sp.none (TokR.nil 1) (Sp.none (TokR.nil 3) (Sp.none (Sp.allE λP hP=>?_) hP2)))));obtain⟨o,ho,rfl⟩:=Fai.1 hP;obtain⟨j,hj,rfl⟩:=Faj ho;obtain⟨_,_,e1,_,e2⟩:=hnew j hj;rw[e1,e2];exact TokR.nil 1
 refine AWp.loop (σ:=Nat×List One×(AV×AV×AV)×List Nte×List Frm) ⟨λx=>[(10,.bx 10 0),(14,.av (ptr s)),(84,.av (.lst 5 rows none)),(85,.av (int (rows.length:Nat))),(86,.av (int (x.1:Nat)))],λ_=>[(10,[nil,nil,nil,nil,nil])],
  λx S'=>x.1<=rows.length/\Inv x.1 x.2.1 x.2.2.1.2.1 x.2.2.2.1 x.2.2.2.2/\Sp (q9 room s hb x.2.1 x.2.2.1.1 x.2.2.1.2.1 nil nil nil x.2.2.1.2.2 x.2.2.2.1 x.2.2.2.2 [] [] []) S',λx=>rows.length-x.1⟩ zb ?_ ?_
 ·exact⟨(0,X,(vp,nil,nil),[],[]),Tv,⟨Fae _,hI,hP3⟩,Qaq,⟨rfl,Tv⟩⟩
 clear hI hP3 hnew hqn hqd;rintro⟨i,X,⟨vp,vm,vl⟩,m,log⟩ S' ⟨hi,hI,hP⟩;dsimp only at hi hI hP⊢;refine bcd (λc3=>?_) (λc3=>?_)
 ·have hlt:i<rows.length:=θ;refine⟨i,rfl,za _ (Fac hlt) ?_⟩;have ha:=hact i hlt s hb X vp vm vl m log S' hI hP;obtain⟨x1,x2,x3,x4,y,er,hy⟩:=hr5 _ (Faa hlt);rw[er]at ha⊢;rcases hy with rfl|⟨l,rfl⟩
  all_goals
   refine ha.imp ?_;rintro r S3 ⟨rfl,X',vp',vm',vl',m',log',hI',hP'⟩;refine Qd ?_;exact⟨(i+1,X',(vp',vm',vl'),m',log'),(show rows.length-(i+1)<rows.length-i by omega),⟨hlt,hI',hP'⟩,Qaq,⟨rfl,Tv⟩⟩
 have hil:i=rows.length:=θ;subst hil;obtain⟨hXl,hXw,hlg⟩:=hIw _ _ _ _ _ hI;have hX1:X≠[]:=λe=>by rw[e]at hXl;simp at hXl;have:=List.length_pos_iff.2 hX0;omega
 have hX18:X.length<=8:=θ;obtain⟨t,rfl⟩:=Vl hP hX1;refine za (o:=S'.obj s) _ (Gj hP) ?_
 refine AWp.loop (σ:=Nat×AV×AV×AV) ⟨λx=>[(10,.bx 10 0),(14,.av (ptr s)),(97,.av (.lst 1 (X.map λo=>[ptr o.q]) (some t))),(98,.av (int (X.length:Nat))),(99,.av (int (x.1:Nat)))],λ_=>[(10,[nil,nil,nil,nil,nil])],
  λx S2=>x.1<=X.length/\Sp (q9 room s hb X (.lst 1 (X.map λo=>[ptr o.q]) (some t)) vm x.2.1 x.2.2.1 x.2.2.2 vl m log ((X.take x.1).map λo=>o.p.turn) ((X.take x.1).map λo=>o.w) ((X.take x.1).map λo=>o.p.split)) S2,λx=>X.length-x.1⟩ zb ?_ ?_
 ·refine⟨(0,nil,nil,nil),Tv,⟨Fae _,hP⟩,⟨Tq,Tq,Tq,?_,Tq,Tv⟩,⟨rfl,Tv⟩⟩;rw[<-Fap (f:=λo:One=>[ptr o.q])];exact Tq
 clear hP;rintro⟨j,vT,vW,vS⟩ S3 ⟨hj,hP⟩;dsimp only at hj hP⊢;refine bcd (λc4=>?_) (λc4=>?_)
 ·have hlt:j<X.length:=θ;refine⟨j,rfl,za _ (Gr _ hlt) ?_⟩;have tk:∀{α:Type} (f:One->α),(X.take (j+1)).map f=(X.take j).map f++[f X[j]]:=λf=>by rw[Fab hlt,Fax];rfl
  have hq3:=Ku hP hlt;refine Qc zb yat ?_;refine za (o:=S3.obj s) _ (Gj hP) ?_;refine za (o:=S3.obj X[j].q) _ hq3 ?_;refine⟨ψ,?_⟩;refine⟨(hP.at 1 rfl).app (ie:=ti2) rfl rfl (rows:=[zv X[j].p.turn]) rfl φ ?_ (λb1 S11 hQ1=>⟨Tv,?_⟩),Tv⟩
  ·simp only[Fad,zj,Fas,Fap,Fam];show(min j X.length+1)*8<=_/\min j X.length+1<=_;omega
  have hs1:=(hQ1.at 7 rfl).obj;refine⟨?_,Tv⟩;refine za _ rfl (xp rfl (xl (v:=.lst 1 (rws zv ((X.take j).map λo=>o.p.turn)++[zv X[j].p.turn]) (some b1)) rfl rfl rfl rfl ?_));refine qd (i:=ti63) (v:=.lst 1 (rws zv ((X.take j).map λo=>o.p.turn)++[zv X[j].p.turn]) (some b1)) (b:=s) (o:=2) rfl rfl rfl hs1 (show 2+1<=7 by decide) rfl ?_;refine⟨Tv,?_⟩;have hR1:=(hQ1.at 7 rfl).store [(.lst 1 (X.map λo=>[ptr o.q]) (some t)),vm,(.lst 1 (rws zv ((X.take j).map λo=>o.p.turn)++[zv X[j].p.turn]) (some b1)),.s (.slice (some ⟨hb,0,none⟩) X.length X.length),vW,vS,vl];have hP5:Sp (q9 room s hb X (.lst 1 (X.map λo=>[ptr o.q]) (some t)) vm (.lst 1 (rws zv ((X.take j).map λo=>o.p.turn)++[zv X[j].p.turn]) (some b1)) vW vS vl m log ((X.take (j+1)).map λo=>o.p.turn) ((X.take j).map λo=>o.w) ((X.take j).map λo=>o.p.split)) (S11.sO s (.cells (zp [(.lst 1 (X.map λo=>[ptr o.q]) (some t)),vm,vT,.s (.slice (some ⟨hb,0,none⟩) X.length X.length),vW,vS,vl] 2 [.lst 1 (rws zv ((X.take j).map λo=>o.p.turn)++[zv X[j].p.turn]) (some b1)]))):=by rw[tk (λo=>o.p.turn)];unfold q9;rw[show rws zv ((X.take j).map (λo=>o.p.turn)++[X[j].p.turn])=rws zv ((X.take j).map λo=>o.p.turn)++[zv X[j].p.turn]from Fax];exact hR1
  generalize S11.sO s (.cells (zp [(.lst 1 (X.map λo=>[ptr o.q]) (some t)),vm,vT,.s (.slice (some ⟨hb,0,none⟩) X.length X.length),vW,vS,vl] 2 [.lst 1 (rws zv ((X.take j).map λo=>o.p.turn)++[zv X[j].p.turn]) (some b1)]))=S6 at*;generalize hvT:AV.lst 1 (rws zv ((X.take j).map λo=>o.p.turn)++[zv X[j].p.turn]) (some b1)=uT at*;have hs5:=Gj hP5;have hq5:=Ku hP5 hlt;have hwj:=hXw X[j] (Faa hlt);refine Qc zb yas ?_;refine Qav ?_;refine za (o:=S6.obj X[j].q) _ hq5 ?_;refine⟨((hP5.at 10 rfl).at (P:=EngR X[j].eb room X[j].k X[j].w) j (Gr _ hlt)).look (xs:=[ptr X[j].eb]) (.agg (zo X[j].w)) (λa ha T hT=>mz ha hwj.sizes T hT) ⟨(by repeat(first|exact Tv|refine⟨rfl,?_⟩|refine⟨za (o:=Store.obj _ _) _ hs5 rfl,?_⟩)),?_⟩,Tv⟩;refine⟨ψ,?_⟩;refine⟨(hP5.at 2 rfl).app (ie:=ti27) rfl rfl (rows:=[zo X[j].w]) rfl φ ?_ (λb2 S12 hQ2=>⟨Tv,?_⟩),Tv⟩
  ·simp only[Fad,zj,Fas,Fap,Fam];show(min j X.length+1)*112<=_/\min j X.length+1<=_;omega
  have hs2:=(hQ2.at 7 rfl).obj;refine⟨?_,Tv⟩;refine za _ rfl (xp rfl (xl (v:=.lst 8 (rws zo ((X.take j).map λo=>o.w)++[zo X[j].w]) (some b2)) rfl rfl rfl rfl ?_));refine qd (i:=ti106) (v:=.lst 8 (rws zo ((X.take j).map λo=>o.w)++[zo X[j].w]) (some b2)) (b:=s) (o:=4) rfl rfl rfl hs2 (show 4+1<=7 by decide) rfl ?_;refine⟨Tv,?_⟩;have hR2:=(hQ2.at 7 rfl).store [(.lst 1 (X.map λo=>[ptr o.q]) (some t)),vm,uT,.s (.slice (some ⟨hb,0,none⟩) X.length X.length),(.lst 8 (rws zo ((X.take j).map λo=>o.w)++[zo X[j].w]) (some b2)),vS,vl];have hP6:Sp (q9 room s hb X (.lst 1 (X.map λo=>[ptr o.q]) (some t)) vm uT (.lst 8 (rws zo ((X.take j).map λo=>o.w)++[zo X[j].w]) (some b2)) vS vl m log ((X.take (j+1)).map λo=>o.p.turn) ((X.take (j+1)).map λo=>o.w) ((X.take j).map λo=>o.p.split)) (S12.sO s (.cells (zp [(.lst 1 (X.map λo=>[ptr o.q]) (some t)),vm,uT,.s (.slice (some ⟨hb,0,none⟩) X.length X.length),vW,vS,vl] 4 [.lst 8 (rws zo ((X.take j).map λo=>o.w)++[zo X[j].w]) (some b2)]))):=by rw[tk (λo=>o.w)];unfold q9;rw[show rws zo ((X.take j).map (λo=>o.w)++[X[j].w])=rws zo ((X.take j).map λo=>o.w)++[zo X[j].w]from Fax];exact hR2
  generalize S12.sO s (.cells (zp [(.lst 1 (X.map λo=>[ptr o.q]) (some t)),vm,uT,.s (.slice (some ⟨hb,0,none⟩) X.length X.length),vW,vS,vl] 4 [.lst 8 (rws zo ((X.take j).map λo=>o.w)++[zo X[j].w]) (some b2)]))=S7 at*;generalize hvW:AV.lst 8 (rws zo ((X.take j).map λo=>o.w)++[zo X[j].w]) (some b2)=uW at*;have hs6:=Gj hP6;have hq6:=Ku hP6 hlt;refine Qc zb yar ?_;refine Qav ?_;refine za (o:=S7.obj X[j].q) _ hq6 ?_;refine⟨ψ,?_⟩;refine⟨(hP6.at 3 rfl).app (ie:=ti4) rfl rfl (rows:=[qv X[j].p.split]) rfl φ ?_ (λb3 S13 hQ3=>⟨Tv,?_⟩),Tv⟩
  ·simp only[Fad,zj,Fas,Fap,Fam];show(min j X.length+1)*1<=_/\min j X.length+1<=_;omega
  have hs3:=(hQ3.at 7 rfl).obj;refine⟨?_,Tv⟩;refine za _ rfl (xp rfl (xl (v:=.lst 1 (rws qv ((X.take j).map λo=>o.p.split)++[qv X[j].p.split]) (some b3)) rfl rfl rfl rfl ?_));refine qd (i:=ti68) (v:=.lst 1 (rws qv ((X.take j).map λo=>o.p.split)++[qv X[j].p.split]) (some b3)) (b:=s) (o:=5) rfl rfl rfl hs3 (show 5+1<=7 by decide) rfl ?_;refine⟨Tv,?_⟩;have hR3:=(hQ3.at 7 rfl).store [(.lst 1 (X.map λo=>[ptr o.q]) (some t)),vm,uT,.s (.slice (some ⟨hb,0,none⟩) X.length X.length),uW,(.lst 1 (rws qv ((X.take j).map λo=>o.p.split)++[qv X[j].p.split]) (some b3)),vl];refine Qd ?_;refine⟨(j+1,uT,uW,.lst 1 (rws qv ((X.take j).map λo=>o.p.split)++[qv X[j].p.split]) (some b3)),(show X.length-(j+1)<X.length-j by omega),⟨hlt,?_⟩,Qaq,⟨rfl,Tv⟩⟩;dsimp only;rw[tk (λo=>o.p.split)];unfold q9;rw[show rws qv ((X.take j).map (λo=>o.p.split)++[X[j].p.split])=rws qv ((X.take j).map λo=>o.p.split)++[qv X[j].p.split]from Fax];exact hR3
 have hil:j=X.length:=θ;subst hil;rw[Fal]at hP;have tok:∀{k:Nat} {v:AV} {l:List (List AV)} {K:(Store->Prop)->Store->Prop},Foc (TokR k v l) K S3->(v=nil/\l=[])\/∃t,v=.lst k l (some t):=λh=>by
  obtain⟨a,g,_,_,ht,_⟩:=h;rcases ht with⟨e1,e2,_⟩|⟨_,t,e,_⟩
  ·exact .inl ⟨e2,e1⟩
  ·exact .inr ⟨t,e⟩
 have ne:∀{α:Type} (f:One->α) (g:α->List AV),rws g (X.map f)≠[]:=λf g e=>hX1 (Fde.1 (Fde.1 e));have hs9:=Gj hP;have hvh3:S3.obj hb=some (.cells (X.map λo=>o.vh))/\∀o∈X,AV.le o.vh (lst 1 xh o.h)/\o.vh.one=true:=⟨za1 hP,λo ho=>by obtain⟨j,hj,rfl⟩:=Faj ho;obtain⟨a,g,_,_,ht,_⟩:=(hP.at 5 rfl).at (P:=TokR 1 X[j].vh (rws xh X[j].h)) j (Gr _ hj);refine⟨ht.le,?_⟩;rcases ht with⟨_,e,_⟩|⟨_,t,e,_⟩<;>rw[e]<;>rfl⟩
 obtain⟨t1,e1⟩:=(tok (hP.at 1 rfl)).resolve_left λh=>ne _ _ h.2;obtain⟨t2,e2⟩:=(tok (hP.at 2 rfl)).resolve_left λh=>ne _ _ h.2;obtain⟨t3,e3⟩:=(tok (hP.at 3 rfl)).resolve_left λh=>ne _ _ h.2;have e4:=tok (hP.at 4 rfl);clear hP;subst e1 e2 e3;rcases e4 with⟨rfl,e4⟩|⟨t4,rfl⟩
 ·have elog:log=[]:=Fde.1 e4;subst elog;refine Qav ?_;refine zaf (r:=.tup [.agg [yh (X.map λo=>o.p.turn),.s (.slice (some ⟨hb,0,none⟩) X.length X.length),lst 8 zo (X.map λo=>o.w),lst 1 qv (X.map λo=>o.p.split),lst 3 kk []],int 0]) ?_ (.inr ⟨⟨hp,hd8⟩,X,vm,m,[],hb,hI,hvh3,rfl⟩);exact zcr (AV.le_aggL ⟨AV.le_tok _ _ _,Tt,AV.le_tok _ _ _,AV.le_tok _ _ _,AV.le_nil 3,Tv⟩) (Tt)
 ·refine Qav ?_;refine zaf (r:=.tup [.agg [yh (X.map λo=>o.p.turn),.s (.slice (some ⟨hb,0,none⟩) X.length X.length),lst 8 zo (X.map λo=>o.w),lst 1 qv (X.map λo=>o.p.split),lst 3 kk log],int 0]) ?_ (.inr ⟨⟨hp,hd8⟩,X,vm,m,log,hb,hI,hvh3,rfl⟩);exact zcr (AV.le_aggL ⟨AV.le_tok _ _ _,Tt,AV.le_tok _ _ _,AV.le_tok _ _ _,AV.le_tok _ _ _,Tv⟩) (Tt)
theorem ysc{c:Cfg}{e:TypeId}{ie:TI}(hie:c.I e=some ie){S:Store}{K:Ja}(h:∀a,Mb a->K (.s (.slice a 0 0)) S):appendK Tryz.prog c S e (.av (.s (.slice none 0 0))) (.av (.s (.slice none 0 0))) K:=by refine⟨.inr ⟨_,_,rfl,rfl,?_⟩⟩;have hx:=zgs (P:=Tryz.prog) (c:=c) (st:=S) hie (x:=.s (.slice none 0 0)) (rows:=[]) rfl ⟨φ,φ⟩ (K:=K) (λ_ a ha=>h a ha) (λhr=>absurd hr (Nat.lt_irrefl 0));obtain⟨h1,h2⟩:=hx;exact⟨h1,λie' hie' Oth M w sv xv argTypes ty args t sto hs=>h2 ie' hie' Oth M w sv xv argTypes ty args t sto (AV.le_nil_emp _ _ _ hs)⟩
def per1:Per:=⟨1,1,1,0,0,[],[],[0],[0],[],false⟩
theorem Vq:xu 1 1 1=per1:=ψ
theorem za9:Ci per1:=Vq▸(zbq (id:=1) (n:=1) (d:=1) ⟨ψ,ψ⟩ ⟨ψ,ψ⟩).2 ⟨ψ,ψ⟩
theorem yhg:per1.fits/\Km per1:=by rw[<-Vq];exact⟨zbr 1 1 1,by rw[Vq];exact⟨⟨ψ,λi hi=>by cases hi⟩,⟨ψ,λi hi=>by cases hi⟩,ψ,ψ,ψ⟩⟩
theorem yhh:G6 per1:=ψ
theorem yhf(n:Int):(jm per1 n).fits/\Km (jm per1 n)/\(jm per1 n).turn=1/\¬G6 (jm per1 n)/\vn (jm per1 n)=[]/\(jm per1 n).hashes.length<16:=
 ⟨⟨⟨Fae _,λi hi=>by cases hi⟩,⟨Fae _,λi hi=>by cases hi⟩,show 1<=1000000000 by decide,show 1<=1000000000 by decide,show 1<=1000000000 by decide⟩,⟨⟨Fae _,λi hi=>by cases hi⟩,⟨Fae _,λi hi=>by cases hi⟩,show 1<=1000000000 by decide,show 1<=1000000000 by decide,show 1<=1000000000 by decide⟩,rfl,λh=>absurd (show(1:Int)<=0 from h.1) ψ,rfl,show 1<16 by decide⟩
theorem zjy{room:Int}{s hb:Nat}{o:One}{vp vl:AV}{S:Store}(h:Sp (q9 room s hb [o] vp nil nil nil nil vl [] [] [] [] []) S)(hp:o.p=per1)(hw:playW o.w)(hk:o.k=0)(hh:o.h=[])(R:Ja)
  (hR:∀(o2:One) vm2 vl2 log2 S2,o2.p.turn=1->playW o2.w->log2.length<=1->Sp (q9 room s hb [o2] vp vm2 nil nil nil vl2 [] log2 [] [] []) S2->R (.tup []) S2):Jb 159 [ptr s,int 0] S R:=by
 obtain⟨t,rfl⟩:=Vl h φ;have h0:=Gj h;have hq0:=Ku h (i:=0) (Fdg);obtain⟨f1,f2⟩:=yhg;rw[show [o][0]=o from rfl,hp]at hq0;refine Qa (c:=cfg 39) zb Tryz.func159 ?_;refine Qav ?_;refine⟨0,rfl,za _ (Gr (λo:One=>[ptr o.q]) (l:=[o]) (i:=0) Fdg) ?_⟩;refine za (o:=S.obj o.q) _ hq0 ?_;refine yij per1 f1 za9 rfl _ _ ?_;refine Qav ?_;refine ysc (ie:=ti366) rfl (λa ha=>?_);refine qd (i:=ti176) (v:=.s (.slice a 0 0)) (b:=s) (o:=1) rfl rfl rfl h0 (show 1+1<=7 by decide) rfl ?_;have h1:=(h.at 7 rfl).store [.lst 1 ([o].map λo=>[ptr o.q]) (some t),.s (.slice a 0 0),nil,.s (.slice (some ⟨hb,0,none⟩) [o].length [o].length),nil,nil,vl];have h2:Sp (q9 room s hb [o] (.lst 1 ([o].map λo=>[ptr o.q]) (some t)) (.s (.slice a 0 0)) nil nil nil vl [] [] [] [] []) _:=(h1.at 0 rfl).same (Q:=λx=>RowsQ 8 gw x (.s (.slice a 0 0)) []) λx _=>.inr ⟨a,ha,rfl,rfl⟩;clear h0 hq0 h1 h;refine AWp.loop (σ:=Bool×One×AV×List Frm) ⟨λx=>[(0,.av (ptr s)),(1,.av (int 0)),(6,.av (int (if x.1 then 1 else 0)))],λ_=>[],λx S'=>Sp (q9 room s hb [x.2.1] (.lst 1 ([o].map λo=>[ptr o.q]) (some t)) (.s (.slice a 0 0)) nil nil nil x.2.2.1 [] x.2.2.2 [] [] []) S'/\playW x.2.1.w/\(x.1=false->x.2.1=o/\x.2.2.2=[])/\(x.1=true->(∃n,x.2.1.p=jm per1 n)/\x.2.1.k<=4096/\x.2.1.h.length<=1/\x.2.2.2.length<=1),λx=>if x.1 then 0 else 1⟩ zb ?_ ?_
 ·exact⟨(false,o,vl,[]),Tv,⟨h2,hw,λ_=>⟨rfl,rfl⟩,λe=>θb⟩,Qaq,Tv⟩
 clear h2;rintro⟨z,o1,vl1,log1⟩ S1 ⟨h1,hw1,hz0,hz1⟩;dsimp only at h1 hw1 hz0 hz1⊢;have e0:∀o:One,[o][0]=o:=λ_=>rfl;cases z with
 |false=>
  obtain⟨rfl,rfl⟩:=hz0 rfl;refine za2 h1 (i:=0) Fdg (by rw[e0,hp];exact f1) (by rw[e0,hp];exact f2) (by rw[e0,hp];decide) (by rw[e0,hp];intro c hc;cases hc) (.inl (by rw[e0,hp];rfl)) (by rw[e0,hp];decide) hw1 (by rw[e0,hk];decide) ψ (by rw[e0,hh];decide) (show 1<=8 by decide) _ (λhno=>absurd (show Su o1 from⟨by rw[hp];exact za9,by rw[hp];exact yhh⟩) hno) (λhr o2 vl2 S2 q1 q2 q3 q4 q5 q6 hS=>?_);refine ze (show(-9223372036854775808:Int)<=0+1/\(0:Int)+1<=9223372036854775807 by decide) ?_;refine⟨(true,o2,vl2,_),Fdg,⟨hS,by rw[q5];exact za4 hw1 _,(λe=>nomatch e),λ_=>⟨⟨_,by rw[q4,e0,hp]⟩,?_,?_,?_⟩⟩,⟨Tq,Tq,Tq,Tv⟩,Tv⟩
  ·rw[e0,hk]at q3;exact q3
  ·rw[q6,e0,hh];exact Fak _
  ·exact Fak _
 |true=>
  obtain⟨⟨n,hn⟩,hk1,hh1,hl1⟩:=hz1 rfl;obtain⟨g1,g2,g3,g4,g5,g6⟩:=yhf n;refine za2 h1 (i:=0) Fdg (by rw[e0,hn];exact g1) (by rw[e0,hn];exact g2) (by rw[e0,hn,g5];decide) (by rw[e0,hn,g5];intro c hc;cases hc) (.inl (by rw[e0,hn];exact g5)) (by rw[e0,hn];exact g6) hw1 (by rw[e0];omega) θ (by rw[e0];omega) (show 1<=8 by decide) _ (λhno=>?_) (λhr=>absurd (by have:=hr.2;rw[e0,hn]at this;exact this) g4);exact ret (hR o1 _ vl1 log1 S1 (by rw[hn];exact g3) hw1 hl1 h1)
theorem ys6{s:Nat}{S:Store}{rows:List (List AV)}{tok:Option Nat}{rest:List AV}(hs:S.obj s=some (.cells (.lst 1 rows tok::rest)))(h1:rows.length=1)(T:Ja)(ht:Jb 159 [ptr s,int 0] S λr S'=>r=.tup []/\T (.tup []) S'):Jb 91 [ptr s,.agg [int 2,int 1,int 0,int 0,nil]] S T:=by refine Qa (c:=cfg 61) zb Tryz.func91 ?_;refine Qc zb zz2 ?_;refine Qav ?_;refine Qau ?_;refine bcd (λc=>?_) (λc=>absurd (show(1:Int)<=(rows.length:Nat) by omega) c);refine ze (show(-9223372036854775808:Int)<=1-1/\(1:Int)-1<=9223372036854775807 by decide) ?_;refine ACalls.imp (f:=159) (xs:=[ptr s,int 0]) ht ?_;rintro r S' ⟨rfl,h⟩;exact ret h
def Lt:Gnd:=⟨1,1,[0]⟩
def cy(i:Nat)(X:List One)(vm:AV)(m:List Nte)(log:List Frm):Prop:=X.length=1/\(∀o∈X,playW o.w)/\log.length<=1/\m=[]/\(i=0->vm=nil/\log=[]/\∃o,X=[o]/\o.p=per1/\o.k=0/\o.h=[])/\(i=1->∀o∈X,o.p.turn=1)
theorem zy4:Jb 36 [.agg (zu Lt),int 1,int 1,int 1,.lst 5 [[int 2,int 1,int 0,int 0,nil]] none] Store.empty λr _=>∃hb W D L,r=.tup [.agg [yh [1],.s (.slice (some ⟨hb,0,none⟩) 1 1),lst 8 zo W,lst 1 qv D,lst 3 kk L],int 0]:=by
 have hnp:Bv Lt 1:=⟨⟨ψ,ψ,ψ,ψ⟩,ψ,ψ⟩
 have a1:∀row∈[[int 2,int 1,int 0,int 0,nil]],∃(x1 x2 x3 x4:Int) (y:AV),row=[int x1,int x2,int x3,int x4,y]/\(y=nil\/∃l,y=lst 10 yz l):=λrow hrw=>by rw[Fbt.1 hrw];exact⟨2,1,0,0,nil,rfl,.inl rfl⟩
 have a0:∀X:List One,Bv Lt 1->((1:Int)<=1/\(1:Int)<=8)->(X.length:Int)=1->(∀i,(hi:i<X.length)->gz Lt 1 1 i X[i])->cy 0 X nil [] []:=λX h1 h2 h3 h4=>by have hl:X.length=1:=θ;obtain⟨o,rfl⟩:=List.length_eq_one_iff.1 hl;obtain⟨q1,q2,q3,q4,_⟩:=h4 0 Fdg;have q1:o.p=xu 1 1 1:=q1;have q2:o.w=Hf Lt 1:=q2;refine⟨rfl,λx hx=>?_,Fae _,rfl,λ_=>⟨rfl,rfl,o,rfl,q1.trans Vq,q4,q3⟩,λe=>θb⟩;rw[Fbt.1 hx,q2];exact za6 hnp
 have a2:∀i X vm m log,cy i X vm m log->(X.length:Int)=1/\(∀o∈X,playW o.w)/\log.length<=1000000:=λi X vm m log ⟨h1,h2,h3,_⟩=>⟨by rw[h1];rfl,h2,θ⟩
 refine(zy5 Lt (by unfold Gnd.fits;decide) ψ 1 1 1 (by unfold yg;decide) ψ ψ [[int 2,int 1,int 0,int 0,nil]] (show 1<=400 by decide) a1 cy a0 a2 ?_).imp λr S hr=>?_
 ·rintro i hi s hb X vp vm vl m log S ⟨h1,h2,h3,rfl,h5,_⟩ hP;have hi0:i=0:=by simp at hi;omega
  subst hi0;obtain⟨rfl,rfl,o,rfl,hp,hk,hh⟩:=h5 rfl;obtain⟨t,rfl⟩:=Vl hP φ;refine ys6 (Gj hP) rfl _ ?_;refine zjy hP hp (h2 o (Fbt.2 rfl)) hk hh _ (λo2 vm2 vl2 log2 S2 t1 w1 l1 hS=>?_);refine⟨rfl,rfl,[o2],_,vm2,vl2,[],log2,⟨rfl,λx hx=>by rw[Fbt.1 hx];exact w1,l1,rfl,(λe=>nomatch e),λ_ x hx=>by rw[Fbt.1 hx];exact t1⟩,hS⟩
 ·rcases hr with⟨h1,rfl⟩|⟨h1,X,vm,m,log,vH,⟨q1,q2,q3,q4,q5,q6⟩,_,rfl⟩
  ·exact absurd ⟨hnp,ψ,ψ⟩ h1
  ·obtain⟨o,rfl⟩:=List.length_eq_one_iff.1 q1;have:=q6 rfl o (Fbt.2 rfl);have e:([o].map λo=>o.p.turn)=[1]:=by simp[this]
   rw[e];exact⟨_,_,_,_,rfl⟩
theorem K0(n:Int)(st:Store)(R:Ja)(h:R (int n) st):Jb 10 [int n] st R:=by refine Qa (c:=cfg 4) zb Tryz.func10 ?_;exact ret h
theorem zib:Jb 18 [] Store.empty λr _=>r=V.bool true:=by refine Qa (c:=cfg 27) zb Tryz.func18 ?_;refine⟨ψ,?_⟩;refine⟨ψ,?_⟩;refine ACalls.imp (f:=36) zy4 ?_;rintro r S ⟨X,W,D,L,rfl⟩;refine K0 _ _ _ ?_;refine⟨0,rfl,za _ rfl ?_⟩;exact ret rfl
theorem p6(st:Store)(R:Ja)(h:R (V.bool true) st):Jb 18 [] st R:=
 Fv zib st R λr hr=>hr▸h
def rdO(p:Nat)(s:Rd)(st:Store):Store:=st.sO p (.cells [ya s.b,int s.e])
theorem yc(p:Nat)(s:Rd)(st:Store):(rdO p s st).obj p=some (.cells [ya s.b,int s.e]):=zd _ _ _
theorem Vd(p:Nat)(s:Rd)(st:Store)(b:List UInt8)(e:Int):(rdO p s st).sO p (.cells [ya b,int e])=rdO p ⟨b,e⟩ st:=ym _ _ _ _
theorem zed(p:Nat)(s:Rd)(st:Store)(e:Int)(R:Ja)(h:R (.tup []) (rdO p (s.fail e) st)):Jb 119 [ptr p,int e] (rdO p s st) R:=by
 refine Qa (c:=cfg 13) zb Tryz.func119 ?_;first|refine za _ (yc p s st) ?_|refine optR (za _ (yc p s st) ?_)|refine optR (optR (za _ (yc p s st) ?_))
 unfold Rd.fail at h;refine zw (λh1=>?_) (λh1=>?_)
 ·rw[if_pos h1]at h;first|refine za _ (yc p s st) ?_|refine optR (za _ (yc p s st) ?_)|refine optR (optR (za _ (yc p s st) ?_))
  refine⟨φ,?_⟩;refine ret ?_;show R _ ((rdO p s st).sO p (.cells [ya s.b,int e]));rw[Vd];exact h
 ·rw[if_neg h1]at h;exact ret h
theorem Ij(p:Nat)(s:Rd)(st:Store)(ok:Bool)(R:Ja)(h:R (.tup []) (rdO p (s.must ok) st)):Jb 57 [ptr p,bool ok] (rdO p s st) R:=by
 refine Qa (c:=cfg 8) zb Tryz.func57 ?_;cases ok with
 |true=>exact ret h
 |false=>exact zed p s st 1 _ (ret h)
theorem fm(p:Nat)(s:Rd)(st:Store)(n:Int)(k:Nat)(e:Int)(hk:s.e=0->e=0->k<=s.b.length)(R:Ja)(h:R (int (s.take n k e).1) (rdO p (s.take n k e).2 st)):Jb 118 [ptr p,int n,int k,int e] (rdO p s st) R:=by
 refine Qa (c:=cfg 27) zb Tryz.func118 ?_;refine zed p s st e _ ?_;unfold Rd.take at h;first|refine za _ (yc p _ st) ?_|refine optR (za _ (yc p _ st) ?_)|refine optR (optR (za _ (yc p _ st) ?_))
 refine qf (λh1=>?_) (λh1=>?_)
 ·rw[if_pos h1]at h;exact ret h
 ·rw[if_neg θg]at h;have hse:s.fail e=⟨s.b,0⟩/\k<=s.b.length:=by
   unfold Rd.fail at h1⊢;split at h1
   ·rename_i h2;simp only at h1;rw[if_pos h2,h1];exact⟨rfl,hk h2 h1⟩
   ·rename_i h2;exact absurd h1 h2
  rw[hse.1];first|refine za _ (yc p _ st) ?_|refine optR (za _ (yc p _ st) ?_)|refine optR (optR (za _ (yc p _ st) ?_))
  refine⟨k,(rowsB s.b).length,rfl,rfl,by rw[zj];exact hse.2,Fak _,?_⟩;first|refine za _ (yc p _ st) ?_|refine optR (za _ (yc p _ st) ?_)|refine optR (optR (za _ (yc p _ st) ?_))
  refine⟨φ,?_⟩;refine ret ?_;rw[Fal,fk];show R _ ((rdO p ⟨s.b,0⟩ st).sO p (.cells [ya (s.b.drop k),int 0]));rw[Vd];exact h
theorem zfy(p:Nat)(s:Rd)(st:Store)(R:Ja)(h:R (u8 s.byte.1) (rdO p s.byte.2 st)):Jb 116 [ptr p] (rdO p s st) R:=by
 refine Qa (c:=cfg 40) zb Tryz.func116 ?_;first|refine za _ (yc p _ st) ?_|refine optR (za _ (yc p _ st) ?_)|refine optR (optR (za _ (yc p _ st) ?_))
 unfold Rd.byte at h;obtain⟨b,e⟩:=s;refine zw (λh1=>?_) (λh1=>?_)
 ·simp only at h1;subst h1;first|refine za _ (yc p _ st) ?_|refine optR (za _ (yc p _ st) ?_)|refine optR (optR (za _ (yc p _ st) ?_))
  refine zw (λh2=>?_) (λh2=>?_)
  ·rw[zj]at h2;obtain rfl:b=[]:=Far θn;first|refine za _ (yc p _ st) ?_|refine optR (za _ (yc p _ st) ?_)|refine optR (optR (za _ (yc p _ st) ?_))
   refine⟨φ,?_⟩;first|refine za _ (zd _ _ _) ?_|refine optR (za _ (zd _ _ _) ?_)|refine optR (optR (za _ (zd _ _ _) ?_))
   refine ret ?_;show R _ ((rdO p ⟨[],0⟩ st).sO p (.cells [ya [],int 11]));rw[Vd];exact h
  ·rw[zj]at h2;cases b with
   |nil=>simp at h2
   |cons c l=>
   first|refine za _ (yc p _ st) ?_|refine optR (za _ (yc p _ st) ?_)|refine optR (optR (za _ (yc p _ st) ?_))
   first|refine za _ (yc p _ st) ?_|refine optR (za _ (yc p _ st) ?_)|refine optR (optR (za _ (yc p _ st) ?_))
   refine⟨0,rfl,za _ rfl ?_⟩;first|refine za _ (yc p _ st) ?_|refine optR (za _ (yc p _ st) ?_)|refine optR (optR (za _ (yc p _ st) ?_))
   refine⟨1,(rowsB (c::l)).length,rfl,rfl,by rw[zj];simp,Fak _,?_⟩;first|refine za _ (yc p _ st) ?_|refine optR (za _ (yc p _ st) ?_)|refine optR (optR (za _ (yc p _ st) ?_))
   refine⟨φ,?_⟩;refine ret ?_;rw[Fal,fk];show R _ ((rdO p ⟨c::l,0⟩ st).sO p (.cells [ya l,int 0]));rw[Vd];exact h
 ·simp only at h1;rw[if_pos h1]at h;first|refine za _ (yc p _ st) ?_|refine optR (za _ (yc p _ st) ?_)|refine optR (optR (za _ (yc p _ st) ?_))
  refine qf (λh2=>?_) (λh2=>absurd h2 h1);exact ret h
theorem Sm(p:Nat)(s:Rd)(st:Store)(l:List UInt8){v:AV}(hv:AV.le v (ya l))(hl:l.length<=1000000000000)(R:Ja)(h:R (.tup []) (rdO p (s.same l) st)):Jb 53 [ptr p,v] (rdO p s st) R:=by
 refine ACalls.le (ys:=[ptr p,ya l]) ⟨Tt,hv,Tv⟩ ?_;refine Qa (c:=cfg 21) zb Tryz.func53 ?_
 refine AWp.loop (σ:=Nat) ⟨λi=>[(0,.av (ptr p)),(7,.av (ya l)),(8,.av (int l.length)),(9,.av (int (i:Nat)))],λ_=>[],
  λi st'=>i<=l.length/\st'=rdO p (s.same (l.take i)) st,λi=>l.length-i⟩ zb ?_ ?_
 ·refine⟨0,Tv,⟨Fae _,rfl⟩,⟨Tq,Tq,?_,Tq,Tv⟩,Tv⟩;rw[<-zj (f:=u8C) l];exact Tq
 ·rintro i st' ⟨hi,rfl⟩;refine bcd (λh1=>?_) (λh1=>?_)
  ·have hlt:i<l.length:=θ;refine⟨i,rfl,za _ (zq hlt) ?_⟩;refine zfy p _ st _ ?_;refine Ij p _ st (((s.same (l.take i)).byte.1.toNat:Int)==(l[i].toNat:Int)) _ ?_;refine⟨⟨θ,θ⟩,?_⟩;refine⟨i+1,?_,⟨hlt,?_⟩,Qaq,Tv⟩
   ·show l.length-(i+1)<l.length-i;omega
   ·have e:(((s.same (l.take i)).byte.1.toNat:Int)==(l[i].toNat:Int))=((s.same (l.take i)).byte.1==l[i]):=by
     rw[Fbu];simp only[beq_iff_eq];constructor
     ·intro h;exact UInt8.toNat_inj.1 θ
     ·intro h;rw[h]
    rw[e,Fab hlt];unfold Rd.same;rw[Fc9];rfl
  ·obtain rfl:i=l.length:=θ;rw[Fal];exact ret h
theorem l6(b:List UInt8)(hb:b.length<=140737488355328)(st:Store)(R:Ja)(h:R (.tup [int (ye b).1,int (ye b).2.1,int (ye b).2.2]) st):Jb 120 [ya b] st R:=by
 refine Qa (c:=cfg 42) zb Tryz.func120 ?_
 refine AWp.loop (σ:=Nat×Int) ⟨λs=>[(2,.av (int s.2)),(7,.av (ya b)),(8,.av (int b.length)),(9,.av (int (s.1:Nat)))],λ_=>[],
  λs st'=>s.1<=b.length/\s.1<=8/\st'=st/\xq (b.drop s.1) s.1 s.2=ye b/\0<=s.2/\s.2<128^s.1,λs=>b.length-s.1⟩ zb ?_ ?_
 ·refine⟨(0,0),Tv,⟨Fae _,φ,rfl,rfl,ψ,ψ⟩,⟨Tq,Tq,?_,Tq,Tv⟩,Tv⟩;rw[<-zj (f:=u8C) b];exact Tq
 ·rintro⟨i,n⟩ st' ⟨hi,h8,rfl,hg,h0,hn⟩;dsimp only at hi h8 hg h0 hn⊢;refine bcd (λh1=>?_) (λh1=>?_)
  ·have hlt:i<b.length:=θ;refine⟨i,rfl,za _ (zq hlt) ?_⟩;rw[Fcx hlt]at hg;unfold xq at hg;have hx:b[i].toNat%128<128:=Nat.mod_lt _ θ;have hs:=Sf (x:=b[i].toNat%128) h0 hn hx;have hp:=Vn (i:=i+1) θ;refine⟨?_,⟨θ,θ⟩,θ,?_⟩
   ·rw[zgy];exact⟨θ,θ⟩
   have hor:jk .or .i64 n (IntKind.i64.wrap (jk .and .u8 b[i].toNat 127*2^(min ((7:Int)*(i:Int)).toNat IntKind.i64.bits)))=n+(b[i].toNat%128:Nat)*128^i:=by rw[zgy];exact or7 h0 hn hx h8
   refine bcd (λh2=>?_) (λh2=>?_)
   ·refine zw (λh3=>?_) (λh3=>?_)
    ·rw[if_pos (.inl ⟨θ,θ⟩)]at hg;refine zw (λ_=>?_) (λh=>absurd h3 h);rw[<-hg]at h;exact ret h
    ·refine zw (λh4=>by exfalso;omega) (λh4=>?_);rw[if_neg θ,if_neg θ]at hg;refine bcd (λh5=>by exfalso;omega) (λh5=>?_);refine⟨⟨θ,θ⟩,?_⟩;refine⟨(i+1,n+(b[i].toNat%128:Nat)*128^i),?_,⟨hlt,θ,rfl,hg,hs.1,hs.2⟩,⟨?_,Tq,Tq,Tq,Tv⟩,Tv⟩
     ·show b.length-(i+1)<b.length-i;omega
     ·simp only;rw[<-hor];exact Tq
   ·refine zw (λh4=>?_) (λh4=>?_)
    ·refine bcd (λh5=>?_) (λh5=>?_)
     ·rw[if_pos (.inr ⟨θ,θ⟩)]at hg;rw[<-hg]at h;exact ret h
     ·rw[if_neg θ,if_pos θ]at hg;refine bcd (λh6=>?_) (λh6=>by exfalso;omega);refine⟨⟨θ,θ⟩,?_⟩;rw[<-hg,<-hor]at h;exact ret h
    ·rw[if_neg θ,if_pos θ]at hg;refine bcd (λh6=>?_) (λh6=>by exfalso;omega);refine⟨⟨θ,θ⟩,?_⟩;rw[<-hg,<-hor]at h;exact ret h
  ·obtain rfl:i=b.length:=θ;rw[List.drop_length]at hg;rw[<-hg]at h;exact ret h
theorem Qap{p:Prop}(h:p:=by simpa using h1):p:=h
theorem Pa(p:Nat)(s:Rd)(st:Store)(lo hi:Int)(hb:s.b.length<=140737488355328)(R:Ja)(h:R (int (s.num lo hi).1) (rdO p (s.num lo hi).2 st)):Jb 58 [ptr p,int lo,int hi] (rdO p s st) R:=by
 refine Qa (c:=cfg 40) zb Tryz.func58 ?_;first|refine za _ (yc p s st) ?_|refine optR (za _ (yc p s st) ?_)|refine optR (optR (za _ (yc p s st) ?_))
 unfold Rd.num Rd.got at h;refine qf (λh1=>?_) (λh1=>?_)
 ·rw[if_pos h1]at h;exact ret h
 rw[if_neg Qap]at h;first|refine za _ (yc p s st) ?_|refine optR (za _ (yc p s st) ?_)|refine optR (optR (za _ (yc p s st) ?_))
 refine l6 s.b hb _ _ ?_;have hf:=D8 s.b;refine fm p s st _ _ _ (λ_ he=>θ) _ ?_;generalize s.take (ye s.b).1 (ye s.b).2.1 (ye s.b).2.2=t at h⊢;simp only at h;refine bcd (λh2=>?_) (λh2=>?_)
 ·refine Ij p t.2 st (decide (t.1<=hi)) _ ?_;have e:inB t.1 lo hi=decide (t.1<=hi):=by unfold inB;rw[Fbu];simp;omega
  rw[e]at h;exact ret h
 ·refine Ij p t.2 st false _ ?_;have e:inB t.1 lo hi=false:=by unfold inB;simp;omega
  rw[e]at h;exact ret h
theorem yne(b:List UInt8)(hb:b.length<=140737488355328)(st:Store)(R:Ja)(h:R (.tup [int (Bz b).1,int (Bz b).2.1,int (Bz b).2.2]) st):Jb 191 [ya b] st R:=by
 refine Qa (c:=cfg 24) zb Tryz.func191 ?_;refine l6 b hb _ _ ?_;have hf:=D8 b;have h0:0<=(ye b).1/\(ye b).1<9223372036854775808:=θ;unfold Bz zig at h;generalize ye b=g at h h0⊢;simp only at h;refine⟨ψ,?_⟩;refine qf (λh2=>?_) (λh2=>?_)
 ·rw[Fbz h0.1]at h2;rw[if_neg h2]at h;have e:g.1.tdiv 2=g.1/2:=Fa1 h0.1;refine⟨ψ,?_,?_,?_,?_⟩
  ·rw[e];exact⟨θ,θ⟩
  ·rw[e];exact⟨θ,θ⟩
  ·rw[e];exact⟨θ,θ⟩
  ·rw[<-e]at h;refine ret ?_;rw[Int.zero_sub];exact h
 ·rw[Fbz h0.1]at h2;rw[if_pos h2]at h;have e:g.1.tdiv 2=g.1/2:=Fa1 h0.1;refine⟨ψ,?_,?_⟩
  ·rw[e];exact⟨θ,θ⟩
  ·rw[<-e]at h;exact ret h
theorem zc0(p:Nat)(s:Rd)(st:Store)(lo hi:Int)(hb:s.b.length<=140737488355328)(R:Ja)(h:R (int (s.int lo hi).1) (rdO p (s.int lo hi).2 st)):Jb 121 [ptr p,int lo,int hi] (rdO p s st) R:=by
 refine Qa (c:=cfg 40) zb Tryz.func121 ?_;first|refine za _ (yc p s st) ?_|refine optR (za _ (yc p s st) ?_)|refine optR (optR (za _ (yc p s st) ?_))
 unfold Rd.int Rd.got at h;refine qf (λh1=>?_) (λh1=>?_)
 ·rw[if_pos h1]at h;exact ret h
 rw[if_neg Qap]at h;first|refine za _ (yc p s st) ?_|refine optR (za _ (yc p s st) ?_)|refine optR (optR (za _ (yc p s st) ?_))
 refine yne s.b hb _ _ ?_;have hf:=D8 s.b;have hf2:(Bz s.b).2.2=0->(Bz s.b).2.1<=s.b.length:=by unfold Bz;simp only;omega
 refine fm p s st _ _ _ (λ_ he=>hf2 he) _ ?_;generalize s.take (Bz s.b).1 (Bz s.b).2.1 (Bz s.b).2.2=t at h⊢;simp only at h;refine bcd (λh2=>?_) (λh2=>?_)
 ·refine Ij p t.2 st (decide (t.1<=hi)) _ ?_;have e:inB t.1 lo hi=decide (t.1<=hi):=by unfold inB;rw[Fbu];simp;omega
  rw[e]at h;exact ret h
 ·refine Ij p t.2 st false _ ?_;have e:inB t.1 lo hi=false:=by unfold inB;simp;omega
  rw[e]at h;exact ret h
theorem yqv(l:List UInt8)(hl:l.length<=100000000000000)(st:Store)(R:Ja)(h:R (ya l) st):Jb 131 [ya l] st R:=by
 refine Qa (c:=cfg 8) zb Tryz.func131 ?_;intro b hb;cases b with
 |true=>
  have:l=[]:=θt;subst this;exact Bg h (Store.Has.refl _) (AV.le_nil 1)
 |false=>
  refine⟨ψ,?_⟩;refine appB (bs:=[]) (.inr (.inl ⟨rfl,rfl,rfl⟩):App 1 st .emp (rowsB []) st) (l:=l) ξ χ (λv st1 ha=>?_);exact Bg h ha.has ha.le
theorem ynb(b:List UInt8)(hb:b.length<=140737488355328)(st:Store)(R:Ja)(h:R (.tup [ya (jr b).1,int (jr b).2.1,int (jr b).2.2]) st):Jb 117 [ya b] st R:=by
 refine Qa (c:=cfg 36) zb Tryz.func117 ?_;refine l6 b hb _ _ ?_;have hf:=D8 b;unfold jr at h;generalize ye b=g at h hf⊢;have nl:AV.le (.s (.slice none 0 0)) (ya []):=AV.le_nil 1;refine qf (λh1=>?_) (λh1=>?_)
 ·rw[if_pos h1]at h;exact Bg h (Store.Has.refl _) (AV.le_tupL ⟨nl,Tt,Tt,Tv⟩)
 rw[if_neg Qap]at h;refine bcd (λh2=>?_) (λh2=>?_)
 ·rw[if_pos h2]at h;exact Bg h (Store.Has.refl _) (AV.le_tupL ⟨nl,Tt,Tt,Tv⟩)
 rw[if_neg h2]at h;refine⟨by rw[zj];exact⟨θ,θ⟩,?_⟩;refine bcd (λh3=>?_) (λh3=>?_)
 ·rw[zj]at h3;rw[if_pos h3]at h;exact Bg h (Store.Has.refl _) (AV.le_tupL ⟨nl,Tt,Tt,Tv⟩)
 rw[zj]at h3;rw[if_neg h3]at h;simp only at h;refine⟨⟨θ,θ⟩,?_⟩;refine⟨g.2.1,g.2.1+g.1.toNat,rfl,?_,θ,θf,?_⟩
 ·show(g.2.1:Int)+g.1=((g.2.1+g.1.toNat:Nat):Int)
  omega
 have e:((rowsB b).take (g.2.1+g.1.toNat)).drop g.2.1=rowsB ((b.drop g.2.1).take g.1.toNat):=by rw[fj,fk,List.drop_take,Nat.add_sub_cancel_left]
 rw[e];refine yqv ((b.drop g.2.1).take g.1.toNat) χ _ _ ?_;refine⟨⟨θ,θ⟩,?_⟩;have e2:((g.2.1:Int)+g.1)=((g.2.1+g.1.toNat:Nat):Int):=θ;rw[<-e2]at h;exact ret h
theorem yf5(p:Nat)(s:Rd)(st:Store)(hb:s.b.length<=140737488355328)(R:Ja)(h:R (ya s.raw.1) (rdO p s.raw.2 st)):Jb 55 [ptr p] (rdO p s st) R:=by
 refine Qa (c:=cfg 25) zb Tryz.func55 ?_;first|refine za _ (yc p s st) ?_|refine optR (za _ (yc p s st) ?_)|refine optR (optR (za _ (yc p s st) ?_))
 unfold Rd.raw at h;refine qf (λh1=>?_) (λh1=>?_)
 ·rw[if_pos h1]at h;exact Bg h (Store.Has.refl _) (AV.le_nil 1)
 rw[if_neg Qap]at h;first|refine za _ (yc p s st) ?_|refine optR (za _ (yc p s st) ?_)|refine optR (optR (za _ (yc p s st) ?_))
 refine ynb s.b hb _ _ ?_;exact fm p s st 0 _ _ (λ_ he=>ync he) _ (ret h)
theorem zd7(p:Nat)(s:Rd)(st:Store)(R:Ja)(h:R (.tup []) (rdO p s.fin st)):Jb 60 [ptr p] (rdO p s st) R:=by
 refine Qa (c:=cfg 10) zb Tryz.func60 ?_;first|refine za _ (yc p s st) ?_|refine optR (za _ (yc p s st) ?_)|refine optR (optR (za _ (yc p s st) ?_))
 refine Ij p s st (((rowsB s.b).length:Int)==0) _ ?_;have e:(((rowsB s.b).length:Int)==0)=(s.b.length==0):=by rw[zj,Fbu];simp
 rw[e];exact ret h
theorem yf1{p:Nat}{s:Rd}{st:Store}(h:st.obj p=none):(rdO p s st).Has st:=C0 h
theorem ykk:AV.le nil (ya []):=AV.le_nil 1
theorem yj2(b:List UInt8)(hb:b.length<=1048576)(st:Store)(R:Ja)(h:R (.tup [.agg (zu (ki b).1),int (ki b).2]) st):Jb 56 [ya b] st R:=by
 refine Qa (c:=cfg 77 [10,12] [25]) zb Tryz.func56 ?_;intro p hp;refine⟨ψ,λtk htk=>?_⟩;refine optR (optR (optR (za _ (H8 _ _ _) ?_)));refine ACalls.drop (st':=rdO p ⟨b,0⟩ st) (zde htk.2) ?_;refine Sm p ⟨b,0⟩ st [84,71] (AV.le_tok _ _ _) φ _ ?_;have l1:=Sq ⟨b,0⟩ [84,71];simp only at l1;refine Pa p _ st 1 128 θ _ ?_;have l2:=Ii (Rd.same ⟨b,0⟩ [84,71]) 1 128;refine Pa p (jg b).2 st 1 128 (by unfold jg;omega) _ ?_;have lt:=yj1 b
 refine AWp.loop (σ:=Int×Rd×List UInt8×AV) ⟨λx=>[(0,.av (ya b)),(2,.bx 2 0),(4,.bx 4 0),(5,.av (ptr p)),(6,.av (int x.1))],λx=>[(2,[int 0,int 0,nil]),(4,[int (jg b).1,int (jf b).1,x.2.2.2])],
  λx st'=>(x.2.1.e=0->0<=x.1/\x.1+x.2.2.1.length<=16384)/\Rd.tilesGo x.1.toNat x.2.1 x.2.2.1=Bw b/\App 1 (rdO p x.2.1 st) x.2.2.2 (rowsB x.2.2.1) st',λx=>x.1.toNat⟩ zb ?_ ?_
 ·refine⟨(IntKind.i64.wrap ((jg b).1*(jf b).1),(jf b).2,[],nil),Tv,⟨λhe=>?_,?_,App.start 1 _⟩,Qaq,Qe⟩
  ·have:=zcj he;simp only;rw[N6 ⟨θ,θ⟩];simp;omega
  ·simp only;by_cases he:(jf b).2.e=0
   ·have:=zcj he;rw[N6 ⟨θ,θ⟩];rfl
   ·unfold Bw;rw[Og he,Og he]
 rintro⟨m,s,l,v⟩ st' ⟨hm,hg,ha⟩;dsimp only at hm hg ha⊢;obtain⟨st1,rfl,hs1,hA⟩:=ha.split;show vc _ _ _ _ _ (rdO p s st1);by_cases hx:m>0/\s.e=0
 ·obtain⟨h1,h2⟩:=hx;refine bcd (λ_=>?_) (λh=>absurd h1 h);first|refine za _ (yc p _ _) ?_|refine optR (za _ (yc p _ _) ?_)|refine optR (optR (za _ (yc p _ _) ?_))
  refine zw (λ_=>?_) (λh=>absurd h2 h);obtain⟨b1,b2⟩:=hm h2;refine zfy p s st1 _ ?_;refine Ij p _ st1 (decide ((s.byte.1.toNat:Int)<=5)) _ ?_;refine⟨ψ,?_⟩;have e5:decide ((s.byte.1.toNat:Int)<=5)=decide (s.byte.1.toNat<=5):=by rw[Fbu];simp;omega
  rw[e5];refine appB (hA (.cells [ya (s.byte.2.must (decide (s.byte.1.toNat<=5))).b,int (s.byte.2.must (decide (s.byte.1.toNat<=5))).e])) (l:=[s.byte.1]) ξ χ (λv2 st2 ha2=>?_);refine zyv ha2.cells ha2.one ξ ξ φ ?_;refine⟨⟨θ,θ⟩,?_⟩;obtain⟨k,rfl⟩:∃k:Nat,m=k+1:=⟨(m-1).toNat,θ⟩
  have e1:((k:Int)+1).toNat=k+1:=θ;rw[e1,R7 h2]at hg;refine⟨((k:Int)+1-1,s.byte.2.must (decide (s.byte.1.toNat<=5)),l++[s.byte.1],v2),?_,⟨λ_=>?_,?_,ha2⟩,Qaq,⟨rfl,rfl,Tv⟩⟩
  ·show((k:Int)+1-1).toNat<((k:Int)+1).toNat;omega
  ·simp;omega
  ·show Rd.tilesGo ((k:Int)+1-1).toNat _ _=_;have e2:((k:Int)+1-1).toNat=k:=θ;rw[e2];exact hg
 ·have hT:Bw b=(l,s):=by
   rw[<-hg];by_cases h2:s.e=0
   ·have:m.toNat=0:=θ;rw[this];rfl
   ·exact Og h2
  rw[hT]at lt;have hS:Im b=(s.same (xi (xe xy (b.take (b.length-s.b.length))))).fin:=by unfold Im;rw[hT]
  unfold ki at h;rw[hT,hS]at h;have hdr:=yf1 (p:=p) (s:=(s.same (xi (xe xy (b.take (b.length-s.b.length))))).fin) hp.1;first|refine bcd (λh1=>za _ (yc p s st1) (zw (λh2=>absurd ⟨h1,h2⟩ hx) (λ_=>?_))) (λh1=>?_)|refine bcd (λh1=>optR (za _ (yc p s st1) (zw (λh2=>absurd ⟨h1,h2⟩ hx) (λ_=>?_)))) (λh1=>?_)|refine bcd (λh1=>optR (optR (za _ (yc p s st1) (zw (λh2=>absurd ⟨h1,h2⟩ hx) (λ_=>?_))))) (λh1=>?_)
  all_goals
   try dsimp only at h lt
   refine Qc zb zz9 ?_;first|refine za _ (yc p s st1) ?_|refine optR (za _ (yc p s st1) ?_)|refine optR (optR (za _ (yc p s st1) ?_))
   refine⟨by rw[zj,zj];exact⟨θ,θ⟩,?_⟩;refine⟨0,b.length-s.b.length,rfl,by rw[zj,zj];show((b.length:Int)-(s.b.length:Int))=((b.length-s.b.length:Nat):Int);omega,θ,θf,?_⟩;refine⟨ep _ _ ⟨⟨rfl,optR (optR (optR (za _ (yc p s st1) rfl))),rfl,Tv⟩,?_⟩,Tv⟩;refine⟨Pu (l:=b.take (b.length-s.b.length)) _ (by rw[fj];exact Tt) θs ⟨Tv,?_⟩,Tv⟩;refine⟨Wx _ _ _ ⟨Tv,?_⟩,Tv⟩;refine⟨Sm p s st1 (xi (xe xy (b.take (b.length-s.b.length)))) (Tt) (by rw[Lj];omega) _ ⟨Tv,?_⟩,Tv⟩;refine zd7 p _ st1 _ ?_;generalize(s.same (xi (xe xy (b.take (b.length-s.b.length))))).fin=z at h hdr⊢;first|refine za _ (yc p z st1) ?_|refine optR (za _ (yc p z st1) ?_)|refine optR (optR (za _ (yc p z st1) ?_))
   refine qf (λh3=>?_) (λh3=>?_)
   ·rw[if_pos h3]at h;refine Qc zb zz8 ?_;first|refine za _ (yc p z st1) ?_|refine optR (za _ (yc p z st1) ?_)|refine optR (optR (za _ (yc p z st1) ?_))
    refine Qat ?_;refine Qau ?_;exact Bg h ((lu hs1).trans hdr) (AV.le_tupL ⟨AV.le_aggL ⟨Tt,Tt,ykk,Tv⟩,Tt,Tv⟩)
   ·rw[if_neg (by simpa using h3)]at h;refine sw (v:=.agg [int (jg b).1,int (jf b).1,v]) (xs:=[int (jg b).1,int (jf b).1,v]) ξ (by simp only[List.all_cons,List.all_nil,ha.one];rfl) ξ ξ φ ?_;exact Bg h ((lu hs1).trans hdr) (AV.le_tupL ⟨AV.le_aggL ⟨Tt,Tt,ha.le,Tv⟩,Tt,Tv⟩)
theorem ug{st:Store}{b:Nat}{x:AObj}(h:st.obj b=some x):st.sO b x=st:=by
 obtain⟨o,t⟩:=st;unfold Store.sO
 congr 1
 funext i
 dsimp only at h⊢;cases hb:Nat.beq i b with
 |true=>rw[(ve _ _).1 hb,h];rfl
 |false=>rfl
theorem zan{p:Nat}{s:Rd}{S:Store}(h:S.obj p=some (.cells [ya s.b,int s.e])):rdO p s S=S:=ug h
theorem yf0(p:Nat)(s t:Rd)(S:Store):rdO p s (rdO p t S)=rdO p s S:=ym _ _ _ _
theorem Ig{p q:Nat}(h:q≠p)(s:Rd)(S:Store):(rdO p s S).obj q=S.obj q:=zg h
theorem Ks{p q:Nat}(h:q≠p)(s:Rd)(S:Store)(x:AObj):(rdO p s S).sO q x=rdO p s (S.sO q x):=Ge h
def ge(q o:Nat):List AV:=[.s (.pointer (some ⟨q,o,none⟩))]
def Bu(offs:List Nat)(s:Rd)(l:List AV):Rd×List AV:=offs.foldl (λ(x:Rd×List AV) o=>((zl x.1).2,zp x.2 o [int (zl x.1).1])) (s,l)
theorem yic{offs:List Nat}{s:Rd}{l:List AV}{i:Nat}(h:i<offs.length):
  Bu (offs.take (i+1)) s l=((zl (Bu (offs.take i) s l).1).2,zp (Bu (offs.take i) s l).2 offs[i] [int (zl (Bu (offs.take i) s l).1).1]):=by
 unfold Bu;rw[Fab h,Fc9];rfl
theorem yid:∀(offs:List Nat) (s:Rd) (l:List AV),(∀o∈offs,o+1<=l.length)->(Bu offs s l).1.b.length<=s.b.length/\(Bu offs s l).2.length=l.length:=by
 intro offs;induction offs with
 |nil=>intro s l _;exact⟨Fak _,rfl⟩
 |cons o os ih=>
  intro s l h;have h1:=h o (Fa7 ..);have hl:(zp l o [int (zl s).1]).length=l.length:=by unfold zp;simp;omega
  have:=ih (zl s).2 (zp l o [int (zl s).1]) λx hx=>by rw[hl];exact h x (Fav _ hx)
  have h2:(zl s).2.b.length<=s.b.length:=Ii s _ _;rw[hl]at this;exact⟨Fbv this.1 h2,this.2⟩
theorem Vx(p x:Nat)(hx:x≠p)(s:Rd)(S:Store)(l:List AV)(offs:List Nat)(hs:s.b.length<=140737488355328)(ho:∀o∈offs,o+1<=l.length)(hl:offs.length<=100)(h1:S.obj p=some (.cells [ya s.b,int s.e]))(h2:S.obj x=some (.cells l))
  (R:Ja) (h:R (.tup []) (rdO p (Bu offs s l).1 (S.sO x (.cells (Bu offs s l).2)))):Jb 54 [ptr p,lst 1 (ge x) offs] S R:=by
 have e0:S=rdO p s (S.sO x (.cells l)):=by rw[ug h2,zan h1]
 rw[e0];refine Qa (c:=cfg 17) zb Tryz.func54 ?_
 refine AWp.loop (σ:=Nat) ⟨λi=>[(0,.av (ptr p)),(6,.av (lst 1 (ge x) offs)),(7,.av (int (offs.length:Nat))),(8,.av (int (i:Nat)))],λ_=>[],
  λi st'=>i<=offs.length/\st'=rdO p (Bu (offs.take i) s l).1 (S.sO x (.cells (Bu (offs.take i) s l).2)),λi=>offs.length-i⟩ zb ?_ ?_
 ·refine⟨0,Tv,⟨Fae _,rfl⟩,⟨Tq,Tq,?_,Tq,Tv⟩,Tv⟩;rw[<-zj (f:=ge x) offs];exact Tq
 rintro i st' ⟨hi,rfl⟩;refine bcd (λc1=>?_) (λc1=>?_);rotate_left
 ·have:i=offs.length:=θ;subst this;rw[Fal];exact ret h
 have hlt:i<offs.length:=θ;have hsn:=yic (s:=s) (l:=l) hlt;have hgl:=yid (offs.take i) s l λo h=>ho o (Fcl h);have hoi:=ho _ (Faa hlt);generalize Bu (offs.take i) s l=g at hsn hgl;refine⟨i,rfl,za _ (zq hlt) ?_⟩;refine Pa p g.1 (S.sO x (.cells g.2)) 0 9223372036854775807 θ _ ?_;refine j4 (i:=ti2) (v:=int (zl g.1).1) (b:=x) (o:=offs[i]) (l:=g.2) rfl rfl rfl (by rw[Ig hx,zd]) θ ?_;rw[Ks hx,ym];refine Qd ?_;refine⟨i+1,?_,⟨hlt,by rw[hsn];rfl⟩,Qaq,Tv⟩;show offs.length-(i+1)<offs.length-i;omega
theorem zgx(s:Rd):0<=(zl s).1/\(zl s).1<9223372036854775808:=Pb s 0 9223372036854775807
theorem Nx(s:Rd):(zl s).2.b.length<=s.b.length:=Ii s _ _
theorem tv(s:Rd):(jb s).2.b.length<=s.b.length:=zc2 s _ _
theorem ziv(p:Nat)(s:Rd)(S:Store)(hs:s.b.length<=140737488355328)(h1:S.obj p=some (.cells [ya s.b,int s.e]))(R:Ja)(h:R (.agg (zn (vj s).1)) (rdO p (vj s).2 S)):Jb 59 [ptr p] S R:=by
 have e1:(vj s)=(⟨(zl s).1,(zl (zl s).2).1,(zl (zl (zl s).2).2).1,((jb (zl (zl (zl s).2).2).2).1,(jb (jb (zl (zl (zl s).2).2).2).2).1),
  (zl (jb (jb (zl (zl (zl s).2).2).2).2).2).1-1,(zl (zl (jb (jb (zl (zl (zl s).2).2).2).2).2).2).1-1,(zl (zl (zl (jb (jb (zl (zl (zl s).2).2).2).2).2).2).2).1,
  (zl (zl (zl (zl (jb (jb (zl (zl (zl s).2).2).2).2).2).2).2).2).1,(zl (zl (zl (zl (zl (jb (jb (zl (zl (zl s).2).2).2).2).2).2).2).2).2).1⟩,
  (zl (zl (zl (zl (zl (jb (jb (zl (zl (zl s).2).2).2).2).2).2).2).2).2).2):=rfl
 rw[e1]at h;refine Qa (c:=cfg 34 [2] []) zb Tryz.func59 ?_;intro x hx;have hxp:x≠p:=hx.ne_obj h1;have hx0:S.obj x=none:=hx.1;have e3:∀l:List AV,Bu [0,1,2] s l=((zl (zl (zl s).2).2).2,zp (zp (zp l 0 [int (zl s).1]) 1 [int (zl (zl s).2).1]) 2 [int (zl (zl (zl s).2).2).1]):=λl=>rfl;have l1:=Nx s;have l2:=Nx (zl s).2;have l3:=Nx (zl (zl s).2).2;generalize(zl s).1=a1 at*;generalize(zl s).2=s1 at*;generalize(zl s1).1=a2 at*;generalize(zl s1).2=s2 at*;generalize(zl s2).1=a3 at*;generalize(zl s2).2=s3 at*;refine⟨ψ,?_⟩;refine Vx p x hxp s _ [int 0,int 0,int 0,int 0,int 0,int 0,int 0,int 0,int 0,int 0] [0,1,2] hs ψ ψ ((zg (Ne.symm hxp)).trans h1) (zd _ _ _) _ ?_;rw[e3,ym];have l4:=tv s3;have l5:=tv (jb s3).2;refine zc0 p s3 _ (-4611686018427387904) 4611686018427387903 θ _ ?_;show Ba _ _ _ _ _ _ (rdO p (jb s3).2 _);generalize ha4:(jb s3).1=a4 at*;have ha4':(s3.int (-4611686018427387904) 4611686018427387903).1=a4:=ha4;rw[ha4'];generalize(jb s3).2=s4 at*;have c3:zp (zp (zp [int 0,int 0,int 0,int 0,int 0,int 0,int 0,int 0,int 0,int 0] 0 [int a1]) 1 [int a2]) 2 [int a3]=[int a1,int a2,int a3,int 0,int 0,int 0,int 0,int 0,int 0,int 0]:=rfl;rw[c3];refine j4 (i:=ti2) (v:=int a4) (b:=x) (o:=3) (l:=[int a1,int a2,int a3,int 0,int 0,int 0,int 0,int 0,int 0,int 0]) rfl rfl rfl (by rw[Ig hxp,zd]) φ ?_;rw[Ks hxp,ym];have c4:zp [int a1,int a2,int a3,int 0,int 0,int 0,int 0,int 0,int 0,int 0] 3 [int a4]=[int a1,int a2,int a3,int a4,int 0,int 0,int 0,int 0,int 0,int 0]:=rfl;rw[c4];refine zc0 p s4 _ (-4611686018427387904) 4611686018427387903 θ _ ?_;show Ba _ _ _ _ _ _ (rdO p (jb s4).2 _);generalize ha5:(jb s4).1=a5 at*;have ha5':(s4.int (-4611686018427387904) 4611686018427387903).1=a5:=ha5;rw[ha5'];generalize(jb s4).2=s5 at*;refine j4 (i:=ti2) (v:=int a5) (b:=x) (o:=4) (l:=[int a1,int a2,int a3,int a4,int 0,int 0,int 0,int 0,int 0,int 0]) rfl rfl rfl (by rw[Ig hxp,zd]) φ ?_;rw[Ks hxp,ym];have c5:zp [int a1,int a2,int a3,int a4,int 0,int 0,int 0,int 0,int 0,int 0] 4 [int a5]=[int a1,int a2,int a3,int a4,int a5,int 0,int 0,int 0,int 0,int 0]:=rfl;rw[c5];have e5:∀l:List AV,Bu [5,6,7,8,9] s5 l=((zl (zl (zl (zl (zl s5).2).2).2).2).2,zp (zp (zp (zp (zp l 5 [int (zl s5).1]) 6 [int (zl (zl s5).2).1]) 7 [int (zl (zl (zl s5).2).2).1]) 8 [int (zl (zl (zl (zl s5).2).2).2).1]) 9 [int (zl (zl (zl (zl (zl s5).2).2).2).2).1]):=λl=>rfl;have b6:=zgx s5;have b7:=zgx (zl s5).2;generalize(zl s5).1=a6 at*;generalize(zl s5).2=s6 at*;generalize(zl s6).1=a7 at*;generalize(zl s6).2=s7 at*;generalize(zl s7).1=a8 at*;generalize(zl s7).2=s8 at*;generalize(zl s8).1=a9 at*;generalize(zl s8).2=s9 at*;generalize(zl s9).1=a10 at*;generalize(zl s9).2=s10 at*;refine⟨ψ,?_⟩;refine Vx p x hxp s5 _ [int a1,int a2,int a3,int a4,int a5,int 0,int 0,int 0,int 0,int 0] [5,6,7,8,9] θ φ ψ (yc _ _ _) (by rw[Ig hxp,zd]) _ ?_;rw[e5,Ks hxp,yf0,ym];have c6:zp (zp (zp (zp (zp [int a1,int a2,int a3,int a4,int a5,int 0,int 0,int 0,int 0,int 0] 5 [int a6]) 6 [int a7]) 7 [int a8]) 8 [int a9]) 9 [int a10]=[int a1,int a2,int a3,int a4,int a5,int a6,int a7,int a8,int a9,int a10]:=rfl;rw[c6];have ox:∀(t:Rd) (l:List AV),(rdO p t (S.sO x (.cells l))).obj x=some (.cells l):=λt l=>by rw[Ig hxp,zd]
 refine za _ (ox _ _) ?_;refine Qd ?_;refine za _ (ox _ _) ?_;refine Qd ?_;refine j4 (i:=ti2) (v:=int (a6-1)) (b:=x) (o:=5) (l:=[int a1,int a2,int a3,int a4,int a5,int a6,int a7,int a8,int a9,int a10]) rfl rfl rfl (ox _ _) φ ?_;rw[Ks hxp,ym];refine j4 (i:=ti2) (v:=int (a7-1)) (b:=x) (o:=6) (l:=[int a1,int a2,int a3,int a4,int a5,int (a6-1),int a7,int a8,int a9,int a10]) rfl rfl rfl (ox _ _) φ ?_;rw[Ks hxp,ym];have c7:zp [int a1,int a2,int a3,int a4,int a5,int (a6-1),int a7,int a8,int a9,int a10] 6 [int (a7-1)]=[int a1,int a2,int a3,int a4,int a5,int (a6-1),int (a7-1),int a8,int a9,int a10]:=rfl;rw[c7];refine za _ (ox _ _) ?_;refine Aa (i:=ti72) (v:=.agg [int a1,int a2,int a3,int a4,int a5,int (a6-1),int (a7-1),int a8,int a9,int a10]) (xs:=[int a1,int a2,int a3,int a4,int a5,int (a6-1),int (a7-1),int a8,int a9,int a10]) (b:=x) (o:=0) (l:=[int a1,int a2,int a3,int a4,int a5,int (a6-1),int (a7-1),int a8,int a9,int a10]) rfl rfl rfl (ox _ _) φ ?_;rw[Ks hxp,ym];exact za _ (ox _ _) (Bg h (lu (C0 hx0)) (Tt))
theorem _root_.Go.V.RowsO.other{α:Type}{k:Nat}{f:α->List AV}{S:Store}{v:AV}{l:List α}(h:RowsO k f S v l){x:Nat}(hx:∀b n c,v=.s (.slice (some ⟨b,0,none⟩) n c)->b≠x)(y:AObj):RowsO k f (S.sO x y) v l:=by
 rcases h with h|⟨b,cap,L,rfl,ho,h2⟩
 ·exact .inl h
 ·exact .inr ⟨b,cap,L,rfl,by rw[zg (hx b _ _ rfl)];exact ho,h2⟩
theorem _root_.Go.V.RowsO.blk{α:Type}{k:Nat}{f:α->List AV}{S:Store}{v:AV}{l:List α}(h:RowsO k f S v l){b n c:Nat}(e:v=.s (.slice (some ⟨b,0,none⟩) n c)):∃y,S.obj b=some y:=by
 rcases h with⟨rfl,_⟩|⟨b',cap,L,rfl,ho,_⟩
 ·cases e
 ·cases e;exact⟨_,ho⟩
structure PSt(S:Store)(p q:Nat)(s:Rd)(cs:List AV)(vB:AV)(B:List Bld)(vU:AV)(U:List Unt):Prop where
 hp:S.obj p=some (.cells [ya s.b,int s.e])
 hq:S.obj q=some (.cells (cs++[vB,vU]))
 ne:q≠p
 rB:RowsO 6 zi S vB B
 rU:RowsO 10 zn S vU U
 nB:∀b n c,vB=.s (.slice (some ⟨b,0,none⟩) n c)->b≠p/\b≠q
 nU:∀b n c,vU=.s (.slice (some ⟨b,0,none⟩) n c)->b≠p/\b≠q
 nBU:∀b n c b' n' c',vB=.s (.slice (some ⟨b,0,none⟩) n c)->vU=.s (.slice (some ⟨b',0,none⟩) n' c')->b≠b'
section
variable {S:Store} {p q:Nat} {s:Rd} {cs:List AV} {vB vU:AV} {B:List Bld} {U:List Unt}
theorem PSt.rd(h:PSt S p q s cs vB B vU U)(t:Rd):PSt (rdO p t S) p q t cs vB B vU U:=
 ⟨yc p t S,by rw[Ig h.ne];exact h.hq,h.ne,h.rB.other (λb n c e=>(h.nB b n c e).1) _,h.rU.other (λb n c e=>(h.nU b n c e).1) _,h.nB,h.nU,h.nBU⟩
theorem PSt.cell(h:PSt S p q s cs vB B vU U)(cs':List AV):PSt (S.sO q (.cells (cs'++[vB,vU]))) p q s cs' vB B vU U:=
 ⟨by rw[zg (Ne.symm h.ne)];exact h.hp,zd _ _ _,h.ne,h.rB.other (λb n c e=>(h.nB b n c e).2) _,h.rU.other (λb n c e=>(h.nU b n c e).2) _,h.nB,h.nU,h.nBU⟩
theorem PSt.add(h:PSt S p q s cs vB B vU U){x:Nat}(hx:Fresh S x)(y:AObj):PSt (S.sO x y) p q s cs vB B vU U:=
 ⟨by rw[zg (Ne.symm (hx.ne_obj h.hp))];exact h.hp,by rw[zg (Ne.symm (hx.ne_obj h.hq))];exact h.hq,h.ne,
  h.rB.other (λb n c e=>by obtain⟨y,hy⟩:=h.rB.blk e;exact Ne.symm (hx.ne_obj hy)) _,h.rU.other (λb n c e=>by obtain⟨y,hy⟩:=h.rU.blk e;exact Ne.symm (hx.ne_obj hy)) _,h.nB,h.nU,h.nBU⟩
theorem PSt.appB(h:PSt S p q s cs vB B vU U){b cap:Nat}{L:List AV}{x:Bld}(hb:Fresh S b\/∃c0,vB=.s (.slice (some ⟨b,0,none⟩) B.length c0))
  (h1:(B++[x]).length<=cap) (h2:cap*6<=(B++[x]).length*6+L.length) (h3:cap<=9223372036854775807):
  PSt ((S.sO b (.cells ((rws zi (B++[x])).flatten++L))).sO q (.cells (cs++[.s (.slice (some ⟨b,0,none⟩) (B++[x]).length cap),vU]))) p q s cs (.s (.slice (some ⟨b,0,none⟩) (B++[x]).length cap)) (B++[x]) vU U:=by
 have hbp:b≠p/\b≠q:=by
  rcases hb with hb|⟨c0,hb⟩
  ·exact⟨hb.ne_obj h.hp,hb.ne_obj h.hq⟩
  ·exact h.nB b _ _ hb
 have hbU:∀b' n c,vU=.s (.slice (some ⟨b',0,none⟩) n c)->b≠b':=λb' n c e=>by
  rcases hb with hb|⟨c0,hb⟩
  ·obtain⟨y,hy⟩:=h.rU.blk e;exact hb.ne_obj hy
  ·exact h.nBU _ _ _ _ _ _ hb e
 refine⟨by rw[zg (Ne.symm h.ne),zg (Ne.symm hbp.1)];exact h.hp,zd _ _ _,h.ne,.inr ⟨b,cap,L,rfl,by rw[zg hbp.2,zd],h1,h2,h3⟩,
  (h.rU.other (λb' n c e=>Ne.symm (hbU b' n c e)) _).other (λb' n c e=>(h.nU b' n c e).2) _,λb' n c e=>?_,h.nU,λb' n c b2 n2 c2 e e2=>?_⟩
 ·cases e;exact hbp
 ·cases e;exact hbU _ _ _ e2
theorem PSt.appU(h:PSt S p q s cs vB B vU U){b cap:Nat}{L:List AV}{x:Unt}(hb:Fresh S b\/∃c0,vU=.s (.slice (some ⟨b,0,none⟩) U.length c0))
  (h1:(U++[x]).length<=cap) (h2:cap*10<=(U++[x]).length*10+L.length) (h3:cap<=9223372036854775807):
  PSt ((S.sO b (.cells ((rws zn (U++[x])).flatten++L))).sO q (.cells (cs++[vB,.s (.slice (some ⟨b,0,none⟩) (U++[x]).length cap)]))) p q s cs vB B (.s (.slice (some ⟨b,0,none⟩) (U++[x]).length cap)) (U++[x]):=by
 have hbp:b≠p/\b≠q:=by
  rcases hb with hb|⟨c0,hb⟩
  ·exact⟨hb.ne_obj h.hp,hb.ne_obj h.hq⟩
  ·exact h.nU b _ _ hb
 have hbB:∀b' n c,vB=.s (.slice (some ⟨b',0,none⟩) n c)->b'≠b:=λb' n c e=>by
  rcases hb with hb|⟨c0,hb⟩
  ·obtain⟨y,hy⟩:=h.rB.blk e;exact Ne.symm (hb.ne_obj hy)
  ·exact h.nBU _ _ _ _ _ _ e hb
 refine⟨by rw[zg (Ne.symm h.ne),zg (Ne.symm hbp.1)];exact h.hp,zd _ _ _,h.ne,
  (h.rB.other (λb' n c e=>hbB b' n c e) _).other (λb' n c e=>(h.nB b' n c e).2) _,.inr ⟨b,cap,L,rfl,by rw[zg hbp.2,zd],h1,h2,h3⟩,h.nB,λb' n c e=>?_,λb' n c b2 n2 c2 e e2=>?_⟩
 ·cases e;exact hbp
 ·cases e2;exact hbB _ _ _ e
end
theorem uz{α:Type}{k:Nat}{f:α->List AV}{S:Store}{v:AV}{l:List α}(h:RowsO k f S v l):cellsOf v=some [v]/\v.one=true:=by rcases h with⟨rfl,_⟩|⟨b,cap,L,rfl,_⟩<;>exact⟨rfl,rfl⟩
theorem yru(s:Rd):Bu [0,1,2,3,4,5] s [int 0,int 0,int 0,int 0,int 0,int 0]=((j7 s).2,zi (j7 s).1):=rfl
theorem yrt(s:Rd):(j7 s).2.b.length<=s.b.length:=bld_PL.len s
theorem ziq(s:Rd):(vj s).2.b.length<=s.b.length:=unt_PL.len s
theorem zf9(b:Bld):(zi b).length=6:=rfl
theorem yrw(u:Bld):∀y∈zi u,∃x,y=AV.s x/\qw x=true:=by intro y hy;simp[zi]at hy;rcases hy with rfl|rfl|rfl|rfl|rfl|rfl<;>exact⟨_,rfl,rfl⟩
theorem Kv{f:FuncId}{xs:List AV}{S:Store}{p:Nat}{s:Rd}{R:Ja}(h:S.obj p=some (.cells [ya s.b,int s.e]))(k:Jb f xs (rdO p s S) R):Jb f xs S R:=by rw[zan h]at k;exact k
def z6:List AV:=[int 0,int 0,int 0,int 0,int 0,nil]
def N7(w:Wld)(vB vU:AV):List AV:=[int w.tick,int w.players,int w.next,int w.G.W,int w.G.H,ya w.G.T,vB,vU]
def zg6(b:List UInt8)(r:AV)(S:Store):Prop:=
 (j6 b≠0/\r=.tup [.agg (z6++[nil,nil]),int (j6 b)])\/(j6 b=0/\¬z7 (ji b)/\r=.tup [.agg (z6++[nil,nil]),int 1])∨
 (j6 b=0/\z7 (ji b)/\∃vB vU,RowsO 6 zi S vB (ji b).B/\RowsO 10 zn S vU (ji b).U/\r=.tup [.agg (N7 (ji b) vB vU),int 0])
theorem pw{st:Store}{w:Wld}{vB vU:AV}(hB:RowsO 6 zi st vB w.B)(hU:RowsO 10 zn st vU w.U){Oth M:Nat->Nat->Prop}{W:World}(sto:StoreOK st Oth M W){x:Value}(hx:VRel W (λb o=>M b o\/Oth b o) (.agg (N7 w vB vU)) x):
  VRel W (λb o=>(M b o\/Oth b o)/\st.obj b=none) (.agg (zo w)) x:=by
 cases hx with
 |agg _ c hl hc=>
  refine .agg _ c hl λi x y hx hy=>?_
  match i with
  |0=>simp only[zo,Fag,Faf]at hx;subst hx;exact xg (hc 0 _ y rfl hy)
  |1=>simp only[zo,Fan,Fag,Faf]at hx;subst hx;exact xg (hc 1 _ y rfl hy)
  |2=>simp only[zo,Fan,Fag,Faf]at hx;subst hx;exact xg (hc 2 _ y rfl hy)
  |3=>simp only[zo,Fan,Fag,Faf]at hx;subst hx;exact xg (hc 3 _ y rfl hy)
  |4=>simp only[zo,Fan,Fag,Faf]at hx;subst hx;exact xg (hc 4 _ y rfl hy)
  |5=>simp only[zo,Fan,Fag,Faf]at hx;subst hx;exact xg (hc 5 _ y rfl hy)
  |6=>simp only[zo,Fan,Fag,Faf]at hx;subst hx;exact hB.borrow zf9 yrw sto (hc 6 _ y rfl hy)
  |7=>simp only[zo,Fan,Fag,Faf]at hx;subst hx;exact hU.borrow Bb R1 sto (hc 7 _ y rfl hy)
  |i+8=>simp[zo]at hx
theorem yjs{g:Store}{w:Wld}{vB vU:AV}(hB:RowsO 6 zi g vB w.B)(hU:RowsO 10 zn g vU w.U)(hw:w.fits)(hn:∀u∈w.U,u.pos.ok)(R:Ja)(h:∀z:Bool,(z=true↔z7 w)->R (V.bool z) g):Jb 47 [.agg (N7 w vB vU)] g R:=
 ACalls.read (ys:=[.agg (zo w)]) (Q:=λr=>∃z:Bool,r=V.bool z/\(z=true↔z7 w)) (λOth M W vs sto hr=>by obtain⟨x,rfl,h1⟩:=Kr hr;exact Reads.cons (pw hB hU sto h1) Reads.nil) (iy w hw hn _ _ λz hz=>⟨z,rfl,hz⟩) (λr ⟨z,e,_⟩=>e▸zd0 _) (λr ⟨z,e,hz⟩=>e▸h z hz)
theorem yk0(b:List UInt8)(hb:b.length<=1048576)(R:Ja)(fin:∀r S,zg6 b r S->R r S):Jb 13 [ya b] Store.empty R:=by
 have eS:Mz b=(xz 4096 vj (xz 256 j7 (jq (zl (zl (zl (Rd.same ⟨b,0⟩ [84,87])).2).2).2).2).2).2:=rfl
 have eW:ji b=⟨(zl (Rd.same ⟨b,0⟩ [84,87])).1,(zl (zl (Rd.same ⟨b,0⟩ [84,87])).2).1,(zl (zl (zl (Rd.same ⟨b,0⟩ [84,87])).2).2).1,(jq (zl (zl (zl (Rd.same ⟨b,0⟩ [84,87])).2).2).2).1,
  (xz 256 j7 (jq (zl (zl (zl (Rd.same ⟨b,0⟩ [84,87])).2).2).2).2).1,(xz 4096 vj (xz 256 j7 (jq (zl (zl (zl (Rd.same ⟨b,0⟩ [84,87])).2).2).2).2).2).1⟩:=rfl
 refine Qb (c:=cfg 132 [4,10,14,16] []) zb Tryz.func13 ?_;refine AWp.seq (AWp.of_vc zb ?_);refine AWp.seq (AWp.of_vc zb ?_);intro q hq;refine AWp.seq (AWp.of_vc zb ?_);intro p hp;have hqp:q≠p:=λe=>by have:=hp.1;rw[<-e,zd]at this;cases this
 change AWp _ _ _ _ _ (rdO p ⟨b,0⟩ (Store.empty.sO q (.cells (z6++[nil,nil]))))
 have P0:PSt (rdO p ⟨b,0⟩ (Store.empty.sO q (.cells (z6++[nil,nil])))) p q ⟨b,0⟩ z6 nil [] nil []:=
  ⟨yc _ _ _,by rw[Ig hqp,zd],hqp,.inl ⟨rfl,rfl⟩,.inl ⟨rfl,rfl⟩,λ_ _ _ e=>θb,λ_ _ _ e=>θb,λ_ _ _ _ _ _ e=>θb⟩
 clear hp hq;generalize rdO p ⟨b,0⟩ (Store.empty.sO q (.cells (z6++[nil,nil])))=S0 at P0⊢;refine AWp.seq (AWp.of_vc zb ?_);refine⟨ψ,λtk htk=>?_⟩;refine optR (optR (optR (za _ (H8 _ _ _) ?_)));refine ACalls.drop (st':=S0) (zde htk.2) ?_;refine Kv P0.hp (Sm p ⟨b,0⟩ S0 [84,87] (AV.le_tok _ _ _) φ _ ?_);have l1:=Sq ⟨b,0⟩ [84,87];dsimp only at l1;generalize Rd.same ⟨b,0⟩ [84,87]=s1 at*;have P1:=P0.rd s1;generalize rdO p s1 S0=S1 at P1⊢;clear P0;have e3:∀l:List AV,Bu [0,1,2] s1 l=((zl (zl (zl s1).2).2).2,zp (zp (zp l 0 [int (zl s1).1]) 1 [int (zl (zl s1).2).1]) 2 [int (zl (zl (zl s1).2).2).1]):=λl=>rfl;have l2:=Nx s1;have l3:=Nx (zl s1).2;have l4:=Nx (zl (zl s1).2).2;generalize(zl s1).1=a1 at*;generalize(zl s1).2=s2 at*;generalize(zl s2).1=a2 at*;generalize(zl s2).2=s3 at*;generalize(zl s3).1=a3 at*;generalize(zl s3).2=s4 at*;refine AWp.seq (AWp.of_vc zb ?_);refine⟨ψ,?_⟩;refine Vx p q hqp s1 S1 (z6++[nil,nil]) [0,1,2] θ ψ ψ P1.hp P1.hq _ ?_;rw[e3];dsimp only;have c3:zp (zp (zp (z6++[nil,nil]) 0 [int a1]) 1 [int a2]) 2 [int a3]=[int a1,int a2,int a3,int 0,int 0,nil]++[nil,nil]:=rfl;rw[c3];have P2:=(P1.cell [int a1,int a2,int a3,int 0,int 0,nil]).rd s4;generalize rdO p s4 (S1.sO q _)=S2 at P2⊢;clear P1;have lg:=gnd_PL.len s4;have gbad:s4.raw.2.e≠0->jq s4=(⟨0,0,[]⟩,s4.raw.2):=λhe=>by unfold jq;rw[if_neg he]
 have gok:s4.raw.2.e=0->jq s4=((ki s4.raw.1).1,s4.raw.2.must (decide ((ki s4.raw.1).2=0))):=λhe=>by unfold jq;rw[if_pos he]
 have hrl:s4.raw.1.length<=1048576:=by
  unfold Rd.raw;split
  ·simp
  ·simp only;unfold jr;split
   ·simp
   ·split
    ·simp
    ·split
     ·simp
     ·simp only[Fam];omega
 generalize jq s4=g at*;refine AWp.seq (AWp.of_vc zb ?_);refine Kv P2.hp (yf5 p s4 S2 θ _ ?_);have P3:=P2.rd s4.raw.2;generalize rdO p s4.raw.2 S2=S3 at P3⊢;clear P2;refine AWp.meetA (σ:=Store×AV) ⟨λ_=>[(0,.av (ya b)),(2,.bx 2 0),(4,.av (ptr q)),(5,.av (ptr p))],λ_=>[(2,z6++[nil,nil])],λx S=>S=x.1/\PSt x.1 p q g.2 [int a1,int a2,int a3,int g.1.W,int g.1.H,x.2] nil [] nil []/\(x.2=ya g.1.T\/(x.2=nil/\g.1.T=[]))⟩ ?_ ?_
 ·refine AWp.of_vc zb ?_;refine za _ P3.hp ?_;refine zw (λc1=>?_) (λc1=>?_);rotate_left
  ·have eg:=gbad c1;subst eg;exact⟨(S3,nil),⟨rfl,P3,.inr ⟨rfl,rfl⟩⟩,Qaq,⟨rfl,Tv⟩⟩
  have eg:=gok c1;refine yj2 s4.raw.1 hrl _ _ ?_;generalize(ki s4.raw.1).1=m at*;generalize(ki s4.raw.1).2=me at*;refine Aa (i:=ti23) (v:=.agg (zu m)) (xs:=zu m) (b:=q) (o:=3) (l:=[int a1,int a2,int a3,int 0,int 0,nil]++[nil,nil]) rfl rfl rfl P3.hq (by show 3+3<=8;decide) ?_;have c4:zp ([int a1,int a2,int a3,int 0,int 0,nil]++[nil,nil]) 3 (zu m)=[int a1,int a2,int a3,int m.W,int m.H,ya m.T]++[nil,nil]:=rfl;rw[c4];have P4:=P3.cell [int a1,int a2,int a3,int m.W,int m.H,ya m.T];generalize S3.sO q _=S4 at P4⊢;refine Kv P4.hp (Ij p s4.raw.2 S4 (me==0) _ ?_);have e0:(me==0)=decide (me=0):=bv _ _;rw[e0];have P5:=P4.rd (s4.raw.2.must (decide (me=0)));generalize rdO p (s4.raw.2.must (decide (me=0))) S4=S5 at P5⊢;have eg1:g.1=m:=by rw[eg]
  have eg2:g.2=s4.raw.2.must (decide (me=0)):=by rw[eg]
  rw[<-eg2,<-eg1]at P5;exact⟨(S5,ya g.1.T),⟨rfl,P5,.inl rfl⟩,Qaq,⟨rfl,Tv⟩⟩
 rintro⟨S6,vT⟩ S6' ⟨rfl,P6,hvT⟩;dsimp only at P6 hvT⊢;clear gbad gok hrl P3;have lB:=(Nl bld_PL (hi:=256) ψ).len g.2;have hBn:=Pb g.2 0 256;have hBe:(g.2.num 0 256).2.e=0->(g.2.num 0 256).1<=256:=λh=>(Kz h).2.2.2;have lBn:=Ii g.2 0 256;have eB:Rd.repGo j7 (g.2.num 0 256).1.toNat (g.2.num 0 256).2 []=xz 256 j7 g.2:=rfl;generalize xz 256 j7 g.2=cB at*;refine AWp.meetA (σ:=Store×AV) ⟨λ_=>[(0,.av (ya b)),(2,.bx 2 0),(4,.av (ptr q)),(5,.av (ptr p))],λ_=>[(2,z6++[nil,nil])],λx S=>S=x.1/\PSt x.1 p q cB.2 [int a1,int a2,int a3,int g.1.W,int g.1.H,vT] x.2 cB.1 nil []⟩ ?_ ?_
 ·refine AWp.seq (AWp.of_vc zb ?_);refine Kv P6.hp (Pa p g.2 _ 0 256 θ _ ?_);have P7:=P6.rd (g.2.num 0 256).2;generalize rdO p (g.2.num 0 256).2 _=S7 at P7⊢;clear P6;generalize(g.2.num 0 256).1=n7 at*;generalize(g.2.num 0 256).2=s7 at*;refine AWp.of_vc zb ?_
  refine AWp.loop (σ:=Int×Store×Rd×AV×List Bld) ⟨λx=>[(0,.av (ya b)),(2,.bx 2 0),(4,.av (ptr q)),(5,.av (ptr p)),(9,.av (int x.1))],λ_=>[(2,z6++[nil,nil])],
   λx S=>S=x.2.1/\PSt x.2.1 p q x.2.2.1 [int a1,int a2,int a3,int g.1.W,int g.1.H,vT] x.2.2.2.1 x.2.2.2.2 nil []/\Rd.repGo j7 x.1.toNat x.2.2.1 x.2.2.2.2=cB/\(0<=x.1/\x.1<9223372036854775808)/\x.2.2.1.b.length<=b.length/\(x.2.2.1.e=0->x.1+x.2.2.2.2.length<=256),λx=>x.1.toNat⟩ zb ?_ ?_
  ·exact⟨(n7,S7,s7,nil,[]),Tv,⟨rfl,P7,eB,hBn,ζ,λh=>by simpa using hBe h⟩,Qaq,⟨rfl,Tv⟩⟩
  clear P7 hBn hBe eB lBn;rintro⟨n,S,s,vB,l⟩ S' ⟨rfl,P,hg,hn,hsl,hne⟩;dsimp only at P hg hn hsl hne⊢;have stop:(n=0\/s.e≠0)->(l,s)=cB:=λhh=>by
   rw[<-hg];rcases hh with rfl|hh
   ·rfl
   ·rw[Ie hh]
  refine bcd (λc1=>?_) (λc1=>?_);rotate_left
  ·have:=stop (.inl θ);subst this;exact⟨(_,vB),⟨rfl,P⟩,⟨Tq,Tq,Tq,Tq,Tv⟩,⟨rfl,Tv⟩⟩
  refine za _ P.hp ?_;refine zw (λc2=>?_) (λc2=>?_);rotate_left
  ·have:=stop (.inr c2);subst this;exact⟨(_,vB),⟨rfl,P⟩,⟨Tq,Tq,Tq,Tq,Tv⟩,⟨rfl,Tv⟩⟩
  have hle:=hne c2;obtain⟨k,rfl⟩:∃k:Nat,n=(k:Int)+1:=⟨(n-1).toNat,θ⟩
  have e1:((k:Int)+1).toNat=k+1:=θ;rw[e1,Hd c2]at hg;intro x hx;have hxp:=hx.ne_obj P.hp;refine⟨ψ,?_⟩;have lx:=yrt s;have P2:=P.add hx (.cells [int 0,int 0,int 0,int 0,int 0,int 0]);refine Vx p x hxp s _ [int 0,int 0,int 0,int 0,int 0,int 0] [0,1,2,3,4,5] θ ψ ψ P2.hp (zd _ _ _) _ ?_;rw[yru,ym];dsimp only;have P3:=(P.add hx (.cells (zi (j7 s).1))).rd (j7 s).2;have hxo:(rdO p (j7 s).2 (S'.sO x (.cells (zi (j7 s).1)))).obj x=some (.cells (zi (j7 s).1)):=by rw[Ig hxp,zd]
  generalize rdO p (j7 s).2 (S'.sO x (.cells (zi (j7 s).1)))=S3 at P3 hxo⊢;clear P2;generalize(j7 s).1=bx at*;generalize(j7 s).2=sx at*;refine za _ P3.hq ?_;refine za _ hxo ?_;refine⟨ψ,?_⟩;refine pi (ie:=ti61) rfl zf9 ψ P3.rB bx rfl θ (λbb cap L q1 q2 q3 q4=>?_);have hbq:bb≠q:=by
   rcases q1 with q1|⟨c0,q1⟩
   ·exact q1.ne_obj P3.hq
   ·exact(P3.nB bb _ _ q1).2
  refine j4 (i:=ti25) (v:=.s (.slice (some ⟨bb,0,none⟩) (l++[bx]).length cap)) (b:=q) (o:=6) (l:=[int a1,int a2,int a3,int g.1.W,int g.1.H,vT]++[vB,nil]) rfl rfl rfl (by rw[zg (Ne.symm hbq)];exact P3.hq) φ ?_;have P4:=P3.appB q1 q2 q3 q4;have c6:zp ([int a1,int a2,int a3,int g.1.W,int g.1.H,vT]++[vB,nil]) 6 [.s (.slice (some ⟨bb,0,none⟩) (l++[bx]).length cap)]=[int a1,int a2,int a3,int g.1.W,int g.1.H,vT]++[.s (.slice (some ⟨bb,0,none⟩) (l++[bx]).length cap),nil]:=rfl;rw[c6];generalize(S3.sO bb _).sO q _=S4 at P4⊢;refine Qd ?_;refine⟨((k:Int)+1-1,S4,sx,_,l++[bx]),?_,⟨rfl,P4,?_,ζ,ζ,λ_=>?_⟩,⟨Tq,Tq,Tq,Tq,Tq,Tv⟩,⟨rfl,Tv⟩⟩
  ·show((k:Int)+1-1).toNat<((k:Int)+1).toNat;omega
  ·dsimp only;rw[show((k:Int)+1-1).toNat=k by omega];exact hg
  ·dsimp only;rw[Fad,Fas]
   push_cast
   omega
 rintro⟨S8,vB⟩ S8' ⟨rfl,P8⟩;dsimp only at P8⊢;have lU:=(Nl unt_PL (hi:=4096) ψ).len cB.2;have hUn:=Pb cB.2 0 4096;have hUe:(cB.2.num 0 4096).2.e=0->(cB.2.num 0 4096).1<=4096:=λh=>(Kz h).2.2.2;have lUn:=Ii cB.2 0 4096;have eU:Rd.repGo vj (cB.2.num 0 4096).1.toNat (cB.2.num 0 4096).2 []=xz 4096 vj cB.2:=rfl;generalize xz 4096 vj cB.2=cU at*;refine AWp.meetA (σ:=Store×AV) ⟨λ_=>[(0,.av (ya b)),(2,.bx 2 0),(4,.av (ptr q)),(5,.av (ptr p))],λ_=>[(2,z6++[nil,nil])],λx S=>S=x.1/\PSt x.1 p q cU.2 [int a1,int a2,int a3,int g.1.W,int g.1.H,vT] vB cB.1 x.2 cU.1⟩ ?_ ?_
 ·refine AWp.seq (AWp.of_vc zb ?_);refine Kv P8.hp (Pa p cB.2 _ 0 4096 θ _ ?_);have P9:=P8.rd (cB.2.num 0 4096).2;generalize rdO p (cB.2.num 0 4096).2 _=S9 at P9⊢;clear P8;generalize(cB.2.num 0 4096).1=n9 at*;generalize(cB.2.num 0 4096).2=s9 at*;refine AWp.of_vc zb ?_
  refine AWp.loop (σ:=Int×Store×Rd×AV×List Unt) ⟨λx=>[(0,.av (ya b)),(2,.bx 2 0),(4,.av (ptr q)),(5,.av (ptr p)),(11,.av (int x.1))],λ_=>[(2,z6++[nil,nil])],
   λx S=>S=x.2.1/\PSt x.2.1 p q x.2.2.1 [int a1,int a2,int a3,int g.1.W,int g.1.H,vT] vB cB.1 x.2.2.2.1 x.2.2.2.2/\Rd.repGo vj x.1.toNat x.2.2.1 x.2.2.2.2=cU/\(0<=x.1/\x.1<9223372036854775808)/\x.2.2.1.b.length<=b.length/\(x.2.2.1.e=0->x.1+x.2.2.2.2.length<=4096),λx=>x.1.toNat⟩ zb ?_ ?_
  ·exact⟨(n9,S9,s9,nil,[]),Tv,⟨rfl,P9,eU,hUn,ζ,λh=>by simpa using hUe h⟩,Qaq,⟨rfl,Tv⟩⟩
  clear P9 hUn hUe eU lUn;rintro⟨n,S,s,vU,l⟩ S' ⟨rfl,P,hg,hn,hsl,hne⟩;dsimp only at P hg hn hsl hne⊢;have stop:(n=0\/s.e≠0)->(l,s)=cU:=λhh=>by
   rw[<-hg];rcases hh with rfl|hh
   ·rfl
   ·rw[Ie hh]
  refine bcd (λc1=>?_) (λc1=>?_);rotate_left
  ·have:=stop (.inl θ);subst this;exact⟨(_,vU),⟨rfl,P⟩,⟨Tq,Tq,Tq,Tq,Tv⟩,⟨rfl,Tv⟩⟩
  refine za _ P.hp ?_;refine zw (λc2=>?_) (λc2=>?_);rotate_left
  ·have:=stop (.inr c2);subst this;exact⟨(_,vU),⟨rfl,P⟩,⟨Tq,Tq,Tq,Tq,Tv⟩,⟨rfl,Tv⟩⟩
  have hle:=hne c2;obtain⟨k,rfl⟩:∃k:Nat,n=(k:Int)+1:=⟨(n-1).toNat,θ⟩
  have e1:((k:Int)+1).toNat=k+1:=θ;rw[e1,Hd c2]at hg;have lx:=ziq s;have P3:=P.rd (vj s).2;refine Qc zb yds ?_;refine za (o:=S'.obj q) _ P.hq ?_;refine⟨ziv p s S' θ P.hp _ ⟨⟨za (o:=(rdO p (vj s).2 S').obj q) _ P3.hq rfl,Tv⟩,?_⟩,Tv⟩;generalize rdO p (vj s).2 S'=S3 at P3⊢;generalize(vj s).1=bx at*;generalize(vj s).2=sx at*;refine⟨ψ,?_⟩;refine⟨pi (ie:=ti72) rfl Bb ψ P3.rU bx rfl θ (λbb cap L q1 q2 q3 q4=>⟨Tv,?_⟩),Tv⟩;have hbq:bb≠q:=by
   rcases q1 with q1|⟨c0,q1⟩
   ·exact q1.ne_obj P3.hq
   ·exact(P3.nU bb _ _ q1).2
  refine⟨?_,Tv⟩;refine za _ rfl (xp rfl (xl (v:=.s (.slice (some ⟨bb,0,none⟩) (l++[bx]).length cap)) rfl rfl rfl rfl ?_));refine j4 (i:=ti26) (v:=.s (.slice (some ⟨bb,0,none⟩) (l++[bx]).length cap)) (b:=q) (o:=7) (l:=[int a1,int a2,int a3,int g.1.W,int g.1.H,vT]++[vB,vU]) rfl rfl rfl (by rw[zg (Ne.symm hbq)];exact P3.hq) φ ?_;have P4:=P3.appU q1 q2 q3 q4;have c6:zp ([int a1,int a2,int a3,int g.1.W,int g.1.H,vT]++[vB,vU]) 7 [.s (.slice (some ⟨bb,0,none⟩) (l++[bx]).length cap)]=[int a1,int a2,int a3,int g.1.W,int g.1.H,vT]++[vB,.s (.slice (some ⟨bb,0,none⟩) (l++[bx]).length cap)]:=rfl;rw[c6];generalize(S3.sO bb _).sO q _=S4 at P4⊢;refine⟨Tv,?_⟩;refine Qd ?_;refine⟨((k:Int)+1-1,S4,sx,_,l++[bx]),?_,⟨rfl,P4,?_,ζ,ζ,λ_=>?_⟩,⟨Tq,Tq,Tq,Tq,Tq,Tv⟩,⟨rfl,Tv⟩⟩
  ·show((k:Int)+1-1).toNat<((k:Int)+1).toNat;omega
  ·dsimp only;rw[show((k:Int)+1-1).toNat=k by omega];exact hg
  ·dsimp only;rw[Fad,Fas]
   push_cast
   omega
 rintro⟨SA,vU⟩ SA' ⟨rfl,PA⟩;dsimp only at PA⊢;have hbl:cU.2.b.length<=b.length:=θ;have hE:j6 b=((cU.2.same (xi (xe xy (b.take (b.length-cU.2.b.length))))).fin).e:=by unfold j6;rw[eS]
 refine AWp.seq (AWp.of_vc zb ?_);refine Qc zb ydr ?_;refine za (o:=SA'.obj p) _ PA.hp ?_;refine⟨by rw[zj,zj];exact⟨θ,θ⟩,?_⟩;refine⟨0,b.length-cU.2.b.length,rfl,by rw[zj,zj];show((b.length:Int)-(cU.2.b.length:Int))=((b.length-cU.2.b.length:Nat):Int);omega,θ,θf,?_⟩;refine⟨eo _ _ ⟨⟨rfl,za (o:=SA'.obj p) _ PA.hp rfl,rfl,Tv⟩,?_⟩,Tv⟩;refine⟨Pu (l:=b.take (b.length-cU.2.b.length)) _ (by rw[fj];exact Tt) θs ⟨Tv,?_⟩,Tv⟩;refine⟨Wx _ _ _ ⟨Tv,?_⟩,Tv⟩;refine⟨Kv PA.hp (Sm p cU.2 SA' _ (Tt) (by rw[Lj];omega) _ ⟨Tv,?_⟩),Tv⟩;generalize cU.2.same (xi (xe xy (b.take (b.length-cU.2.b.length))))=sG at*;have PB:=PA.rd sG;generalize rdO p sG SA'=SB at PB⊢;clear PA;refine AWp.seq (AWp.of_vc zb ?_);refine Kv PB.hp (zd7 p sG SB _ ?_);have PC:=PB.rd sG.fin;generalize rdO p sG.fin SB=SC at PC⊢;clear PB;generalize sG.fin=sF at*;have eWG:ji b=⟨a1,a2,a3,g.1,cB.1,cU.1⟩:=eW;have hleT:AV.le vT (ya g.1.T):=by
  rcases hvT with rfl|⟨rfl,e⟩
  ·exact Tt
  ·rw[e];exact AV.le_nil 1
 have hleW:leL ([int a1,int a2,int a3,int g.1.W,int g.1.H,vT]++[vB,vU]) (N7 (ji b) vB vU):=by rw[eWG];exact⟨Tt,Tt,Tt,Tt,Tt,hleT,Tt,Tt,Tv⟩
 have hrB:=PC.rB;have hrU:=PC.rU;have eWB:cB.1=(ji b).B:=by rw[eWG]
 have eWU:cU.1=(ji b).U:=by rw[eWG]
 refine AWp.meetA (σ:=Store×Rd) ⟨λ_=>[(0,.av (ya b)),(2,.bx 2 0),(4,.av (ptr q)),(5,.av (ptr p))],λ_=>[(2,z6++[nil,nil])],λx S=>S=x.1/\PSt x.1 p q x.2 [int a1,int a2,int a3,int g.1.W,int g.1.H,vT] vB cB.1 vU cU.1∧
  ((j6 b≠0/\x.2.e=j6 b)\/(j6 b=0/\¬z7 (ji b)/\x.2.e=1)\/(j6 b=0/\z7 (ji b)/\x.2.e=0))⟩ ?_ ?_
 ·refine AWp.of_vc zb ?_;refine za _ PC.hp ?_;refine zw (λc1=>?_) (λc1=>?_);rotate_left
  ·exact⟨(SC,sF),⟨rfl,PC,.inl ⟨by rw[hE];exact c1,hE.symm⟩⟩,Qaq,⟨rfl,Tv⟩⟩
  have he0:j6 b=0:=hE.trans c1;refine za _ PC.hq ?_;refine ACalls.le (ys:=[.agg (N7 (ji b) vB vU)]) ⟨AV.le_aggL hleW,Tv⟩ ?_;rw[eWB]at hrB;rw[eWU]at hrU;refine yjs hrB hrU (ylt he0) (ylr b) _ (pr (λhm=>?_) (λhm=>?_))
  ·exact⟨(SC,sF),⟨rfl,PC,.inr (.inr ⟨he0,hm,c1⟩)⟩,Qaq,⟨rfl,Tv⟩⟩
  ·refine j4 (i:=ti2) (v:=int 1) (b:=p) (o:=1) (l:=[ya sF.b,int sF.e]) rfl rfl rfl PC.hp φ ?_;have PD:=PC.rd ⟨sF.b,1⟩;exact⟨(_,⟨sF.b,1⟩),⟨rfl,PD,.inr (.inl ⟨he0,hm,rfl⟩)⟩,⟨Tq,Tq,Tq,Tq,Tv⟩,⟨rfl,Tv⟩⟩
 rintro⟨SD,t⟩ SD' ⟨rfl,PD,hcase⟩;dsimp only at PD hcase⊢;clear PC hrB hrU;have hrB:=PD.rB;have hrU:=PD.rU;rw[eWB]at hrB;rw[eWU]at hrU;refine AWp.seq (AWp.of_vc zb ?_);refine za _ PD.hp ?_;refine qf (λc1=>?_) (λc1=>?_)
 ·refine Qc zb ydq ?_;refine za (o:=SD'.obj p) _ PD.hp ?_;refine⟨⟨⟨za (o:=SD'.obj p) _ PD.hp rfl,Tv⟩,?_⟩,Tv⟩;refine Qau ?_;rcases hcase with⟨g1,g2⟩|⟨g1,g2,g3⟩|⟨g1,g2,g3⟩
  ·exact ret (fin _ _ (.inl ⟨g1,by rw[g2];rfl⟩))
  ·exact ret (fin _ _ (.inr (.inl ⟨g1,g2,by rw[g3];rfl⟩)))
  ·exact absurd g3 c1
 ·refine AWp.of_vc zb ?_;refine za _ PD.hq ?_;have o1:vT.one=true:=by
   rcases hvT with rfl|⟨rfl,_⟩
   ·rfl
   ·rfl
  have o2:=(uz PD.rB).2;have o3:=(uz PD.rU).2;have oall:([int a1,int a2,int a3,int g.1.W,int g.1.H,vT,vB,vU]).all AV.one=true:=by show(true&&(true&&(true&&(true&&(true&&(vT.one&&(vB.one&&(vU.one&&true))))))))=true;rw[o1,o2,o3];rfl
  refine sw (i:=ti27) (xs:=[int a1,int a2,int a3,int g.1.W,int g.1.H,vT,vB,vU]) (l:=z6++[nil,nil]) (b:=2) (o:=0) (v:=.agg ([int a1,int a2,int a3,int g.1.W,int g.1.H,vT]++[vB,vU])) rfl oall rfl ξ (by show 0+8<=8;decide) ?_;rcases hcase with⟨g1,g2⟩|⟨g1,g2,g3⟩|⟨g1,g2,g3⟩
  ·exact absurd (g2.symm.trans c1) g1
  ·rw[g3]at c1;cases c1
  ·refine Bg (fin _ _ (.inr (.inr ⟨g1,g2,vB,vU,hrB,hrU,rfl⟩))) (Store.Has.refl _) (AV.le_tupL (xs:=[.agg ([int a1,int a2,int a3,int g.1.W,int g.1.H,vT]++[vB,vU]),int 0]) ⟨AV.le_aggL hleW,Tt,Tv⟩)
def N8:Wld:=⟨0,0,0,⟨0,0,[]⟩,[],[]⟩
def yte(b:List UInt8)(r:AV):Prop:=
 (j6 b≠0/\r=.tup [.agg (zo N8),int (j6 b)])\/(j6 b=0/\¬z7 (ji b)/\r=.tup [.agg (zo N8),int 1])\/(j6 b=0/\z7 (ji b)/\r=.tup [.agg (zo (ji b)),int 0])
theorem dr{S:Store}{x y:AV}{e:Int}{Oth M:Nat->Nat->Prop}{w:World}{v:Value}(hx:∀u,VRel w (λb o=>M b o\/Oth b o) x u->VRel w (λb o=>(M b o\/Oth b o)/\S.obj b=none) y u)(h:VRel w (λb o=>M b o\/Oth b o) (.tup [x,int e]) v):
  VRel w (λb o=>(M b o\/Oth b o)/\S.obj b=none) (.tup [y,int e]) v:=by
 cases h with
 |tup _ c hl hc=>
  refine .tup _ c hl λi a u ha hu=>?_
  match i with
  |0=>simp only[Fag,Faf]at ha;subst ha;exact hx u (hc 0 _ u rfl hu)
  |1=>simp only[Fan,Fag,Faf]at ha;subst ha;exact xg (hc 1 _ u rfl hu)
  |i+2=>simp at ha
theorem zero_le:AV.le (.agg (z6++[nil,nil])) (.agg (zo N8)):=AV.le_aggL ⟨Tt,Tt,Tt,Tt,Tt,AV.le_nil 1,AV.le_nil 6,AV.le_nil 10,Tv⟩
theorem yk1(b:List UInt8)(hb:b.length<=1048576):Jb 13 [ya b] Store.empty λr _=>yte b r:=
 ACalls.frozen (Q:=λr S=>zg6 b r S) (yk0 b hb _ λr S h=>h) λr S h=>by
  rcases h with⟨g1,rfl⟩|⟨g1,g2,rfl⟩|⟨g1,g2,vB,vU,g3,g4,rfl⟩
  ·exact⟨_,.inl ⟨g1,rfl⟩,λOth M w v hs hv=>dr (λu hu=>xg (zero_le _ _ _ hu)) hv⟩
  ·exact⟨_,.inr (.inl ⟨g1,g2,rfl⟩),λOth M w v hs hv=>dr (λu hu=>xg (zero_le _ _ _ hu)) hv⟩
  ·exact⟨_,.inr (.inr ⟨g1,g2,rfl⟩),λOth M w v hs hv=>dr (λu hu=>pw g3 g4 hs hu) hv⟩
theorem ykz(b:List UInt8)(hb:b.length<=1048576)(st:Store)(R:Ja)(h0:j6 b≠0->R (.tup [.agg (zo N8),int (j6 b)]) st)(h1:j6 b=0->¬z7 (ji b)->R (.tup [.agg (zo N8),int 1]) st)
  (h2:j6 b=0->z7 (ji b)->R (.tup [.agg (zo (ji b)),int 0]) st):Jb 13 [ya b] st R:=
 Fv (yk1 b hb) st R λr hr=>by
  rcases hr with⟨g1,rfl⟩|⟨g1,g2,rfl⟩|⟨g1,g2,rfl⟩
  ·exact h0 g1
  ·exact h1 g1 g2
  ·exact h2 g1 g2
theorem ylu{w:Wld}(hw:G8 w):(Bx w).length<=500008:=by have:=cu hw;unfold Bx;rw[Fad,Lj];omega
theorem u0{l:List Cmd}{k:Nat}(hk:k<l.length):((rws yz l).take (k+1)).drop k=rws yz [l[k]]:=by unfold rws;rw[<-List.map_take,<-List.map_drop,Fab hk,List.drop_left' χ]
theorem zjl(a:Ask25)(hn:∀u∈a.S.W.U,u.pos.ok)(hfs:∀c∈a.S.L,c.sized):Jb 3 [.agg (Ns a)] Store.empty λr _=>r=V.bool true:=by
 refine Qa (c:=cfg 154) zb Tryz.func3 ?_;refine yl9 a.S hfs _ _ (λz hz=>?_);refine zk (λc1=>ret rfl) (λc1=>?_);obtain⟨hgr,hL,hcf⟩:=hz c1;have hfit:a.S.W.fits:=by unfold Po at hgr;exact⟨by unfold Gnd.fits;omega,θ,θ⟩
 refine ye5 a.S.W hfit hn _ _ (λzm hzm=>?_);refine yi ?_;refine zk (λc2=>?_) (λc2=>ret rfl);have hp:playW a.S.W:=⟨hzm.1 c2,hn⟩
 clear hz hgr hfit hzm c1 c2;refine Rt hp ψ _ (λea Sa hA hdA=>?_);refine K0 _ _ _ ?_
 refine AWp.loop (σ:=Nat×Wld×Nat×Store×Store) ⟨λx=>[(1,.bx 1 0),(3,.av (ptr ea)),(5,.av (int (x.1:Nat)))],λ_=>[(1,Ns a)],
  λx st'=>x.1<=6/\st'=x.2.2.2.1.un x.2.2.2.2/\zh x.2.2.2.1 x.2.2.2.2/\EngR ea 3 x.2.2.1 x.2.1 x.2.2.2.1/\x.2.2.1<=x.1*4096/\playW x.2.1,λx=>6-x.1⟩ zb ?_ ?_
 ·exact⟨(0,a.S.W,0,Sa,Store.empty),Tv,⟨Fae _,rfl,hdA,hA,Fae _,hp⟩,Qaq,⟨rfl,Tv⟩⟩
 clear hA hdA hp;rintro⟨i,w,ka,Sa,B⟩ st' ⟨hi,rfl,hdA,hA,hka,hp⟩;dsimp only at hi hdA hA hka hp⊢;refine bcd (λc1=>?_) (λc1=>?_);rotate_left
 ·refine p6 _ _ ?_;exact ret rfl
 refine bcd (λc2=>?_) (λc2=>?_);rotate_left
 ·refine p6 _ _ ?_;exact ret rfl
 have hlt:i<a.S.L.length:=by rw[zj]at c1;omega
 have hwn:=i6 hp.1;have hf:=(wn hp.1).fits;have hl:=ylu hwn;obtain⟨g1,g2⟩:=yls hwn;refine m3 hA hdA hp _ ?_;refine yl6 w hf hp.2 _ _ (λhno=>absurd hp.1 hno) (λ_=>?_);refine ykz (Bx w) θ _ _ (λhno=>absurd g2 hno) (λ_ hno=>absurd (by rw[g1];exact hp.1) hno) (λ_ _=>?_);rw[g1];refine Qc zb yam ?_;refine⟨zhv _ 9 ψ ψ _ _ (λn0 h0 h9=>⟨Qe,?_⟩),Tv⟩;refine Qd ?_;refine⟨Rt hp θ _ (λec Sc hC hdC=>⟨Qe,?_⟩),Tv⟩;refine Qau ?_;refine Qau ?_;refine K0 _ _ _ ?_;refine K0 _ _ _ ?_;refine K0 _ _ _ ?_;have un2:∀{x y z:Store},zh x y->zh x z->zh x (y.un z):=λh1 h2 j h3 h4=>(un_has.1 h4).elim (h1 j h3) (h2 j h3);have sp:∀{x y z:Store},zh x (y.un z)->zh x y/\zh x z:=λh=>⟨λj h1 h2=>h j h1 (un_has.2 (.inl h2)),λj h1 h2=>h j h1 (un_has.2 (.inr h2))⟩
 obtain⟨hca,hcB⟩:=sp hdC;rw[Ob hca]
 refine AWp.loop (σ:=Nat×(Wld×Wld)×(Nat×Nat)×(Store×Store×Store)) ⟨λx=>[(1,.bx 1 0),(3,.av (ptr ea)),(5,.av (int (i:Nat))),(10,.av (ptr ec)),(12,.av (int (x.1:Nat)))],λ_=>[(1,Ns a)],
  λx st'=>x.1<=3/\st'=x.2.2.2.1.un (x.2.2.2.2.1.un x.2.2.2.2.2)/\(zh x.2.2.2.1 x.2.2.2.2.1/\zh x.2.2.2.1 x.2.2.2.2.2/\zh x.2.2.2.2.1 x.2.2.2.2.2)/\EngR ea 3 x.2.2.1.1 x.2.1.1 x.2.2.2.1/\EngR ec (1+n0) x.2.2.1.2 x.2.1.2 x.2.2.2.2.1/\(x.1=0->x.2.1.1=w/\x.2.1.2=w/\x.2.2.1.1<=i*4096)/\x.2.2.1.1<=(i+1)*4096/\x.2.2.1.2<=x.1*4096/\playW x.2.1.1/\playW x.2.1.2,λx=>3-x.1⟩ zb ?_ ?_
 ·exact⟨(0,(w,w),(ka,0),(Sa,Sc,B)),Tv,⟨Fae _,rfl,⟨Fe hca,hdA,hcB⟩,hA,hC,λ_=>⟨rfl,rfl,hka⟩,ζ,Fae _,hp,hp⟩,Qaq,⟨rfl,Tv⟩⟩
 clear hA hC hca hcB hdC hdA hka;rintro⟨k,⟨wa,wc⟩,⟨ka,kc⟩,⟨Sa,Sc,B⟩⟩ st' ⟨hk,rfl,⟨hac,haB,hcB⟩,hA,hC,hz,hka,hkc,hpa,hpc⟩;dsimp only at hk hac haB hcB hA hC hz hka hkc hpa hpc⊢;refine bcd (λd1=>?_) (λd1=>?_);rotate_left
 ·refine Qd ?_;exact⟨(i+1,wa,ka,Sa,Sc.un B),(show 6-(i+1)<6-i by omega),⟨ζ,rfl,un2 hac haB,hA,hka,hpa⟩,Qaq,⟨rfl,Tv⟩⟩
 refine Qd ?_;refine bcd (λd2=>?_) (λd2=>?_);rotate_left
 ·refine Qd ?_;exact⟨(i+1,wa,ka,Sa,Sc.un B),(show 6-(i+1)<6-i by omega),⟨ζ,rfl,un2 hac haB,hA,hka,hpa⟩,Qaq,⟨rfl,Tv⟩⟩
 have hr:=zj (f:=yz) a.S.L;have hlk:i+k<a.S.L.length:=θ;have hfk:∀c∈[a.S.L[i+k]],c.fits:=λc hc=>hcf c (Fbt.1 hc▸Faa hlk);have hfi:∀c∈[a.S.L[i]],c.fits:=λc hc=>hcf c (Fbt.1 hc▸Faa hlt);refine Qd ?_;refine Qd ?_;refine Qd ?_;refine⟨i+k,i+k+1,rfl,rfl,θ,θ,?_⟩;rw[u0 hlk,Ob hac];refine zeh hC (un2 (Fe hac) hcB) hpc [a.S.L[i+k]] hfk (show 1<=512 by decide) θ _ (λkc2 Sc2 hkc2 hC2 hdC2=>?_);obtain⟨hca2,hcB2⟩:=sp hdC2;refine zw (λd3=>?_) (λd3=>?_);rotate_left
 ·refine Qd ?_;exact⟨(k+1,(wa,Gn wc [a.S.L[i+k]]),(ka,kc2),(Sa,Sc2,B)),(show 3-(k+1)<3-k by omega),⟨ζ,Ob hca2 _,⟨Fe hca2,haB,hcB2⟩,hA,hC2,(λe=>nomatch e),hka,ζ,hpa,za5 hpc _⟩,Qaq,⟨rfl,Tv⟩⟩
 have hk0:k=0:=θ;subst hk0;obtain⟨rfl,rfl,hka0⟩:=hz rfl;rw[show a.S.L[i+0]=a.S.L[i]from rfl]at hC2⊢;refine Qd ?_;refine⟨i,i+1,rfl,rfl,θ,θ,?_⟩;rw[u0 hlt,Ob hca2];refine zeh hA (un2 (Fe hca2) haB) hpa [a.S.L[i]] hfi (show 1<=512 by decide) θ _ (λka2 Sa2 hka2 hA2 hdA2=>?_);obtain⟨hac2,haB2⟩:=sp hdA2;have hp2:=za5 hpa [a.S.L[i]];have hl2:(Mq wc [a.S.L[i]]).length<=1:=yia wc _;refine K0 _ _ _ ?_;refine K0 _ _ _ ?_;refine qf (λc2=>absurd rfl c2) (λ_=>?_);refine yo3 _ θ _ _ ?_;refine m3 hA2 hdA2 hp2 _ ?_;refine yos hC2 (un2 (Fe hac2) hcB2) hp2 (Ob hac2 _) _ ?_;refine yow _ (wn hp2.1).fits _ _ ?_;refine Qd ?_;exact⟨(0+1,(Gn wc [a.S.L[i]],Gn wc [a.S.L[i]]),(ka2,kc2),(Sa2,Sc2,B)),(show 3-(0+1)<3-0 by omega),⟨ζ,rfl,⟨hac2,haB2,hcB2⟩,hA2,hC2,(λe=>nomatch e),ζ,ζ,hp2,hp2⟩,Qaq,⟨rfl,Tv⟩⟩
theorem zjk(a:Ask25)(hn:∀u∈a.S.W.U,u.pos.ok)(hfs:∀c∈a.S.L,c.sized)(st:Store)(R:Ja)(h:R (V.bool true) st):Jb 3 [.agg (Ns a)] st R:=
 Fv (zjl a hn hfs) st R λr hr=>hr▸h
end Go.Proofs
