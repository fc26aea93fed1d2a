/- Ground of laws of throngtop: contracts and plain lemmas; no condition beyond the row's own. -/
import Derived.Test.YtkahacegdhllcaaGreatLA
set_option linter.unusedSimpArgs false
set_option linter.unusedVariables false
set_option linter.defProp false
namespace Go.Proofs
open Go Go.V
set_option maxRecDepth 20000
set_option maxHeartbeats 4000000
def Qal{p:Prop}(h:p:=by have h1:=hn.1;omega):p:=h
def yie(p:Per){om oh oa:Option Addr}{lm lh la cm ch ca:Nat}(hh:p.hashes.length<=1000000000)(ht:-1000000000000000<=p.turn/\p.turn<=1000000000000000)(d k:Int)(hd:-1000000000000000<=d/\d<=1000000000000000)(st:Store)(R:Ja)(h:R (V.bool (Ib p d k)) st):Jb 180 [.agg (ql p (.s (.slice om lm cm)) (.s (.slice oh lh ch)) (.s (.slice oa la ca))),int d,u64 k] st R:=by
 refine Qy 33 Tryz.func180 ?_;refine Qd ?_;have hl:(rws ym p.hashes).length=p.hashes.length:=θi;refine Qd ?_;have no:¬(d<p.turn/\0<=(p.hashes.length:Int)-(p.turn-d))->R (V.bool false) st:=λhn=>by have e:Ib p d k=false:=decide_eq_false λhh=>hn ⟨hh.1,hh.2.1⟩;rw[e]at h;exact h
 refine bcd (λc1=>?_) (λc1=>ret (no λhh=>c1 hh.1));refine bcd (λc2=>?_) (λc2=>ret (no λhh=>by have:=hh.2;rw[hl]at c2;omega));have hk:(((rws ym p.hashes).length:Nat):Int)-(p.turn-d)=(((p.hashes.length:Int)-(p.turn-d)).toNat:Nat):=θ;have hlt:((p.hashes.length:Int)-(p.turn-d)).toNat<p.hashes.length:=θ;refine⟨((p.hashes.length:Int)-(p.turn-d)).toNat,hk,za _ (zp hlt) ?_⟩;refine ret ?_;have hg:p.hashes.getD ((p.hashes.length:Int)-(p.turn-d)).toNat 0=p.hashes[((p.hashes.length:Int)-(p.turn-d)).toNat]:=by rw[Fao,Fab hlt];rfl
 have e:Ib p d k=(p.hashes[((p.hashes.length:Int)-(p.turn-d)).toNat] != k):=by
  unfold Ib;rw[hg];have c2':0<=(p.hashes.length:Int)-(p.turn-d):=θ;by_cases e:p.hashes[((p.hashes.length:Int)-(p.turn-d)).toNat]=k
  ·simp[e]
  ·rw[decide_eq_true (show _/\_/\_ from⟨c1,c2',e⟩)];exact(bne_iff_ne.2 e).symm
 rw[e]at h;exact h
def yu6(p:Per){q:Nat}{vm vh va:AV}{S:Store}(hS:Sp (ja q (ql p vm vh va)::D7 p vm vh va) S)(f:Nat)(hf:f<p.acked.length)(h1:Dy p.mine)(h4:p.acked.length<=1000000000)(z x:Int)(hz:z=((f+1:Nat):Int))(R:Ja)
  (h:∀vm' S',Sp (ja q (ql (xg p f x) vm' vh va)::D7 (xg p f x) vm' vh va) S'->R (.tup []) S'):Jb 179 [ptr q,int z,int x] S R:=by
 subst hz;exact yu7 p hS f hf h1 h4 x R h
def zld(p:Per)(f:Nat)(x:Int):(xg p f x).hashes=p.hashes/\(xg p f x).turn=p.turn/\(xg p f x).split=p.split:=by unfold xg;split<;>exact⟨rfl,rfl,rfl⟩
open Classical in
noncomputable def jr(p:Per)(n:Nte):Int:=if¬qj p\/¬Ck n\/n.dst≠p.id\/n.src>p.players then 1 else if n.inp.t>p.turn+16 then 4 else 0
def ji(p:Per)(n:Nte):Per:=if n.inp.t=p.has.getD (n.src-1).toNat 0+1 then{p with inputs:=j5 p.inputs n.inp,has:=p.has.set (n.src-1).toNat (p.has.getD (n.src-1).toNat 0+1)}else p
def qr(p:Per)(n:Nte):Per:={xg (ji p n) (n.src-1).toNat n.have_ with split:=p.split||Ib (xg (ji p n) (n.src-1).toNat n.have_) n.done n.hash}
def zce{u:Prop}(h:u:=by
 refine yu6 q hSq (n.src-1).toNat (by show(n.src-1).toNat<p.acked.length;have:=hp.2.2.2.1.2.1;have:=hp.2.2.1.2.1;omega) hs.1 hs.2.2.2.1 n.src n.have_ Qal _ (λvm' S3 hS3=>?_);have⟨_,_,_,_,rm⟩:=Foc.look1 (hS3.at 3 rfl);obtain⟨om',cm',rfl,_⟩:=RowsQ.form (k:=3) (f:=zh) (l:=(xg q (n.src-1).toNat n.have_).mine) rm;have⟨k1,k2,k3⟩:=zld q (n.src-1).toNat n.have_;have k1:(xg q (n.src-1).toNat n.have_).hashes=p.hashes:=k1;have k2:(xg q (n.src-1).toNat n.have_).turn=p.turn:=k2;have k3:(xg q (n.src-1).toNat n.have_).split=p.split:=k3;have fin:∀z:Bool,z=(p.split||Ib (xg q (n.src-1).toNat n.have_) n.done n.hash)->∃r st',AV.le (.tup [.agg (ql {xg q (n.src-1).toNat n.have_ with split:=z} (.s (.slice om' (xg q (n.src-1).toNat n.have_).mine.length cm')) (.s (.slice (some ⟨bh,0,none⟩) p.has.length ch)) (.s (.slice oa p.acked.length ca))),int 0]) r/\(S3.sO b2 (.cells (ql {xg q (n.src-1).toNat n.have_ with split:=z} (.s (.slice om' (xg q (n.src-1).toNat n.have_).mine.length cm')) (.s (.slice (some ⟨bh,0,none⟩) p.has.length ch)) (.s (.slice oa p.acked.length ca))))).Has st'/\((jr p n≠0/\r=.tup [.agg (zo Az),int (jr p n)])\/(jr p n=0/\∃vm vh va,Sp (D7 (qr p n) vm vh va) st'/\r=.tup [.agg (ql (qr p n) vm vh va),int 0])):=by
  intro z hz;have hS4:=(hS3.at 0 rfl).store (ql {xg q (n.src-1).toNat n.have_ with split:=z} (.s (.slice om' (xg q (n.src-1).toNat n.have_).mine.length cm')) (.s (.slice (some ⟨bh,0,none⟩) p.has.length ch)) (.s (.slice oa p.acked.length ca)));have⟨a,S6,e,hd,ha,hr⟩:=hS4;rw[e];have et2:qr p n={xg q (n.src-1).toNat n.have_ with split:=z}:=by unfold qr;rw[et,hz]
  exact Bu (Tt) ⟨λb x hx=>zg hx,λb y hy=>Ft hy⟩ (.inr ⟨e0,_,_,_,by rw[et2];exact hr,by rw[et2]⟩)
 refine za (o:=S3.obj b2) _ (hS3.at 0 rfl).obj ?_;refine zk (λc7=>?_) (λc7=>?_)
 ·refine ye (i:=ti4) (v:=V.bool true) (b:=b2) (o:=0+10) (l:=ql (xg q (n.src-1).toNat n.have_) (.s (.slice om' (xg q (n.src-1).toNat n.have_).mine.length cm')) (.s (.slice (some ⟨bh,0,none⟩) p.has.length ch)) (.s (.slice oa p.acked.length ca))) rfl rfl rfl (hS3.at 0 rfl).obj (show 0+10+1<=11 by decide) rfl ?_;refine za (o:=(S3.sO b2 _).obj b2) _ (zd _ _ _) ?_;exact fin true (by rw[k3]at c7;rw[c7];rfl)
 refine za (o:=S3.obj b2) _ (hS3.at 0 rfl).obj ?_;refine yie _ (by rw[k1];exact hs.2.2.2.2) (by rw[k2];unfold maxT at htu;omega) n.done n.hash (by have:=hn.2.2.2.1;unfold trnP maxT at this;omega) _ _ ?_;refine ye (i:=ti4) (v:=V.bool (Ib (xg q (n.src-1).toNat n.have_) n.done n.hash)) (b:=b2) (o:=0+10) (l:=ql (xg q (n.src-1).toNat n.have_) (.s (.slice om' (xg q (n.src-1).toNat n.have_).mine.length cm')) (.s (.slice (some ⟨bh,0,none⟩) p.has.length ch)) (.s (.slice oa p.acked.length ca))) rfl rfl rfl (hS3.at 0 rfl).obj (show 0+10+1<=11 by decide) rfl ?_;refine za (o:=(S3.sO b2 _).obj b2) _ (zd _ _ _) ?_;exact fin (Ib (xg q (n.src-1).toNat n.have_) n.done n.hash) (by rw[k3]at c7;rw[c7];rfl)):u:=h
def zz8(p:Per)(n:Nte)(hf:p.fits)(hs:Ag p)(hnf:n.inp.fits)(hnx:small n.inp.C):Jb 139 [.agg (zo p),.agg (yg n)] Store.empty λr S=>
  (jr p n≠0/\r=.tup [.agg (zo Az),int (jr p n)])\/(jr p n=0/\∃vm vh va,Sp (D7 (qr p n) vm vh va) S/\r=.tup [.agg (ql (qr p n) vm vh va),int 0]):=by
 have e1:¬qj p\/¬Ck n\/n.dst≠p.id\/n.src>p.players->jr p n=1:=λh=>if_pos h;refine Qa (c:=cfg 88 [2] []) zb Tryz.func139 ?_;intro b2 hb2;have o2:=zd Store.empty b2 (.cells (zo p));have hS:=Sp.new (l:=[]) (S:=Store.empty) rfl hb2 (zo p);generalize Store.empty.sO b2 _=S0 at o2 hS⊢
 have bad:∀e:Int,e≠0->jr p n=e->∃r st',(AV.tup [.agg [int 0,int 0,int 0,int 0,int 0,.s (.slice none 0 0),.s (.slice none 0 0),.s (.slice none 0 0),.s (.slice none 0 0),.s (.slice none 0 0),V.bool false],int e]).le r/\S0.Has st'/\((jr p n≠0/\r=.tup [.agg (zo Az),int (jr p n)])\/(jr p n=0/\∃vm vh va,Sp (D7 (qr p n) vm vh va) st'/\r=.tup [.agg (ql (qr p n) vm vh va),int 0])):=λe h0 he=>
  ⟨.tup [.agg (zo Az),int e],S0,AV.le_tupL (xs:=[_,int e]) (ys:=[_,int e]) ⟨Pi,Tt,Tv⟩,Store.Has.refl _,.inl ⟨by rw[he];exact h0,by rw[he]⟩⟩
 refine Qbc ?_;refine Ii p hf _ _ (λz1 h1=>?_);refine yj ?_;refine zk (λc1=>?_) (λc1=>?_);rotate_left
 ·exact bad 1 ψ (e1 (.inl λhh=>by have:=h1.2 hh;rw[this]at c1;cases c1))
 have hp:=h1.1 c1;refine yk2 n hnf _ _ (λz2 h2=>?_);refine yj ?_;refine zk (λc2=>?_) (λc2=>?_);rotate_left
 ·exact bad 1 ψ (e1 (.inr (.inl λhh=>by have:=h2.2 hh;rw[this]at c2;cases c2)))
 have hn:=h2.1 c2;refine Qbc ?_;refine qi (λc3=>?_) (λc3=>?_)
 ·exact bad 1 ψ (e1 (.inr (.inr (.inl c3))))
 refine Qbc ?_;refine bcd (λc4=>?_) (λc4=>?_)
 ·exact bad 1 ψ (e1 (.inr (.inr (.inr c4))))
 refine Qbc ?_;refine ze (by have:=hp.1.2.2.2;unfold maxT at this;omega) ?_;have hno:¬(¬qj p\/¬Ck n\/n.dst≠p.id\/n.src>p.players):=λhh=>hh.elim (λh=>h hp) λhh=>hh.elim (λh=>h hn) λhh=>hh.elim (λh=>h c3) c4;refine bcd (λc5=>?_) (λc5=>?_)
 ·exact bad 4 ψ (by unfold jr;rw[if_neg hno,if_pos c5])
 have e0:jr p n=0:=by unfold jr;rw[if_neg hno,if_neg c5]
 refine Qbc ?_;refine Rj (zes p hs (λv N=>∃vm vh va,Sp (D7 p vm vh va) N/\v=.agg (ql p vm vh va)) (λvm vh va N h=>⟨vm,vh,va,h,rfl⟩)) _ _ ?_;rintro _ N ⟨vm,vh,va,hN,rfl⟩ hd;have⟨_,_,_,_,ra⟩:=Foc.look1 (hN.at 0 rfl);have⟨_,_,_,_,rh⟩:=Foc.look1 (hN.at 1 rfl);have⟨_,_,_,_,rm⟩:=Foc.look1 (hN.at 2 rfl);obtain⟨oa,ca,rfl,_⟩:=RowsQ.form (k:=1) (f:=zn) (l:=p.acked) ra;obtain⟨oh,ch,rfl,_⟩:=RowsQ.form (k:=1) (f:=zn) (l:=p.has) rh;obtain⟨om,cm,rfl,_⟩:=RowsQ.form (k:=3) (f:=zh) (l:=p.mine) rm;have hS1:=Sp.more (P:=ja b2 (zo p)) (a:=S0) φa hN (xy hd);rw[unC (xy hd)]at hS1;generalize N.un S0=S1 at hS1⊢;refine k8 (i:=ti63) (v:=.agg (ql p (.s (.slice om p.mine.length cm)) (.s (.slice oh p.has.length ch)) (.s (.slice oa p.acked.length ca)))) (xs:=ql p (.s (.slice om p.mine.length cm)) (.s (.slice oh p.has.length ch)) (.s (.slice oa p.acked.length ca))) (b:=b2) (o:=0) (l:=zo p) rfl rfl rfl (hS1.at 0 rfl).obj (show 0+11<=11 by decide) ?_;have hS2:=(hS1.at 0 rfl).store (ql p (.s (.slice om p.mine.length cm)) (.s (.slice oh p.has.length ch)) (.s (.slice oa p.acked.length ca)));rw[show zq (zo p) 0 (ql p (.s (.slice om p.mine.length cm)) (.s (.slice oh p.has.length ch)) (.s (.slice oa p.acked.length ca)))=ql p (.s (.slice om p.mine.length cm)) (.s (.slice oh p.has.length ch)) (.s (.slice oa p.acked.length ca))from rfl];generalize S1.sO b2 _=S2 at hS2⊢;have hsl:(n.src-1).toNat<p.has.length:=by have h1:=hn.1;have h2:=hp.2.2.1.2.1;omega
 have hsi:n.src-1=(((n.src-1).toNat:Nat):Int):=by have h1:=hn.1;omega
 have hgh:p.has.getD (n.src-1).toNat 0=p.has[(n.src-1).toNat]:=by rw[Fao,Fab hsl];rfl
 have hne:p.has≠[]:=Fdv θ;have⟨bh,ch2,Lh,eh,oh2,a1,a2,a3,hK⟩:=Foc.row (k:=1) (f:=zn) (l:=p.has) (hS2.at 2 rfl) hne;cases eh;have hq2:=(hS2.at 0 rfl).obj;have hhb:=hp.2.2.1.1 _ hsl;have htu:=hp.1.2.2.2;have hde:=hp.1.2.2.1;refine Qc zb ye4 ?_;refine Qbc ?_;refine ze Qal ?_;refine⟨(n.src-1).toNat,hsi,hsl,?_⟩;refine Qbc ?_;refine n7 (i:=ti2) (x:=int p.has[(n.src-1).toNat]) rfl (D3 (f:=zn) (k:=1) (λ_=>rfl) hsl) ?_;refine ze (by unfold maxT at htu;omega) ?_;refine zu (λc6=>?_) (λc6=>?_)
 ·have hno2:¬Cn p.inputs n.inp:=by
   rintro⟨y,hy,hy1,hy2⟩;obtain⟨j,hj,rfl⟩:=Faf hy;have hn7:=hn.2.2.2.2.2.2;rw[if_neg θ]at hn7;have g2:=(hp.2.2.2.2.2.2.2.2.2.2 j hj).2.2;rw[hy2,hn7.2]at g2;have:=g2 hsl;omega
  have et:ji p n={p with inputs:=j5 p.inputs n.inp,has:=p.has.set (n.src-1).toNat (p.has[(n.src-1).toNat]+1)}:=by unfold ji;rw[hgh,if_pos c6]
  refine Qbc ?_;refine zb3 p.inputs hs.2.1 hp.2.2.2.2.2.2.2.2.2.1 n.inp hnx _ _ (λhh=>absurd hh hno2) (λ_=>?_);have hS5:=(hS2.at 0 rfl).store (ql {p with inputs:=j5 p.inputs n.inp} (.s (.slice om p.mine.length cm)) (.s (.slice (some ⟨bh,0,none⟩) p.has.length ch)) (.s (.slice oa p.acked.length ca)));refine ye (i:=ti62) (v:=lst 3 zh (j5 p.inputs n.inp)) (b:=b2) (o:=0+6) (l:=ql p (.s (.slice om p.mine.length cm)) (.s (.slice (some ⟨bh,0,none⟩) p.has.length ch)) (.s (.slice oa p.acked.length ca))) (st2:=S2.sO b2 (.cells (ql {p with inputs:=j5 p.inputs n.inp} (.s (.slice om p.mine.length cm)) (.s (.slice (some ⟨bh,0,none⟩) p.has.length ch)) (.s (.slice oa p.acked.length ca))))) rfl rfl rfl hq2 (show 0+6+1<=11 by decide) rfl ?_;generalize S2.sO b2 _=S5 at hS5⊢;have⟨bh2,ch3,Lh2,eh2,oh3,a4,a5,a6,hK2⟩:=Foc.row (k:=1) (f:=zn) (l:=p.has) (hS5.at 2 rfl) hne;cases eh2;have hq5:=(hS5.at 0 rfl).obj;refine Qbc ?_;refine ze Qal ?_;refine⟨(n.src-1).toNat,hsi,hsl,?_⟩;refine Qbc ?_;refine n7 (i:=ti2) (x:=int p.has[(n.src-1).toNat]) rfl (D3 (f:=zn) (k:=1) (λ_=>rfl) hsl) ?_;refine ze (by unfold maxT at htu;omega) ?_;refine⟨(n.src-1).toNat,hsi,hsl,?_⟩;refine ye (i:=ti2) (v:=int (p.has[(n.src-1).toNat]+1)) (b:=bh) (o:=0+(n.src-1).toNat*1) (st2:=S5.sO bh (.cells ((rws zn (p.has.set (n.src-1).toNat (p.has[(n.src-1).toNat]+1))).flatten++Lh2))) rfl rfl rfl oh3 (by rw[Fac,qc (k:=1) (λ_=>rfl)];omega) (by rw[Fa9];exact congrArg _ (congrArg _ (Nx (f:=zn) (k:=1) (λ_=>rfl) hsl (p.has[(n.src-1).toNat]+1) Lh2))) ?_;have hS6:=hK2 (λa=>RowsQ 1 zn a (.s (.slice (some ⟨bh,0,none⟩) p.has.length ch)) (p.has.set (n.src-1).toNat (p.has[(n.src-1).toNat]+1))) (.cells ((rws zn (p.has.set (n.src-1).toNat (p.has[(n.src-1).toNat]+1))).flatten++Lh2)) (λa ha=>.inl (.inr ⟨bh,ch,Lh2,by rw[Fak],ha,by rw[Fak];exact a4,by rw[Fak];exact a5,a6⟩));generalize S5.sO bh _=S6 at hS6⊢
  let q:Per:={p with inputs:=j5 p.inputs n.inp,has:=p.has.set (n.src-1).toNat (p.has[(n.src-1).toNat]+1)}
  have hSq:=hS6;exact zce
 have et:ji p n=p:=if_neg (by rw[hgh];exact c6)
 let q:Per:=p
 have hSq:=hS2;exact zce
def Lp{α:Type}{k:Nat}{f:α->List AV}{v:AV}{l:List α}{K:(Store->Prop)->Store->Prop}{S:Store}(h:Foc (λa=>RowsQ k f a v l) K S):RowsQ k f S v l:=by have⟨a,g,e,hd,hP⟩:=Foc.look1 h;rw[e];exact RowsQ.unL hP hd
def zey(p:Per){vm vh va:AV}{S:Store}(hS:Sp (D7 p vm vh va) S){Oth M:BB}{w:World}{x:Value}(sto:StoreOK S Oth M w)(hx:VRel w (λb o=>M b o\/Oth b o) (.agg (ql p vm vh va)) x):
  VRel w (λb o=>(M b o\/Oth b o)/\S.obj b=none) (.agg (zo p)) x:=by
 have ra:=Lp (k:=1) (f:=zn) (l:=p.acked) (v:=va) (hS.at 0 rfl);have rh:=Lp (k:=1) (f:=zn) (l:=p.has) (v:=vh) (hS.at 1 rfl);have rm:=Lp (k:=3) (f:=zh) (l:=p.mine) (v:=vm) (hS.at 2 rfl);obtain⟨c,rfl,hr⟩:=Ha hx;refine Nb ⟨hr.1,λi x y hx hy=>?_⟩
 match i,hx with
 |0,hx=>cases hx;exact qv (hr.2 0 _ y rfl hy)
 |1,hx=>cases hx;exact qv (hr.2 1 _ y rfl hy)
 |2,hx=>cases hx;exact qv (hr.2 2 _ y rfl hy)
 |3,hx=>cases hx;exact qv (hr.2 3 _ y rfl hy)
 |4,hx=>cases hx;exact qv (hr.2 4 _ y rfl hy)
 |5,hx=>cases hx;exact RowsQ.borrowL (k:=3) (f:=zh) (λ_=>rfl) zg8 rm sto (hr.2 5 _ y rfl hy)
 |6,hx=>cases hx;exact qv (hr.2 6 _ y rfl hy)
 |7,hx=>cases hx;exact RowsQ.borrowL (k:=1) (f:=zn) (λ_=>rfl) (λx y hy=>by rw[Fbl.1 hy];rfl) rh sto (hr.2 7 _ y rfl hy)
 |8,hx=>cases hx;exact RowsQ.borrowL (k:=1) (f:=zn) (λ_=>rfl) (λx y hy=>by rw[Fbl.1 hy];rfl) ra sto (hr.2 8 _ y rfl hy)
 |9,hx=>cases hx;exact qv (hr.2 9 _ y rfl hy)
 |10,hx=>cases hx;exact qv (hr.2 10 _ y rfl hy)
 |i+11,hx=>cases hx
def zer(p:Per)(n:Nte)(hf:p.fits)(hs:Ag p)(hnf:n.inp.fits)(hnx:small n.inp.C)(st:Store)(R:Ja)(hbad:jr p n≠0->R (.tup [.agg (zo Az),int (jr p n)]) st)
  (h:jr p n=0->R (.tup [.agg (zo (qr p n)),int 0]) st):Jb 139 [.agg (zo p),.agg (yg n)] st R:=by
 refine Dn (Q:=λr=>(jr p n≠0/\r=.tup [.agg (zo Az),int (jr p n)])\/(jr p n=0/\r=.tup [.agg (zo (qr p n)),int 0])) ?_ st R λr hr=>?_
 ·refine(zz8 p n hf hs hnf hnx).frozen ?_;rintro r S (⟨hh,rfl⟩|⟨hh,vm,vh,va,hv,rfl⟩)
  ·exact⟨_,.inl ⟨hh,rfl⟩,λOth M W y sto hy=>qv hy⟩
  ·exact⟨_,.inr ⟨hh,rfl⟩,λOth M W y sto hy=>VRel.tup2 hy (λz hz=>zey _ hv sto hz) (λz hz=>qv hz)⟩
 ·rcases hr with⟨hh,rfl⟩|⟨hh,rfl⟩
  ·exact hbad hh
  ·exact h hh
def Qam{p:Prop}(h:p:=by rw[Fac,qc (k:=1) (λ_=>rfl)];omega):p:=h
def Qan{p:Prop}(h:p:=by rw[k1];omega):p:=h
open Classical in
noncomputable def jt(p:Per)(l:List Cmd):Int:=if¬qj p then 1 else if p.said=p.turn+p.delay-1\/p.said=1099511627776 then 10 else if¬Nw p.id l then 1 else 0
def j3(p:Per)(l:List Cmd):Inp:=⟨p.said+1,p.id,l⟩
def jj(p:Per)(l:List Cmd):Per:={p with said:=p.said+1,inputs:=j5 p.inputs (j3 p l),mine:=if p.players>1 then p.mine++[j3 p l]else p.mine,has:=p.has.set (p.id-1).toNat (p.said+1),acked:=p.acked.set (p.id-1).toNat (p.said+1)}
def yip(p:Per):qj p->0<p.has.length/\0<p.acked.length/\(p.id-1).toNat<p.has.length/\(p.id-1).toNat<p.acked.length:=λhp=>φb
def zdq{q:Prop}(h:q:=by
 have⟨bh,ch2,Lh,eh,ohh,a1,a2,a3,hK⟩:=Foc.row (k:=1) (f:=zn) (l:=p.has) (hS4.at 2 rfl) (Fdv θ);cases eh;have hq6:=(hS4.at 0 rfl).obj;refine Qc zb yfq ?_;refine Qbc ?_;refine Qbc ?_;refine ze Qan ?_;refine Qbc ?_;refine Qbc ?_;refine ze Qan ?_;refine Qbc ?_;refine Qbc ?_;refine⟨(p.id-1).toNat,by rw[k1];omega,hih,?_⟩;refine⟨?_,Tv⟩;refine za _ rfl (xf rfl (q9 (v:=int p4.said) rfl rfl rfl rfl ?_));refine ye (i:=ti2) (v:=int p4.said) (b:=bh) (o:=0+(p.id-1).toNat*1) (st2:=S4.sO bh (.cells ((rws zn (p.has.set (p.id-1).toNat p4.said)).flatten++Lh))) rfl rfl rfl ohh Qam (by rw[Fa9];exact congrArg _ (congrArg _ (Nx (f:=zn) (k:=1) (λ_=>rfl) hih p4.said Lh))) ?_;have hS7:=hK (λa=>RowsQ 1 zn a (.s (.slice (some ⟨bh,0,none⟩) p.has.length ch)) (p.has.set (p.id-1).toNat p4.said)) (.cells ((rws zn (p.has.set (p.id-1).toNat p4.said)).flatten++Lh)) (λa ha=>.inl (.inr ⟨bh,ch,Lh,by rw[Fak],ha,by rw[Fak];exact a1,by rw[Fak];exact a2,a3⟩));generalize S4.sO bh _=S7 at hS7⊢;have⟨ba,ca2,La,ea,oaa,a4,a5,a6,hK2⟩:=Foc.row (k:=1) (f:=zn) (l:=p.acked) (hS7.at 1 rfl) (Fdv θ);cases ea;have hq7:=(hS7.at 0 rfl).obj;refine⟨by repeat(first|exact Tv|refine⟨rfl,?_⟩|refine⟨za (o:=S7.obj b2) _ hq7 rfl,?_⟩|refine⟨ze Qan rfl,?_⟩|refine⟨⟨(p.id-1).toNat,by rw[k1];omega,hih,rfl⟩,?_⟩),?_⟩;refine⟨(p.id-1).toNat,by rw[k1];omega,hia,?_⟩;refine⟨?_,Tv⟩;refine za _ rfl (xf rfl (q9 (v:=int p4.said) rfl rfl rfl rfl ?_));refine ye (i:=ti2) (v:=int p4.said) (b:=ba) (o:=0+(p.id-1).toNat*1) (st2:=S7.sO ba (.cells ((rws zn (p.acked.set (p.id-1).toNat p4.said)).flatten++La))) rfl rfl rfl oaa Qam (by rw[Fa9];exact congrArg _ (congrArg _ (Nx (f:=zn) (k:=1) (λ_=>rfl) hia p4.said La))) ?_;have hS8:=hK2 (λa=>RowsQ 1 zn a (.s (.slice (some ⟨ba,0,none⟩) p.acked.length ca)) (p.acked.set (p.id-1).toNat p4.said)) (.cells ((rws zn (p.acked.set (p.id-1).toNat p4.said)).flatten++La)) (λa ha=>.inl (.inr ⟨ba,ca,La,by rw[Fak],ha,by rw[Fak];exact a4,by rw[Fak];exact a5,a6⟩));generalize S7.sO ba _=S8 at hS8⊢;have hq8:=(hS8.at 0 rfl).obj;refine⟨by repeat(first|exact Tv|refine⟨rfl,?_⟩|refine⟨za (o:=S8.obj b2) _ hq8 rfl,?_⟩|refine⟨ze Qan rfl,?_⟩|refine⟨⟨(p.id-1).toNat,by rw[k1];omega,hih,rfl⟩,?_⟩|refine⟨⟨(p.id-1).toNat,by rw[k1];omega,hia,rfl⟩,?_⟩),?_⟩;refine Qbc ?_;have⟨a,S9,e,hd9,ha9,hr⟩:=hS8;rw[e];refine Bu (Tt) ⟨λb x hx=>zg hx,λb y hy=>Ft hy⟩ (.inr ⟨e0,.s (.slice om nm cm),.s (.slice (some ⟨bh,0,none⟩) p.has.length ch),.s (.slice (some ⟨ba,0,none⟩) p.acked.length ca),?_,?_⟩);rotate_left
 ·rw[hp4];exact rfl
 ·show Sp [_,_,λa=>RowsQ 3 zh a _ (jj p l).mine] S9;rw[em];unfold jj;dsimp only;rw[<-k2];exact hr):q:=h
def yfv(p:Per)(l:List Cmd)(hf:p.fits)(hs:Ag p)(hlf:l.length<=1000000000)(hlc:∀c∈l,c.fits)(hls:small l):Jb 102 [.agg (zo p),lst 10 zz l] Store.empty λr S=>
  (jt p l≠0/\r=.tup [.agg (zo Az),int (jt p l)])\/(jt p l=0/\∃vm vh va,Sp (D7 (jj p l) vm vh va) S/\r=.tup [.agg (ql (jj p l) vm vh va),int 0]):=by
 refine Qa (c:=cfg 82 [2] []) zb Tryz.func102 ?_;intro b2 hb2;have o2:=zd Store.empty b2 (.cells (zo p));have hS:=Sp.new (l:=[]) (S:=Store.empty) rfl hb2 (zo p);generalize Store.empty.sO b2 _=S0 at o2 hS⊢
 have bad:∀e:Int,e≠0->jt p l=e->∃r st',(AV.tup [.agg [int 0,int 0,int 0,int 0,int 0,.s (.slice none 0 0),.s (.slice none 0 0),.s (.slice none 0 0),.s (.slice none 0 0),.s (.slice none 0 0),V.bool false],int e]).le r/\S0.Has st'/\((jt p l≠0/\r=.tup [.agg (zo Az),int (jt p l)])\/(jt p l=0/\∃vm vh va,Sp (D7 (jj p l) vm vh va) st'/\r=.tup [.agg (ql (jj p l) vm vh va),int 0])):=λe h0 he=>
  ⟨.tup [.agg (zo Az),int e],S0,AV.le_tupL (xs:=[_,int e]) (ys:=[_,int e]) ⟨Pi,Tt,Tv⟩,Store.Has.refl _,.inl ⟨by rw[he];exact h0,by rw[he]⟩⟩
 refine Qbc ?_;refine Ii p hf _ _ (λz1 h1=>?_);refine yj ?_;refine zk (λc1=>?_) (λc1=>?_);rotate_left
 ·exact bad 1 ψ (if_pos λhh=>by have:=h1.2 hh;rw[this]at c1;cases c1)
 have hp:=h1.1 c1;have htu:=hp.1.2.2.2;have hde:=hp.1.2.2.1;have hsd:=hp.2.1;unfold maxT at htu hsd;refine Qbc ?_;refine Qbc ?_;refine Qbc ?_;refine Qd ?_;refine Qd ?_;refine zu (λc2=>?_) (λc2=>?_)
 ·exact bad 10 ψ (by unfold jt;rw[if_neg (λh=>h hp),if_pos (.inl c2)])
 refine Qbc ?_;refine zu (λc3=>?_) (λc3=>?_)
 ·exact bad 10 ψ (by unfold jt;rw[if_neg (λh=>h hp),if_pos (.inr c3)])
 refine Qbc ?_;refine zbv p.id l hlf hlc _ _ (λz2 h2=>?_);have hn23:¬(p.said=p.turn+p.delay-1\/p.said=1099511627776):=λh=>h.elim c2 c3;refine yj ?_;refine zk (λc4=>?_) (λc4=>?_);rotate_left
 ·exact bad 1 ψ (by unfold jt;rw[if_neg (λh=>h hp),if_neg hn23,if_pos λhh=>by have:=h2.2 hh;rw[this]at c4;cases c4])
 have hsp:=h2.1 c4;have⟨h0h,h0a,hih,hia⟩:=yip p hp;have e0:jt p l=0:=by unfold jt;rw[if_neg (λh=>h hp),if_neg hn23,if_neg λh=>h hsp]
 refine Qbc ?_;refine Rj (zes p hs (λv N=>∃vm vh va,Sp (D7 p vm vh va) N/\v=.agg (ql p vm vh va)) (λvm vh va N h=>⟨vm,vh,va,h,rfl⟩)) _ _ ?_;rintro _ N ⟨vm,vh,va,hN,rfl⟩ hd;have⟨_,_,_,_,ra⟩:=Foc.look1 (hN.at 0 rfl);have⟨_,_,_,_,rh⟩:=Foc.look1 (hN.at 1 rfl);have⟨_,_,_,_,rm⟩:=Foc.look1 (hN.at 2 rfl);obtain⟨oa,ca,rfl,_⟩:=RowsQ.form (k:=1) (f:=zn) (l:=p.acked) ra;obtain⟨oh,ch,rfl,_⟩:=RowsQ.form (k:=1) (f:=zn) (l:=p.has) rh;obtain⟨om,cm,rfl,_⟩:=RowsQ.form (k:=3) (f:=zh) (l:=p.mine) rm;have hS1:=Sp.more (P:=ja b2 (zo p)) (a:=S0) φa hN (xy hd);rw[unC (xy hd)]at hS1;generalize N.un S0=S1 at hS1⊢;refine k8 (i:=ti63) (v:=.agg (ql p (.s (.slice om p.mine.length cm)) (.s (.slice oh p.has.length ch)) (.s (.slice oa p.acked.length ca)))) (xs:=ql p (.s (.slice om p.mine.length cm)) (.s (.slice oh p.has.length ch)) (.s (.slice oa p.acked.length ca))) (b:=b2) (o:=0) (l:=zo p) rfl rfl rfl (hS1.at 0 rfl).obj (show 0+11<=11 by decide) ?_;have hS2:=(hS1.at 0 rfl).store (ql p (.s (.slice om p.mine.length cm)) (.s (.slice oh p.has.length ch)) (.s (.slice oa p.acked.length ca)));rw[show zq (zo p) 0 (ql p (.s (.slice om p.mine.length cm)) (.s (.slice oh p.has.length ch)) (.s (.slice oa p.acked.length ca)))=ql p (.s (.slice om p.mine.length cm)) (.s (.slice oh p.has.length ch)) (.s (.slice oa p.acked.length ca))from rfl];generalize S1.sO b2 _=S2 at hS2⊢;have hq2:=(hS2.at 0 rfl).obj;refine Qbc ?_;refine Qd ?_;have hS3:=(hS2.at 0 rfl).store (ql {p with said:=p.said+1} (.s (.slice om p.mine.length cm)) (.s (.slice oh p.has.length ch)) (.s (.slice oa p.acked.length ca)));refine ye (i:=ti2) (v:=int (p.said+1)) (b:=b2) (o:=0+4) (l:=ql p (.s (.slice om p.mine.length cm)) (.s (.slice oh p.has.length ch)) (.s (.slice oa p.acked.length ca))) (st2:=S2.sO b2 (.cells (ql {p with said:=p.said+1} (.s (.slice om p.mine.length cm)) (.s (.slice oh p.has.length ch)) (.s (.slice oa p.acked.length ca))))) rfl rfl rfl hq2 (show 0+4+1<=11 by decide) rfl ?_;generalize S2.sO b2 _=S3 at hS3⊢;have hq3:=(hS3.at 0 rfl).obj;refine Qbc ?_;refine Qbc ?_;refine Qbc ?_;refine zb3 p.inputs hs.2.1 hp.2.2.2.2.2.2.2.2.2.1 (j3 p l) hls _ _ (λhh=>?_) (λhh=>?_)
 ·refine absurd hh ?_;rintro⟨y,hy,hy1,hy2⟩;obtain⟨j,hj,rfl⟩:=Faf hy;have hy1:p.inputs[j].t=p.said+1:=hy1;have hy2:p.inputs[j].p=p.id:=hy2;have g2:=(hp.2.2.2.2.2.2.2.2.2.2 j hj).2.2;rw[hy2]at g2;have hlt:(p.id-1).toNat<p.has.length:=by
   have:=hp.2.2.1.2.1;have:=hp.1.2.1;omega
  have g3:=g2 hlt;rw[hp.2.2.1.2.2 hlt]at g3;omega
 have hS4:=(hS3.at 0 rfl).store (ql {p with said:=p.said+1,inputs:=j5 p.inputs (j3 p l)} (.s (.slice om p.mine.length cm)) (.s (.slice oh p.has.length ch)) (.s (.slice oa p.acked.length ca)));refine ye (i:=ti62) (v:=lst 3 zh (j5 p.inputs (j3 p l))) (b:=b2) (o:=0+6) (l:=ql {p with said:=p.said+1} (.s (.slice om p.mine.length cm)) (.s (.slice oh p.has.length ch)) (.s (.slice oa p.acked.length ca))) (st2:=S3.sO b2 (.cells (ql {p with said:=p.said+1,inputs:=j5 p.inputs (j3 p l)} (.s (.slice om p.mine.length cm)) (.s (.slice oh p.has.length ch)) (.s (.slice oa p.acked.length ca))))) rfl rfl rfl hq3 (show 0+6+1<=11 by decide) rfl ?_;generalize S3.sO b2 _=S4 at hS4⊢;obtain⟨p4,hp4⟩:∃p4:Per,p4={p with said:=p.said+1,inputs:=j5 p.inputs (j3 p l)}:=⟨_,rfl⟩
 rw[<-hp4]at hS4;have k1:p4.id=p.id:=by rw[hp4]
 have k2:p4.said=p.said+1:=by rw[hp4]
 have hid:=hp.1.2.1;have hpl:=hp.1.1;have hq4:=(hS4.at 0 rfl).obj;refine Qbc ?_;refine bcd (λc5=>?_) (λc5=>?_)
 ·refine Qc zb yfr ?_;refine Qbc ?_;refine⟨I6 (j3 p l) hls _ _ ⟨⟨za (o:=S4.obj b2) _ hq4 rfl,Tv⟩,?_⟩,Tv⟩;have rm4:=Lp (k:=3) (f:=zh) (l:=p.mine) (v:=.s (.slice om p.mine.length cm)) (hS4.at 3 rfl);refine⟨ψ,?_⟩;refine⟨Dt (ie:=ti123) rfl (λ_=>rfl) ψ rm4 (j3 p l) rfl (by have:=hs.1.1;omega) (λb3 cap3 L3 q1 q2 q3 q4=>⟨Tv,?_⟩),Tv⟩;have hS5:=Foc.grow (k:=3) (f:=zh) (l:=p.mine) (v:=.s (.slice om p.mine.length cm)) (hS4.at 3 rfl) q1 (λa=>RowsQ 3 zh a (.s (.slice (some ⟨b3,0,none⟩) (p.mine++[j3 p l]).length cap3)) (p.mine++[j3 p l])) (.cells ((rws zh (p.mine++[j3 p l])).flatten++L3)) (λa ha=>.inl (.inr ⟨b3,cap3,L3,rfl,ha,q2,q3,q4⟩));generalize S4.sO b3 _=S5 at hS5⊢;refine⟨?_,Tv⟩;refine za _ rfl (xf rfl (q9 (v:=.s (.slice (some ⟨b3,0,none⟩) (p.mine++[j3 p l]).length cap3)) rfl rfl rfl rfl ?_));refine ye (i:=ti62) (v:=.s (.slice (some ⟨b3,0,none⟩) (p.mine++[j3 p l]).length cap3)) (b:=b2) (o:=0+5) (l:=ql p4 (.s (.slice om p.mine.length cm)) (.s (.slice oh p.has.length ch)) (.s (.slice oa p.acked.length ca))) (st2:=S5.sO b2 (.cells (ql p4 (.s (.slice (some ⟨b3,0,none⟩) (p.mine++[j3 p l]).length cap3)) (.s (.slice oh p.has.length ch)) (.s (.slice oa p.acked.length ca))))) rfl rfl rfl (hS5.at 0 rfl).obj (show 0+5+1<=11 by decide) rfl ?_;have hS6:=(hS5.at 0 rfl).store (ql p4 (.s (.slice (some ⟨b3,0,none⟩) (p.mine++[j3 p l]).length cap3)) (.s (.slice oh p.has.length ch)) (.s (.slice oa p.acked.length ca)));generalize S5.sO b2 _=S6 at hS6⊢;refine⟨Tv,?_⟩;have em:(jj p l).mine=p.mine++[j3 p l]:=if_pos (show p.players>1 by rw[hp4]at c5;exact c5);generalize(some ⟨b3,0,none⟩:Option Addr)=om at hS6⊢;generalize(p.mine++[j3 p l]).length=nm at hS6⊢;generalize cap3=cm at hS6⊢;generalize S6=S4 at hS6⊢;have hS4:=hS6;exact zdq
 ·have em:(jj p l).mine=p.mine:=if_neg (show¬p.players>1 by rw[hp4]at c5;exact c5);generalize p.mine.length=nm at hS4⊢;exact zdq
def yig(p:Per)(l:List Cmd)(hf:p.fits)(hs:Ag p)(hlf:l.length<=1000000000)(hlc:∀c∈l,c.fits)(hls:small l):Jb 102 [.agg (zo p),lst 10 zz l] Store.empty λr _=>(jt p l≠0/\r=.tup [.agg (zo Az),int (jt p l)])\/(jt p l=0/\r=.tup [.agg (zo (jj p l)),int 0]):=by
 refine(yfv p l hf hs hlf hlc hls).frozen ?_;rintro r S (⟨hh,rfl⟩|⟨hh,vm,vh,va,hv,rfl⟩)
 ·exact⟨_,.inl ⟨hh,rfl⟩,λOth M W y sto hy=>qv hy⟩
 ·exact⟨_,.inr ⟨hh,rfl⟩,λOth M W y sto hy=>VRel.tup2 hy (λz hz=>zey _ hv sto hz) (λz hz=>qv hz)⟩
def yif(p:Per)(l:List Cmd)(hf:p.fits)(hs:Ag p)(hlf:l.length<=1000000000)(hlc:∀c∈l,c.fits)(hls:small l)(st:Store)(R:Ja)(hbad:jt p l≠0->R (.tup [.agg (zo Az),int (jt p l)]) st)
  (h:jt p l=0->R (.tup [.agg (zo (jj p l)),int 0]) st):Jb 102 [.agg (zo p),lst 10 zz l] st R:=by
 refine Dn (Q:=λr=>(jt p l≠0/\r=.tup [.agg (zo Az),int (jt p l)])\/(jt p l=0/\r=.tup [.agg (zo (jj p l)),int 0])) ?_ st R λr hr=>?_
 ·exact yig p l hf hs hlf hlc hls
 ·rcases hr with⟨hh,rfl⟩|⟨hh,rfl⟩
  ·exact hbad hh
  ·exact h hh
end Go.Proofs
