/- Ground of laws of thronglaw30: contracts and plain lemmas; no condition beyond the row's own. -/
import Derived.Test.YtkahacegdhllcaaGreatLA
set_option linter.unusedSimpArgs false
set_option linter.unusedVariables false
set_option linter.defProp false
namespace Go.Proofs
open Go Go.V
set_option maxRecDepth 20000
set_option maxHeartbeats 4000000
def Qal{p:Prop}(h:p:=by have h1:=hn.1;omega):p:=h
def ydm(p:Per){om oh oa:Option Addr}{lm lh la cm ch ca:Nat}(hh:p.hashes.length<=1000000000)(ht:-1000000000000000<=p.turn/\p.turn<=1000000000000000)(d k:Int)(hd:-1000000000000000<=d/\d<=1000000000000000)(st:Store)(R:Ja)(h:R (V.bool (Hi p d k)) st):Jb 180 [.agg (qg p (.s (.slice om lm cm)) (.s (.slice oh lh ch)) (.s (.slice oa la ca))),int d,u64 k] st R:=by
 refine Qy 33 Tryz.func180 ?_;refine Qd ?_;have hl:(rws yh p.hashes).length=p.hashes.length:=θf;refine Qd ?_;have no:¬(d<p.turn/\0<=(p.hashes.length:Int)-(p.turn-d))->R (V.bool false) st:=λhn=>by have e:Hi p d k=false:=decide_eq_false λhh=>hn ⟨hh.1,hh.2.1⟩;rw[e]at h;exact h
 refine bcd (λc1=>?_) (λc1=>ret (no λhh=>c1 hh.1));refine bcd (λc2=>?_) (λc2=>ret (no λhh=>by have:=hh.2;rw[hl]at c2;omega));have hk:(((rws yh p.hashes).length:Nat):Int)-(p.turn-d)=(((p.hashes.length:Int)-(p.turn-d)).toNat:Nat):=θ;have hlt:((p.hashes.length:Int)-(p.turn-d)).toNat<p.hashes.length:=θ;refine⟨((p.hashes.length:Int)-(p.turn-d)).toNat,hk,za _ (zr hlt) ?_⟩;refine ret ?_;have hg:p.hashes.getD ((p.hashes.length:Int)-(p.turn-d)).toNat 0=p.hashes[((p.hashes.length:Int)-(p.turn-d)).toNat]:=by rw[Fap,Fac hlt];rfl
 have e:Hi p d k=(p.hashes[((p.hashes.length:Int)-(p.turn-d)).toNat] != k):=by
  unfold Hi;rw[hg];have c2':0<=(p.hashes.length:Int)-(p.turn-d):=θ;by_cases e:p.hashes[((p.hashes.length:Int)-(p.turn-d)).toNat]=k
  ·simp[e]
  ·rw[decide_eq_true (show _/\_/\_ from⟨c1,c2',e⟩)];exact(bne_iff_ne.2 e).symm
 rw[e]at h;exact h
def ypk(p:Per){q:Nat}{vm vh va:AV}{S:Store}(hS:Sp (xp q (qg p vm vh va)::Cz p vm vh va) S)(f:Nat)(hf:f<p.acked.length)(h1:Ct p.mine)(h4:p.acked.length<=1000000000)(z x:Int)(hz:z=((f+1:Nat):Int))(R:Ja)
  (h:∀vm' S',Sp (xp q (qg (qy p f x) vm' vh va)::Cz (qy p f x) vm' vh va) S'->R (.tup []) S'):Jb 179 [ptr q,int z,int x] S R:=by
 subst hz;exact ypl p hS f hf h1 h4 x R h
def zhe(p:Per)(f:Nat)(x:Int):(qy p f x).hashes=p.hashes/\(qy p f x).turn=p.turn/\(qy p f x).split=p.split:=by unfold qy;split<;>exact⟨rfl,rfl,rfl⟩
open Classical in
noncomputable def jm(p:Per)(n:Nte):Int:=if¬qe p\/¬Cg n\/n.dst≠p.id\/n.src>p.players then 1 else if n.inp.t>p.turn+16 then 4 else 0
def jf(p:Per)(n:Nte):Per:=if n.inp.t=p.has.getD (n.src-1).toNat 0+1 then{p with inputs:=jl p.inputs n.inp,has:=p.has.set (n.src-1).toNat (p.has.getD (n.src-1).toNat 0+1)}else p
def xi(p:Per)(n:Nte):Per:={qy (jf p n) (n.src-1).toNat n.have_ with split:=p.split||Hi (qy (jf p n) (n.src-1).toNat n.have_) n.done n.hash}
def s9{u:Prop}(h:u:=by
 refine ypk q hSq (n.src-1).toNat (by show(n.src-1).toNat<p.acked.length;have:=hp.2.2.2.1.2.1;have:=hp.2.2.1.2.1;omega) hs.1 hs.2.2.2.1 n.src n.have_ Qal _ (λvm' S3 hS3=>?_);obtain⟨_,_,_,_,rm⟩:=Foc.look1 (hS3.at 3 rfl);obtain⟨om',cm',rfl,_⟩:=RowsQ.form (k:=3) (f:=zh) (l:=(qy q (n.src-1).toNat n.have_).mine) rm;obtain⟨k1,k2,k3⟩:=zhe q (n.src-1).toNat n.have_;have k1:(qy q (n.src-1).toNat n.have_).hashes=p.hashes:=k1;have k2:(qy q (n.src-1).toNat n.have_).turn=p.turn:=k2;have k3:(qy q (n.src-1).toNat n.have_).split=p.split:=k3;have fin:∀z:Bool,z=(p.split||Hi (qy q (n.src-1).toNat n.have_) n.done n.hash)->∃r st',AV.le (.tup [.agg (qg {qy q (n.src-1).toNat n.have_ with split:=z} (.s (.slice om' (qy q (n.src-1).toNat n.have_).mine.length cm')) (.s (.slice (some ⟨bh,0,none⟩) p.has.length ch)) (.s (.slice oa p.acked.length ca))),int 0]) r/\(S3.sO b2 (.cells (qg {qy q (n.src-1).toNat n.have_ with split:=z} (.s (.slice om' (qy q (n.src-1).toNat n.have_).mine.length cm')) (.s (.slice (some ⟨bh,0,none⟩) p.has.length ch)) (.s (.slice oa p.acked.length ca))))).Has st'/\((jm p n≠0/\r=.tup [.agg (zo wy),int (jm p n)])\/(jm p n=0/\∃vm vh va,Sp (Cz (xi p n) vm vh va) st'/\r=.tup [.agg (qg (xi p n) vm vh va),int 0])):=by
  intro z hz;have hS4:=(hS3.at 0 rfl).store (qg {qy q (n.src-1).toNat n.have_ with split:=z} (.s (.slice om' (qy q (n.src-1).toNat n.have_).mine.length cm')) (.s (.slice (some ⟨bh,0,none⟩) p.has.length ch)) (.s (.slice oa p.acked.length ca)));obtain⟨a,S6,e,hd,ha,hr⟩:=hS4;rw[e];have et2:xi p n={qy q (n.src-1).toNat n.have_ with split:=z}:=by unfold xi;rw[et,hz]
  exact Aq (Tt) ⟨λb x hx=>zf hx,λb y hy=>Dq hy⟩ (.inr ⟨e0,_,_,_,by rw[et2];exact hr,by rw[et2]⟩)
 refine za (o:=S3.obj b2) _ (hS3.at 0 rfl).obj ?_;refine zk (λc7=>?_) (λc7=>?_)
 ·refine yg (i:=ti4) (v:=V.bool true) (b:=b2) (o:=0+10) (l:=qg (qy q (n.src-1).toNat n.have_) (.s (.slice om' (qy q (n.src-1).toNat n.have_).mine.length cm')) (.s (.slice (some ⟨bh,0,none⟩) p.has.length ch)) (.s (.slice oa p.acked.length ca))) rfl rfl rfl (hS3.at 0 rfl).obj (show 0+10+1<=11 by decide) rfl ?_;refine za (o:=(S3.sO b2 _).obj b2) _ (zd _ _ _) ?_;exact fin true (by rw[k3]at c7;rw[c7];rfl)
 refine za (o:=S3.obj b2) _ (hS3.at 0 rfl).obj ?_;refine ydm _ (by rw[k1];exact hs.2.2.2.2) (by rw[k2];unfold maxT at htu;omega) n.done n.hash (by have:=hn.2.2.2.1;unfold trnP maxT at this;omega) _ _ ?_;refine yg (i:=ti4) (v:=V.bool (Hi (qy q (n.src-1).toNat n.have_) n.done n.hash)) (b:=b2) (o:=0+10) (l:=qg (qy q (n.src-1).toNat n.have_) (.s (.slice om' (qy q (n.src-1).toNat n.have_).mine.length cm')) (.s (.slice (some ⟨bh,0,none⟩) p.has.length ch)) (.s (.slice oa p.acked.length ca))) rfl rfl rfl (hS3.at 0 rfl).obj (show 0+10+1<=11 by decide) rfl ?_;refine za (o:=(S3.sO b2 _).obj b2) _ (zd _ _ _) ?_;exact fin (Hi (qy q (n.src-1).toNat n.have_) n.done n.hash) (by rw[k3]at c7;rw[c7];rfl)):u:=h
def zv1(p:Per)(n:Nte)(hf:p.fits)(hs:vz p)(hnf:n.inp.fits)(hnx:small n.inp.C):Jb 139 [.agg (zo p),.agg (ye n)] Store.empty λr S=>
  (jm p n≠0/\r=.tup [.agg (zo wy),int (jm p n)])\/(jm p n=0/\∃vm vh va,Sp (Cz (xi p n) vm vh va) S/\r=.tup [.agg (qg (xi p n) vm vh va),int 0]):=by
 have e1:¬qe p\/¬Cg n\/n.dst≠p.id\/n.src>p.players->jm p n=1:=λh=>if_pos h;refine Qa (c:=cfg 88 [2] []) zb Tryz.func139 ?_;intro b2 hb2;have o2:=zd Store.empty b2 (.cells (zo p));have hS:=Sp.new (l:=[]) (S:=Store.empty) rfl hb2 (zo p);generalize Store.empty.sO b2 _=S0 at o2 hS⊢
 have bad:∀e:Int,e≠0->jm p n=e->∃r st',(AV.tup [.agg [int 0,int 0,int 0,int 0,int 0,.s (.slice none 0 0),.s (.slice none 0 0),.s (.slice none 0 0),.s (.slice none 0 0),.s (.slice none 0 0),V.bool false],int e]).le r/\S0.Has st'/\((jm p n≠0/\r=.tup [.agg (zo wy),int (jm p n)])\/(jm p n=0/\∃vm vh va,Sp (Cz (xi p n) vm vh va) st'/\r=.tup [.agg (qg (xi p n) vm vh va),int 0])):=λe h0 he=>
  ⟨.tup [.agg (zo wy),int e],S0,AV.le_tupL (xs:=[_,int e]) (ys:=[_,int e]) ⟨N8,Tt,Tv⟩,Store.Has.refl _,.inl ⟨by rw[he];exact h0,by rw[he]⟩⟩
 refine Qbc ?_;refine Hn p hf _ _ (λz1 h1=>?_);refine ym ?_;refine zk (λc1=>?_) (λc1=>?_);rotate_left
 ·exact bad 1 ψ (e1 (.inl λhh=>by have:=h1.2 hh;rw[this]at c1;cases c1))
 have hp:=h1.1 c1;refine yge n hnf _ _ (λz2 h2=>?_);refine ym ?_;refine zk (λc2=>?_) (λc2=>?_);rotate_left
 ·exact bad 1 ψ (e1 (.inr (.inl λhh=>by have:=h2.2 hh;rw[this]at c2;cases c2)))
 have hn:=h2.1 c2;refine Qbc ?_;refine xj (λc3=>?_) (λc3=>?_)
 ·exact bad 1 ψ (e1 (.inr (.inr (.inl c3))))
 refine Qbc ?_;refine bcd (λc4=>?_) (λc4=>?_)
 ·exact bad 1 ψ (e1 (.inr (.inr (.inr c4))))
 refine Qbc ?_;refine ze (by have:=hp.1.2.2.2;unfold maxT at this;omega) ?_;have hno:¬(¬qe p\/¬Cg n\/n.dst≠p.id\/n.src>p.players):=λhh=>hh.elim (λh=>h hp) λhh=>hh.elim (λh=>h hn) λhh=>hh.elim (λh=>h c3) c4;refine bcd (λc5=>?_) (λc5=>?_)
 ·exact bad 4 ψ (by unfold jm;rw[if_neg hno,if_pos c5])
 have e0:jm p n=0:=by unfold jm;rw[if_neg hno,if_neg c5]
 refine Qbc ?_;refine Oy (za8 p hs (λv N=>∃vm vh va,Sp (Cz p vm vh va) N/\v=.agg (qg p vm vh va)) (λvm vh va N h=>⟨vm,vh,va,h,rfl⟩)) _ _ ?_;rintro _ N ⟨vm,vh,va,hN,rfl⟩ hd;obtain⟨_,_,_,_,ra⟩:=Foc.look1 (hN.at 0 rfl);obtain⟨_,_,_,_,rh⟩:=Foc.look1 (hN.at 1 rfl);obtain⟨_,_,_,_,rm⟩:=Foc.look1 (hN.at 2 rfl);obtain⟨oa,ca,rfl,_⟩:=RowsQ.form (k:=1) (f:=zn) (l:=p.acked) ra;obtain⟨oh,ch,rfl,_⟩:=RowsQ.form (k:=1) (f:=zn) (l:=p.has) rh;obtain⟨om,cm,rfl,_⟩:=RowsQ.form (k:=3) (f:=zh) (l:=p.mine) rm;have hS1:=Sp.more (P:=xp b2 (zo p)) (a:=S0) ψ3 hN (xn hd);rw[unC (xn hd)]at hS1;generalize N.un S0=S1 at hS1⊢;refine j4 (i:=ti63) (v:=.agg (qg p (.s (.slice om p.mine.length cm)) (.s (.slice oh p.has.length ch)) (.s (.slice oa p.acked.length ca)))) (xs:=qg p (.s (.slice om p.mine.length cm)) (.s (.slice oh p.has.length ch)) (.s (.slice oa p.acked.length ca))) (b:=b2) (o:=0) (l:=zo p) rfl rfl rfl (hS1.at 0 rfl).obj (show 0+11<=11 by decide) ?_;have hS2:=(hS1.at 0 rfl).store (qg p (.s (.slice om p.mine.length cm)) (.s (.slice oh p.has.length ch)) (.s (.slice oa p.acked.length ca)));rw[show zq (zo p) 0 (qg p (.s (.slice om p.mine.length cm)) (.s (.slice oh p.has.length ch)) (.s (.slice oa p.acked.length ca)))=qg p (.s (.slice om p.mine.length cm)) (.s (.slice oh p.has.length ch)) (.s (.slice oa p.acked.length ca))from rfl];generalize S1.sO b2 _=S2 at hS2⊢;have hsl:(n.src-1).toNat<p.has.length:=by have h1:=hn.1;have h2:=hp.2.2.1.2.1;omega
 have hsi:n.src-1=(((n.src-1).toNat:Nat):Int):=by have h1:=hn.1;omega
 have hgh:p.has.getD (n.src-1).toNat 0=p.has[(n.src-1).toNat]:=by rw[Fap,Fac hsl];rfl
 have hne:p.has≠[]:=Fdq θ;obtain⟨bh,ch2,Lh,eh,oh2,a1,a2,a3,hK⟩:=Foc.row (k:=1) (f:=zn) (l:=p.has) (hS2.at 2 rfl) hne;cases eh;have hq2:=(hS2.at 0 rfl).obj;have hhb:=hp.2.2.1.1 _ hsl;have htu:=hp.1.2.2.2;have hde:=hp.1.2.2.1;refine Qc zb yan ?_;refine Qbc ?_;refine ze Qal ?_;refine⟨(n.src-1).toNat,hsi,hsl,?_⟩;refine Qbc ?_;refine gp (i:=ti2) (x:=int p.has[(n.src-1).toNat]) rfl (Cw (f:=zn) (k:=1) (λ_=>rfl) hsl) ?_;refine ze (by unfold maxT at htu;omega) ?_;refine zu (λc6=>?_) (λc6=>?_)
 ·have hno2:¬Bf p.inputs n.inp:=by
   rintro⟨y,hy,hy1,hy2⟩;obtain⟨j,hj,rfl⟩:=Faf hy;have hn7:=hn.2.2.2.2.2.2;rw[if_neg θ]at hn7;have g2:=(hp.2.2.2.2.2.2.2.2.2.2 j hj).2.2;rw[hy2,hn7.2]at g2;have:=g2 hsl;omega
  have et:jf p n={p with inputs:=jl p.inputs n.inp,has:=p.has.set (n.src-1).toNat (p.has[(n.src-1).toNat]+1)}:=by unfold jf;rw[hgh,if_pos c6]
  refine Qbc ?_;refine sm p.inputs hs.2.1 hp.2.2.2.2.2.2.2.2.2.1 n.inp hnx _ _ (λhh=>absurd hh hno2) (λ_=>?_);have hS5:=(hS2.at 0 rfl).store (qg {p with inputs:=jl p.inputs n.inp} (.s (.slice om p.mine.length cm)) (.s (.slice (some ⟨bh,0,none⟩) p.has.length ch)) (.s (.slice oa p.acked.length ca)));refine yg (i:=ti62) (v:=lst 3 zh (jl p.inputs n.inp)) (b:=b2) (o:=0+6) (l:=qg p (.s (.slice om p.mine.length cm)) (.s (.slice (some ⟨bh,0,none⟩) p.has.length ch)) (.s (.slice oa p.acked.length ca))) (st2:=S2.sO b2 (.cells (qg {p with inputs:=jl p.inputs n.inp} (.s (.slice om p.mine.length cm)) (.s (.slice (some ⟨bh,0,none⟩) p.has.length ch)) (.s (.slice oa p.acked.length ca))))) rfl rfl rfl hq2 (show 0+6+1<=11 by decide) rfl ?_;generalize S2.sO b2 _=S5 at hS5⊢;obtain⟨bh2,ch3,Lh2,eh2,oh3,a4,a5,a6,hK2⟩:=Foc.row (k:=1) (f:=zn) (l:=p.has) (hS5.at 2 rfl) hne;cases eh2;have hq5:=(hS5.at 0 rfl).obj;refine Qbc ?_;refine ze Qal ?_;refine⟨(n.src-1).toNat,hsi,hsl,?_⟩;refine Qbc ?_;refine gp (i:=ti2) (x:=int p.has[(n.src-1).toNat]) rfl (Cw (f:=zn) (k:=1) (λ_=>rfl) hsl) ?_;refine ze (by unfold maxT at htu;omega) ?_;refine⟨(n.src-1).toNat,hsi,hsl,?_⟩;refine yg (i:=ti2) (v:=int (p.has[(n.src-1).toNat]+1)) (b:=bh) (o:=0+(n.src-1).toNat*1) (st2:=S5.sO bh (.cells ((rws zn (p.has.set (n.src-1).toNat (p.has[(n.src-1).toNat]+1))).flatten++Lh2))) rfl rfl rfl oh3 (by rw[Fab,yx (k:=1) (λ_=>rfl)];omega) (by rw[Fba];exact congrArg _ (congrArg _ (Ml (f:=zn) (k:=1) (λ_=>rfl) hsl (p.has[(n.src-1).toNat]+1) Lh2))) ?_;have hS6:=hK2 (λa=>RowsQ 1 zn a (.s (.slice (some ⟨bh,0,none⟩) p.has.length ch)) (p.has.set (n.src-1).toNat (p.has[(n.src-1).toNat]+1))) (.cells ((rws zn (p.has.set (n.src-1).toNat (p.has[(n.src-1).toNat]+1))).flatten++Lh2)) (λa ha=>.inl (.inr ⟨bh,ch,Lh2,by rw[Fak],ha,by rw[Fak];exact a4,by rw[Fak];exact a5,a6⟩));generalize S5.sO bh _=S6 at hS6⊢
  let q:Per:={p with inputs:=jl p.inputs n.inp,has:=p.has.set (n.src-1).toNat (p.has[(n.src-1).toNat]+1)}
  have hSq:=hS6;exact s9
 have et:jf p n=p:=if_neg (by rw[hgh];exact c6)
 let q:Per:=p
 have hSq:=hS2;exact s9
def Ko{α:Type}{k:Nat}{f:α->List AV}{v:AV}{l:List α}{K:(Store->Prop)->Store->Prop}{S:Store}(h:Foc (λa=>RowsQ k f a v l) K S):RowsQ k f S v l:=by obtain⟨a,g,e,hd,hP⟩:=Foc.look1 h;rw[e];exact RowsQ.unL hP hd
def zbf(p:Per){vm vh va:AV}{S:Store}(hS:Sp (Cz p vm vh va) S){Oth M:BB}{w:World}{x:Value}(sto:StoreOK S Oth M w)(hx:VRel w (λb o=>M b o\/Oth b o) (.agg (qg p vm vh va)) x):
  VRel w (λb o=>(M b o\/Oth b o)/\S.obj b=none) (.agg (zo p)) x:=by
 have ra:=Ko (k:=1) (f:=zn) (l:=p.acked) (v:=va) (hS.at 0 rfl);have rh:=Ko (k:=1) (f:=zn) (l:=p.has) (v:=vh) (hS.at 1 rfl);have rm:=Ko (k:=3) (f:=zh) (l:=p.mine) (v:=vm) (hS.at 2 rfl);obtain⟨c,rfl,hr⟩:=Gc hx;refine Ma ⟨hr.1,λi x y hx hy=>?_⟩
 match i,hx with
 |0,hx=>cases hx;exact qn (hr.2 0 _ y rfl hy)
 |1,hx=>cases hx;exact qn (hr.2 1 _ y rfl hy)
 |2,hx=>cases hx;exact qn (hr.2 2 _ y rfl hy)
 |3,hx=>cases hx;exact qn (hr.2 3 _ y rfl hy)
 |4,hx=>cases hx;exact qn (hr.2 4 _ y rfl hy)
 |5,hx=>cases hx;exact RowsQ.borrowL (k:=3) (f:=zh) (λ_=>rfl) zdk rm sto (hr.2 5 _ y rfl hy)
 |6,hx=>cases hx;exact qn (hr.2 6 _ y rfl hy)
 |7,hx=>cases hx;exact RowsQ.borrowL (k:=1) (f:=zn) (λ_=>rfl) (λx y hy=>by rw[Fbo.1 hy];rfl) rh sto (hr.2 7 _ y rfl hy)
 |8,hx=>cases hx;exact RowsQ.borrowL (k:=1) (f:=zn) (λ_=>rfl) (λx y hy=>by rw[Fbo.1 hy];rfl) ra sto (hr.2 8 _ y rfl hy)
 |9,hx=>cases hx;exact qn (hr.2 9 _ y rfl hy)
 |10,hx=>cases hx;exact qn (hr.2 10 _ y rfl hy)
 |i+11,hx=>cases hx
def za7(p:Per)(n:Nte)(hf:p.fits)(hs:vz p)(hnf:n.inp.fits)(hnx:small n.inp.C)(st:Store)(R:Ja)(hbad:jm p n≠0->R (.tup [.agg (zo wy),int (jm p n)]) st)
  (h:jm p n=0->R (.tup [.agg (zo (xi p n)),int 0]) st):Jb 139 [.agg (zo p),.agg (ye n)] st R:=by
 refine Da (Q:=λr=>(jm p n≠0/\r=.tup [.agg (zo wy),int (jm p n)])\/(jm p n=0/\r=.tup [.agg (zo (xi p n)),int 0])) ?_ st R λr hr=>?_
 ·refine(zv1 p n hf hs hnf hnx).frozen ?_;rintro r S (⟨hh,rfl⟩|⟨hh,vm,vh,va,hv,rfl⟩)
  ·exact⟨_,.inl ⟨hh,rfl⟩,λOth M W y sto hy=>qn hy⟩
  ·exact⟨_,.inr ⟨hh,rfl⟩,λOth M W y sto hy=>VRel.tup2 hy (λz hz=>zbf _ hv sto hz) (λz hz=>qn hz)⟩
 ·rcases hr with⟨hh,rfl⟩|⟨hh,rfl⟩
  ·exact hbad hh
  ·exact h hh
def Qam{p:Prop}(h:p:=by rw[Fab,yx (k:=1) (λ_=>rfl)];omega):p:=h
def Qan{p:Prop}(h:p:=by rw[k1];omega):p:=h
open Classical in
noncomputable def jo(p:Per)(l:List Cmd):Int:=if¬qe p then 1 else if p.said=p.turn+p.delay-1\/p.said=1099511627776 then 10 else if¬Mj p.id l then 1 else 0
def jh(p:Per)(l:List Cmd):Inp:=⟨p.said+1,p.id,l⟩
def jc(p:Per)(l:List Cmd):Per:={p with said:=p.said+1,inputs:=jl p.inputs (jh p l),mine:=if p.players>1 then p.mine++[jh p l]else p.mine,has:=p.has.set (p.id-1).toNat (p.said+1),acked:=p.acked.set (p.id-1).toNat (p.said+1)}
def ydz(p:Per):qe p->0<p.has.length/\0<p.acked.length/\(p.id-1).toNat<p.has.length/\(p.id-1).toNat<p.acked.length:=λhp=>ψ4
def zad{q:Prop}(h:q:=by
 obtain⟨bh,ch2,Lh,eh,ohh,a1,a2,a3,hK⟩:=Foc.row (k:=1) (f:=zn) (l:=p.has) (hS4.at 2 rfl) (Fdq θ);cases eh;have hq6:=(hS4.at 0 rfl).obj;refine Qc zb ya5 ?_;refine Qbc ?_;refine Qbc ?_;refine ze Qan ?_;refine Qbc ?_;refine Qbc ?_;refine ze Qan ?_;refine Qbc ?_;refine Qbc ?_;refine⟨(p.id-1).toNat,by rw[k1];omega,hih,?_⟩;refine⟨?_,Tv⟩;refine za _ rfl (xa rfl (qz (v:=int p4.said) rfl rfl rfl rfl ?_));refine yg (i:=ti2) (v:=int p4.said) (b:=bh) (o:=0+(p.id-1).toNat*1) (st2:=S4.sO bh (.cells ((rws zn (p.has.set (p.id-1).toNat p4.said)).flatten++Lh))) rfl rfl rfl ohh Qam (by rw[Fba];exact congrArg _ (congrArg _ (Ml (f:=zn) (k:=1) (λ_=>rfl) hih p4.said Lh))) ?_;have hS7:=hK (λa=>RowsQ 1 zn a (.s (.slice (some ⟨bh,0,none⟩) p.has.length ch)) (p.has.set (p.id-1).toNat p4.said)) (.cells ((rws zn (p.has.set (p.id-1).toNat p4.said)).flatten++Lh)) (λa ha=>.inl (.inr ⟨bh,ch,Lh,by rw[Fak],ha,by rw[Fak];exact a1,by rw[Fak];exact a2,a3⟩));generalize S4.sO bh _=S7 at hS7⊢;obtain⟨ba,ca2,La,ea,oaa,a4,a5,a6,hK2⟩:=Foc.row (k:=1) (f:=zn) (l:=p.acked) (hS7.at 1 rfl) (Fdq θ);cases ea;have hq7:=(hS7.at 0 rfl).obj;refine⟨by repeat(first|exact Tv|refine⟨rfl,?_⟩|refine⟨za (o:=S7.obj b2) _ hq7 rfl,?_⟩|refine⟨ze Qan rfl,?_⟩|refine⟨⟨(p.id-1).toNat,by rw[k1];omega,hih,rfl⟩,?_⟩),?_⟩;refine⟨(p.id-1).toNat,by rw[k1];omega,hia,?_⟩;refine⟨?_,Tv⟩;refine za _ rfl (xa rfl (qz (v:=int p4.said) rfl rfl rfl rfl ?_));refine yg (i:=ti2) (v:=int p4.said) (b:=ba) (o:=0+(p.id-1).toNat*1) (st2:=S7.sO ba (.cells ((rws zn (p.acked.set (p.id-1).toNat p4.said)).flatten++La))) rfl rfl rfl oaa Qam (by rw[Fba];exact congrArg _ (congrArg _ (Ml (f:=zn) (k:=1) (λ_=>rfl) hia p4.said La))) ?_;have hS8:=hK2 (λa=>RowsQ 1 zn a (.s (.slice (some ⟨ba,0,none⟩) p.acked.length ca)) (p.acked.set (p.id-1).toNat p4.said)) (.cells ((rws zn (p.acked.set (p.id-1).toNat p4.said)).flatten++La)) (λa ha=>.inl (.inr ⟨ba,ca,La,by rw[Fak],ha,by rw[Fak];exact a4,by rw[Fak];exact a5,a6⟩));generalize S7.sO ba _=S8 at hS8⊢;have hq8:=(hS8.at 0 rfl).obj;refine⟨by repeat(first|exact Tv|refine⟨rfl,?_⟩|refine⟨za (o:=S8.obj b2) _ hq8 rfl,?_⟩|refine⟨ze Qan rfl,?_⟩|refine⟨⟨(p.id-1).toNat,by rw[k1];omega,hih,rfl⟩,?_⟩|refine⟨⟨(p.id-1).toNat,by rw[k1];omega,hia,rfl⟩,?_⟩),?_⟩;refine Qbc ?_;obtain⟨a,S9,e,hd9,ha9,hr⟩:=hS8;rw[e];refine Aq (Tt) ⟨λb x hx=>zf hx,λb y hy=>Dq hy⟩ (.inr ⟨e0,.s (.slice om nm cm),.s (.slice (some ⟨bh,0,none⟩) p.has.length ch),.s (.slice (some ⟨ba,0,none⟩) p.acked.length ca),?_,?_⟩);rotate_left
 ·rw[hp4];exact rfl
 ·show Sp [_,_,λa=>RowsQ 3 zh a _ (jc p l).mine] S9;rw[em];unfold jc;dsimp only;rw[<-k2];exact hr):q:=h
def yba(p:Per)(l:List Cmd)(hf:p.fits)(hs:vz p)(hlf:l.length<=1000000000)(hlc:∀c∈l,c.fits)(hls:small l):Jb 102 [.agg (zo p),lst 10 z6 l] Store.empty λr S=>
  (jo p l≠0/\r=.tup [.agg (zo wy),int (jo p l)])\/(jo p l=0/\∃vm vh va,Sp (Cz (jc p l) vm vh va) S/\r=.tup [.agg (qg (jc p l) vm vh va),int 0]):=by
 refine Qa (c:=cfg 82 [2] []) zb Tryz.func102 ?_;intro b2 hb2;have o2:=zd Store.empty b2 (.cells (zo p));have hS:=Sp.new (l:=[]) (S:=Store.empty) rfl hb2 (zo p);generalize Store.empty.sO b2 _=S0 at o2 hS⊢
 have bad:∀e:Int,e≠0->jo p l=e->∃r st',(AV.tup [.agg [int 0,int 0,int 0,int 0,int 0,.s (.slice none 0 0),.s (.slice none 0 0),.s (.slice none 0 0),.s (.slice none 0 0),.s (.slice none 0 0),V.bool false],int e]).le r/\S0.Has st'/\((jo p l≠0/\r=.tup [.agg (zo wy),int (jo p l)])\/(jo p l=0/\∃vm vh va,Sp (Cz (jc p l) vm vh va) st'/\r=.tup [.agg (qg (jc p l) vm vh va),int 0])):=λe h0 he=>
  ⟨.tup [.agg (zo wy),int e],S0,AV.le_tupL (xs:=[_,int e]) (ys:=[_,int e]) ⟨N8,Tt,Tv⟩,Store.Has.refl _,.inl ⟨by rw[he];exact h0,by rw[he]⟩⟩
 refine Qbc ?_;refine Hn p hf _ _ (λz1 h1=>?_);refine ym ?_;refine zk (λc1=>?_) (λc1=>?_);rotate_left
 ·exact bad 1 ψ (if_pos λhh=>by have:=h1.2 hh;rw[this]at c1;cases c1)
 have hp:=h1.1 c1;have htu:=hp.1.2.2.2;have hde:=hp.1.2.2.1;have hsd:=hp.2.1;unfold maxT at htu hsd;refine Qbc ?_;refine Qbc ?_;refine Qbc ?_;refine Qd ?_;refine Qd ?_;refine zu (λc2=>?_) (λc2=>?_)
 ·exact bad 10 ψ (by unfold jo;rw[if_neg (λh=>h hp),if_pos (.inl c2)])
 refine Qbc ?_;refine zu (λc3=>?_) (λc3=>?_)
 ·exact bad 10 ψ (by unfold jo;rw[if_neg (λh=>h hp),if_pos (.inr c3)])
 refine Qbc ?_;refine sf p.id l hlf hlc _ _ (λz2 h2=>?_);have hn23:¬(p.said=p.turn+p.delay-1\/p.said=1099511627776):=λh=>h.elim c2 c3;refine ym ?_;refine zk (λc4=>?_) (λc4=>?_);rotate_left
 ·exact bad 1 ψ (by unfold jo;rw[if_neg (λh=>h hp),if_neg hn23,if_pos λhh=>by have:=h2.2 hh;rw[this]at c4;cases c4])
 have hsp:=h2.1 c4;obtain⟨h0h,h0a,hih,hia⟩:=ydz p hp;have e0:jo p l=0:=by unfold jo;rw[if_neg (λh=>h hp),if_neg hn23,if_neg λh=>h hsp]
 refine Qbc ?_;refine Oy (za8 p hs (λv N=>∃vm vh va,Sp (Cz p vm vh va) N/\v=.agg (qg p vm vh va)) (λvm vh va N h=>⟨vm,vh,va,h,rfl⟩)) _ _ ?_;rintro _ N ⟨vm,vh,va,hN,rfl⟩ hd;obtain⟨_,_,_,_,ra⟩:=Foc.look1 (hN.at 0 rfl);obtain⟨_,_,_,_,rh⟩:=Foc.look1 (hN.at 1 rfl);obtain⟨_,_,_,_,rm⟩:=Foc.look1 (hN.at 2 rfl);obtain⟨oa,ca,rfl,_⟩:=RowsQ.form (k:=1) (f:=zn) (l:=p.acked) ra;obtain⟨oh,ch,rfl,_⟩:=RowsQ.form (k:=1) (f:=zn) (l:=p.has) rh;obtain⟨om,cm,rfl,_⟩:=RowsQ.form (k:=3) (f:=zh) (l:=p.mine) rm;have hS1:=Sp.more (P:=xp b2 (zo p)) (a:=S0) ψ3 hN (xn hd);rw[unC (xn hd)]at hS1;generalize N.un S0=S1 at hS1⊢;refine j4 (i:=ti63) (v:=.agg (qg p (.s (.slice om p.mine.length cm)) (.s (.slice oh p.has.length ch)) (.s (.slice oa p.acked.length ca)))) (xs:=qg p (.s (.slice om p.mine.length cm)) (.s (.slice oh p.has.length ch)) (.s (.slice oa p.acked.length ca))) (b:=b2) (o:=0) (l:=zo p) rfl rfl rfl (hS1.at 0 rfl).obj (show 0+11<=11 by decide) ?_;have hS2:=(hS1.at 0 rfl).store (qg p (.s (.slice om p.mine.length cm)) (.s (.slice oh p.has.length ch)) (.s (.slice oa p.acked.length ca)));rw[show zq (zo p) 0 (qg p (.s (.slice om p.mine.length cm)) (.s (.slice oh p.has.length ch)) (.s (.slice oa p.acked.length ca)))=qg p (.s (.slice om p.mine.length cm)) (.s (.slice oh p.has.length ch)) (.s (.slice oa p.acked.length ca))from rfl];generalize S1.sO b2 _=S2 at hS2⊢;have hq2:=(hS2.at 0 rfl).obj;refine Qbc ?_;refine Qd ?_;have hS3:=(hS2.at 0 rfl).store (qg {p with said:=p.said+1} (.s (.slice om p.mine.length cm)) (.s (.slice oh p.has.length ch)) (.s (.slice oa p.acked.length ca)));refine yg (i:=ti2) (v:=int (p.said+1)) (b:=b2) (o:=0+4) (l:=qg p (.s (.slice om p.mine.length cm)) (.s (.slice oh p.has.length ch)) (.s (.slice oa p.acked.length ca))) (st2:=S2.sO b2 (.cells (qg {p with said:=p.said+1} (.s (.slice om p.mine.length cm)) (.s (.slice oh p.has.length ch)) (.s (.slice oa p.acked.length ca))))) rfl rfl rfl hq2 (show 0+4+1<=11 by decide) rfl ?_;generalize S2.sO b2 _=S3 at hS3⊢;have hq3:=(hS3.at 0 rfl).obj;refine Qbc ?_;refine Qbc ?_;refine Qbc ?_;refine sm p.inputs hs.2.1 hp.2.2.2.2.2.2.2.2.2.1 (jh p l) hls _ _ (λhh=>?_) (λhh=>?_)
 ·refine absurd hh ?_;rintro⟨y,hy,hy1,hy2⟩;obtain⟨j,hj,rfl⟩:=Faf hy;have hy1:p.inputs[j].t=p.said+1:=hy1;have hy2:p.inputs[j].p=p.id:=hy2;have g2:=(hp.2.2.2.2.2.2.2.2.2.2 j hj).2.2;rw[hy2]at g2;have hlt:(p.id-1).toNat<p.has.length:=by
   have:=hp.2.2.1.2.1;have:=hp.1.2.1;omega
  have g3:=g2 hlt;rw[hp.2.2.1.2.2 hlt]at g3;omega
 have hS4:=(hS3.at 0 rfl).store (qg {p with said:=p.said+1,inputs:=jl p.inputs (jh p l)} (.s (.slice om p.mine.length cm)) (.s (.slice oh p.has.length ch)) (.s (.slice oa p.acked.length ca)));refine yg (i:=ti62) (v:=lst 3 zh (jl p.inputs (jh p l))) (b:=b2) (o:=0+6) (l:=qg {p with said:=p.said+1} (.s (.slice om p.mine.length cm)) (.s (.slice oh p.has.length ch)) (.s (.slice oa p.acked.length ca))) (st2:=S3.sO b2 (.cells (qg {p with said:=p.said+1,inputs:=jl p.inputs (jh p l)} (.s (.slice om p.mine.length cm)) (.s (.slice oh p.has.length ch)) (.s (.slice oa p.acked.length ca))))) rfl rfl rfl hq3 (show 0+6+1<=11 by decide) rfl ?_;generalize S3.sO b2 _=S4 at hS4⊢;obtain⟨p4,hp4⟩:∃p4:Per,p4={p with said:=p.said+1,inputs:=jl p.inputs (jh p l)}:=⟨_,rfl⟩
 rw[<-hp4]at hS4;have k1:p4.id=p.id:=by rw[hp4]
 have k2:p4.said=p.said+1:=by rw[hp4]
 have hid:=hp.1.2.1;have hpl:=hp.1.1;have hq4:=(hS4.at 0 rfl).obj;refine Qbc ?_;refine bcd (λc5=>?_) (λc5=>?_)
 ·refine Qc zb ya6 ?_;refine Qbc ?_;refine⟨H5 (jh p l) hls _ _ ⟨⟨za (o:=S4.obj b2) _ hq4 rfl,Tv⟩,?_⟩,Tv⟩;have rm4:=Ko (k:=3) (f:=zh) (l:=p.mine) (v:=.s (.slice om p.mine.length cm)) (hS4.at 3 rfl);refine⟨ψ,?_⟩;refine⟨Cn (ie:=ti123) rfl (λ_=>rfl) ψ rm4 (jh p l) rfl (by have:=hs.1.1;omega) (λb3 cap3 L3 q1 q2 q3 q4=>⟨Tv,?_⟩),Tv⟩;have hS5:=Foc.grow (k:=3) (f:=zh) (l:=p.mine) (v:=.s (.slice om p.mine.length cm)) (hS4.at 3 rfl) q1 (λa=>RowsQ 3 zh a (.s (.slice (some ⟨b3,0,none⟩) (p.mine++[jh p l]).length cap3)) (p.mine++[jh p l])) (.cells ((rws zh (p.mine++[jh p l])).flatten++L3)) (λa ha=>.inl (.inr ⟨b3,cap3,L3,rfl,ha,q2,q3,q4⟩));generalize S4.sO b3 _=S5 at hS5⊢;refine⟨?_,Tv⟩;refine za _ rfl (xa rfl (qz (v:=.s (.slice (some ⟨b3,0,none⟩) (p.mine++[jh p l]).length cap3)) rfl rfl rfl rfl ?_));refine yg (i:=ti62) (v:=.s (.slice (some ⟨b3,0,none⟩) (p.mine++[jh p l]).length cap3)) (b:=b2) (o:=0+5) (l:=qg p4 (.s (.slice om p.mine.length cm)) (.s (.slice oh p.has.length ch)) (.s (.slice oa p.acked.length ca))) (st2:=S5.sO b2 (.cells (qg p4 (.s (.slice (some ⟨b3,0,none⟩) (p.mine++[jh p l]).length cap3)) (.s (.slice oh p.has.length ch)) (.s (.slice oa p.acked.length ca))))) rfl rfl rfl (hS5.at 0 rfl).obj (show 0+5+1<=11 by decide) rfl ?_;have hS6:=(hS5.at 0 rfl).store (qg p4 (.s (.slice (some ⟨b3,0,none⟩) (p.mine++[jh p l]).length cap3)) (.s (.slice oh p.has.length ch)) (.s (.slice oa p.acked.length ca)));generalize S5.sO b2 _=S6 at hS6⊢;refine⟨Tv,?_⟩;have em:(jc p l).mine=p.mine++[jh p l]:=if_pos (show p.players>1 by rw[hp4]at c5;exact c5);generalize(some ⟨b3,0,none⟩:Option Addr)=om at hS6⊢;generalize(p.mine++[jh p l]).length=nm at hS6⊢;generalize cap3=cm at hS6⊢;generalize S6=S4 at hS6⊢;have hS4:=hS6;exact zad
 ·have em:(jc p l).mine=p.mine:=if_neg (show¬p.players>1 by rw[hp4]at c5;exact c5);generalize p.mine.length=nm at hS4⊢;exact zad
def ydo(p:Per)(l:List Cmd)(hf:p.fits)(hs:vz p)(hlf:l.length<=1000000000)(hlc:∀c∈l,c.fits)(hls:small l):Jb 102 [.agg (zo p),lst 10 z6 l] Store.empty λr _=>(jo p l≠0/\r=.tup [.agg (zo wy),int (jo p l)])\/(jo p l=0/\r=.tup [.agg (zo (jc p l)),int 0]):=by
 refine(yba p l hf hs hlf hlc hls).frozen ?_;rintro r S (⟨hh,rfl⟩|⟨hh,vm,vh,va,hv,rfl⟩)
 ·exact⟨_,.inl ⟨hh,rfl⟩,λOth M W y sto hy=>qn hy⟩
 ·exact⟨_,.inr ⟨hh,rfl⟩,λOth M W y sto hy=>VRel.tup2 hy (λz hz=>zbf _ hv sto hz) (λz hz=>qn hz)⟩
def ydn(p:Per)(l:List Cmd)(hf:p.fits)(hs:vz p)(hlf:l.length<=1000000000)(hlc:∀c∈l,c.fits)(hls:small l)(st:Store)(R:Ja)(hbad:jo p l≠0->R (.tup [.agg (zo wy),int (jo p l)]) st)
  (h:jo p l=0->R (.tup [.agg (zo (jc p l)),int 0]) st):Jb 102 [.agg (zo p),lst 10 z6 l] st R:=by
 refine Da (Q:=λr=>(jo p l≠0/\r=.tup [.agg (zo wy),int (jo p l)])\/(jo p l=0/\r=.tup [.agg (zo (jc p l)),int 0])) ?_ st R λr hr=>?_
 ·exact ydo p l hf hs hlf hlc hls
 ·rcases hr with⟨hh,rfl⟩|⟨hh,rfl⟩
  ·exact hbad hh
  ·exact h hh
end Go.Proofs
