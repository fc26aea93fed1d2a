/- Ground of laws of throngtop: contracts and plain lemmas; no condition beyond the row's own. -/
import Derived.Test.YtkahacegdhllcaaGreatKK
import Derived.Test.YtkahacegdhllcaaGreatKE
set_option linter.unusedSimpArgs false
set_option linter.unusedVariables false
set_option linter.defProp false
namespace Go.Proofs
open Go Go.V
set_option maxRecDepth 20000
set_option maxHeartbeats 4000000
section
variable {NT NB NU:Store} {w:Wld} {vT vB vU:AV}
theorem ve(u:Bld):(zl u).length=6:=rfl
def Va(b:Bld):∀y∈zl b,∃x,y=AV.s x/\xe x=true:=by intro y hy;simp[zl]at hy;rcases hy with rfl|rfl|rfl|rfl|rfl|rfl<;>exact⟨_,rfl,rfl⟩
def Vv(c:UInt8):(u8C c).length=1:=rfl
def iz(c:UInt8):∀y∈u8C c,∃x,y=AV.s x/\xe x=true:=by intro y hy;simp[u8C]at hy;exact⟨_,hy,rfl⟩
def Kw(st:Store):zj Store.empty st:=λb hb=>(hb.elim (λh=>h rfl) (λh=>h rfl):False).elim
def Su(st:Store):zj Store.empty st:=λb hb=>(hb.elim (λh=>h rfl) (λh=>h rfl):False).elim
def ysl(l:List UInt8)(hl:l.length<=1000000000)(st:Store)(R:Ja)(h:∀v N,RowsQ 1 u8C N v l->zj N st->R v (N.un st)):Jb 89 [qa l] st R:=by
 refine Qy 8 Tryz.func89 ?_;intro b hb;cases b with
 |true=>
  have:l=[]:=θt;subst this;have:=h (.s (.slice none 0 0)) Store.empty (.inl (.inl ⟨rfl,rfl⟩)) (Su st);rw[vo]at this;exact ret this
 |false=>
  exact⟨ψ,M4 (ie:=ti5) rfl Vv ψ hl (λv N hv hd=>ret (h v N hv hd))⟩
def fw(l:List Bld)(hl:l.length<=1000000000)(st:Store)(R:Ja)(h:∀v N,RowsQ 6 zl N v l->zj N st->R v (N.un st)):Jb 99 [lst 6 zl l] st R:=by
 refine Qy 8 Tryz.func99 ?_;intro b hb;cases b with
 |true=>
  have:l=[]:=θt;subst this;have:=h (.s (.slice none 0 0)) Store.empty (.inl (.inl ⟨rfl,rfl⟩)) (Su st);rw[vo]at this;exact ret this
 |false=>
  exact⟨ψ,M4 (ie:=ti140) rfl ve ψ hl (λv N hv hd=>ret (h v N hv hd))⟩
def ysk(l:List Unt)(hl:l.length<=1000000000)(st:Store)(R:Ja)(h:∀v N,RowsQ 10 zm N v l->zj N st->R v (N.un st)):Jb 100 [lst 10 zm l] st R:=by
 refine Qy 8 Tryz.func100 ?_;intro b hb;cases b with
 |true=>
  have:l=[]:=θt;subst this;have:=h (.s (.slice none 0 0)) Store.empty (.inl (.inl ⟨rfl,rfl⟩)) (Su st);rw[vo]at this;exact ret this
 |false=>
  exact⟨ψ,M4 (ie:=ti93) rfl Cy ψ hl (λv N hv hd=>ret (h v N hv hd))⟩
def r9(g:Gnd)(hg:g.T.length<=1000000000)(st:Store)(R:Ja)(h:∀v N,RowsQ 1 u8C N v g.T->zj N st->R (.agg [int g.W,int g.H,v]) (N.un st)):Jb 61 [.agg (zw g)] st R:=by refine Qy 8 Tryz.func61 ?_;refine ysl g.T hg _ _ (λv N hv hd=>?_);have⟨oa,cap,hv2,_⟩:=hv.form;subst hv2;exact ret (h _ N hv hd)
def I3(w:Wld)(vT vB vU:AV):List AV:=[int w.tick,int w.players,int w.next,int w.G.W,int w.G.H,vT,vB,vU]
structure OwnQ(S:Store)(w:Wld)(vT vB vU:AV)(NT NB NU:Store):Prop where
 e:S=NU.un (NB.un NT)
 rT:RowsQ 1 u8C NT vT w.G.T
 rB:RowsQ 6 zl NB vB w.B
 rU:RowsQ 10 zm NU vU w.U
 dB:zj NB NT
 dU:zj NU (NB.un NT)
def n9(w:Wld)(hT:w.G.T.length<=1000000000)(hB:w.B.length<=1000000000)(hU:w.U.length<=1000000000)(R:Ja)
  (h:∀S vT vB vU NT NB NU,OwnQ S w vT vB vU NT NB NU->R (.agg (I3 w vT vB vU)) S):Jb 65 [.agg (zr w)] Store.empty R:=by
 refine Qy 16 Tryz.func65 ?_;refine Qc zb ybz ?_;refine⟨r9 w.G hT _ _ (λvT NT rT _=>⟨Qe,?_⟩),Tv⟩;rw[Bn];refine⟨fw w.B hB _ _ (λvB NB rB dB=>⟨Qe,⟨ysk w.U hU _ _ (λvU NU rU dU=>⟨Qe,?_⟩),Tv⟩⟩),Tv⟩;have ho:OwnQ (NU.un (NB.un NT)) w vT vB vU NT NB NU:=⟨rfl,rT,rB,rU,dB,dU⟩
 have⟨_,_,e1,_⟩:=rT.form;have⟨_,_,e2,_⟩:=rB.form;have⟨_,_,e3,_⟩:=rU.form;subst e1 e2 e3;exact Qba (Qba (Qba (ret (h _ _ _ _ _ _ _ ho))))
def od{S:Store}(h:OwnQ S w vT vB vU NT NB NU):RowsQ 1 u8C S vT w.G.T/\RowsQ 6 zl S vB w.B/\RowsQ 10 zm S vU w.U:=by have h1:=h.rT;have h2:=h.rB.unL h.dB;rw[h.e];exact⟨(h1.un (a:=NB)).un,h2.un,h.rU.unL h.dU⟩
def og{st:Store}(h:OwnQ st w vT vB vU NT NB NU){Oth M:BB}{W:World}(sto:StoreOK st Oth M W){x:Value}(hx:VRel W (λb o=>M b o\/Oth b o) (.agg (I3 w vT vB vU)) x):
  VRel W (λb o=>(M b o\/Oth b o)/\st.obj b=none) (.agg (zr w)) x:=by
 have⟨hT,hB,hU⟩:=od h;cases hx with
 |agg _ c hl hc=>
  refine .agg _ c hl λi x y hx hy=>?_
  match i with
  |0=>simp only[zr,Fat,Fam]at hx;subst hx;exact qv (hc 0 _ y rfl hy)
  |1=>simp only[zr,Fay,Fat,Fam]at hx;subst hx;exact qv (hc 1 _ y rfl hy)
  |2=>simp only[zr,Fay,Fat,Fam]at hx;subst hx;exact qv (hc 2 _ y rfl hy)
  |3=>simp only[zr,Fay,Fat,Fam]at hx;subst hx;exact qv (hc 3 _ y rfl hy)
  |4=>simp only[zr,Fay,Fat,Fam]at hx;subst hx;exact qv (hc 4 _ y rfl hy)
  |5=>simp only[zr,Fay,Fat,Fam]at hx;subst hx;exact hT.borrow Vv iz sto (hc 5 _ y rfl hy)
  |6=>simp only[zr,Fay,Fat,Fam]at hx;subst hx;exact hB.borrow ve Va sto (hc 6 _ y rfl hy)
  |7=>simp only[zr,Fay,Fat,Fam]at hx;subst hx;exact hU.borrow Cy ip sto (hc 7 _ y rfl hy)
  |i+8=>simp[zr]at hx
def Oc{a b:Store}{i:Nat}(h:(a.un b).obj i=none):a.obj i=none/\b.obj i=none:=by
 unfold Store.un at h;dsimp only at h;cases hb:b.obj i with
 |none=>rw[hb]at h;exact⟨h,rfl⟩
 |some y=>rw[hb]at h;cases h
def ze1(w:Wld)(hT:w.G.T.length<=1000000000)(hB:w.B.length<=1000000000)(hU:w.U.length<=1000000000)(R:Ja)
  (h:∀v N,RowsQ 10 zm N v w.U->R (.agg (jh w v)) N):Jb 65 [.agg (zr w)] Store.empty R:=by
 refine(n9 w hT hB hU (λr S=>∃vT vB vU NT NB NU,OwnQ S w vT vB vU NT NB NU/\r=.agg (I3 w vT vB vU)) λS vT vB vU NT NB NU ho=>⟨vT,vB,vU,NT,NB,NU,ho,rfl⟩).frozenTo ?_;rintro r S ⟨vT,vB,vU,NT,NB,NU,ho,rfl⟩;have hk:∃N2:Store,RowsQ 10 zm N2 vU w.U/\(∀b x,N2.obj b=some x->NU.obj b=some x)/\(∀b x,N2.tok b≠some x):=by refine⟨⟨NU.obj,λ_=>none⟩,ho.rU.sub λ_ _ _ _=>rfl,λb x hx=>hx,λb x=>φ⟩
 have⟨N2,hN,hsub,htok⟩:=hk;refine⟨.agg (jh w vU),N2,h vU N2 hN,λb x hx=>?_,htok,λOth M W v sto hx=>?_⟩
 ·rw[ho.e];exact yf ho.dU (hsub b x hx)
 ·have⟨rT,rB,rU⟩:=od ho;cases hx with
  |agg _ c hl hc=>
   have mono1:∀{x:AV} {v:Value},VRel W (λb o=>M b o\/Oth b o) x v->VRel W (λb o=>(M b o\/Oth b o)/\(S.obj b=none\/N2.obj b≠none)) x v:=λh=>h.mono λ_ _ h=>h.1;have mono2:∀{x:AV} {v:Value} {Z:Store},(∀b,N2.obj b≠none->Z.obj b=none)->(∀b,S.obj b=none->Z.obj b=none)->VRel W (λb o=>(M b o\/Oth b o)/\Z.obj b=none) x v->VRel W (λb o=>(M b o\/Oth b o)/\(S.obj b=none\/N2.obj b≠none)) x v:=λhz1 hz2 h=>h.mono λb _ h=>⟨h.1,h.2.elim (hz2 b) (hz1 b)⟩
   have hS:∀b,S.obj b=none->NU.obj b=none/\NB.obj b=none/\NT.obj b=none:=λb hb=>by rw[ho.e]at hb;have⟨h1,h2⟩:=Oc hb;exact⟨h1,(Oc h2).1,(Oc h2).2⟩
   have hN2:∀b,N2.obj b≠none->NB.obj b=none/\NT.obj b=none:=λb hb=>by
    cases hx:N2.obj b with
    |none=>exact absurd hx hb
    |some y=>
     have h1:=j6 (hsub b y hx);have h2:=vj (ho.dU b h1);exact⟨(Oc h2.1).1,(Oc h2.1).2⟩
   have sNB:StoreOK NB Oth M W:=sto.weaken ⟨λb x hx=>by rw[ho.e];exact zg (yf ho.dB hx),λb x hx=>by rw[ho.e];exact Ft (K7 ho.dB hx)⟩;have sNT:StoreOK NT Oth M W:=sto.weaken ⟨λb x hx=>by rw[ho.e];exact zg (zg hx),λb x hx=>by rw[ho.e];exact Ft (Ft hx)⟩;refine .agg _ c hl λi x y hx hy=>?_
   match i with
   |0=>simp only[jh,Fat,Fam]at hx;subst hx;exact mono1 (hc 0 _ y rfl hy)
   |1=>simp only[jh,Fay,Fat,Fam]at hx;subst hx;exact mono1 (hc 1 _ y rfl hy)
   |2=>simp only[jh,Fay,Fat,Fam]at hx;subst hx;exact mono1 (hc 2 _ y rfl hy)
   |3=>simp only[jh,Fay,Fat,Fam]at hx;subst hx;exact mono1 (hc 3 _ y rfl hy)
   |4=>simp only[jh,Fay,Fat,Fam]at hx;subst hx;exact mono1 (hc 4 _ y rfl hy)
   |5=>simp only[jh,Fay,Fat,Fam]at hx;subst hx;exact mono2 (λb hb=>(hN2 b hb).2) (λb hb=>(hS b hb).2.2) (ho.rT.borrow Vv iz sNT (hc 5 _ y rfl hy))
   |6=>simp only[jh,Fay,Fat,Fam]at hx;subst hx;exact mono2 (λb hb=>(hN2 b hb).1) (λb hb=>(hS b hb).2.1) (ho.rB.borrow ve Va sNB (hc 6 _ y rfl hy))
   |7=>simp only[jh,Fay,Fat,Fam]at hx;subst hx;exact mono1 (hc 7 _ y rfl hy)
   |i+8=>simp[jh]at hx
end
theorem hasE(st:Store):st.Has Store.empty:=⟨λb x h=>ω,λb x h=>ω⟩
def Qab{p:Prop}(h:p:=by unfold jv;simp at h1⊢;omega):p:=h
def yr8(l:List Int)(hl:l.length<=1000000000000)(st:Store)(R:Ja)(h:R (lst 1 zn l) st):Jb 107 [lst 1 zn l] st R:=by
 refine Qy 19 Tryz.func107 ?_;refine AWp.loop (σ:=Nat×AV) ⟨λs=>[(0,.av (lst 1 zn l)),(3,.av s.2),(4,.av (int s.1))],λ_=>[],λs st'=>s.1<=l.length/\App 1 st s.2 (rws zn (l.take s.1)) st',λs=>l.length-s.1⟩ zb ?_ ?_
 ·exact⟨(0,_),Tv,⟨Fae _,App.start 1 st⟩,⟨Tq,Tq,Tq,Tv⟩,Tv⟩
 ·rintro⟨i,v⟩ st' ⟨hi,ha⟩;simp only at hi;refine zk (λh1=>?_) (λh1=>?_)
  ·have hlt:i<l.length:=k9 h1;refine⟨i,rfl,za _ (zp hlt) ⟨ψ,jy (ie:=ti2) (rows':=[zn l[i]]) ha ?_ ?_ ⟨?_,?_⟩ (λv2 st2 ha2=>?_)⟩⟩
   ·rfl
   ·rfl
   ·simp[zi,ti2];omega
   ·simp[zi];omega
   ·refine⟨⟨θ,θ⟩,⟨(i+1,v2),?_,⟨hlt,?_⟩,Qax,Tv⟩⟩
    ·show l.length-(i+1)<l.length-i;omega
    ·rw[<-Rf hlt];exact ha2
  ·have hge:i=l.length:=Fg h1 hi;subst hge;refine⟨_,st,AV.le_trans ha.le ?_,ha.has,h⟩;rw[Faj];exact Tt
def yr9(c:Cmd)(hc:c.fits)(st:Store)(R:Ja)(h:R (.agg (zz c)) st):Jb 70 [.agg (zz c)] st R:=by refine Qy 10 Tryz.func70 ?_;refine yr8 c.U hc _ _ ?_;exact⟨_,st,Tt,Store.Has.refl st,h⟩
def G9(n lo hi:Int)(st:Store)(R:Ja)(h:∀b:Bool,(b=true↔lo<=n/\n<=hi)->R (bool b) st):Jb 202 [int n,int lo,int hi] st R:=by
 refine Qy 15 Tryz.func202 ?_;refine zk (λh1=>?_) (λh1=>⟨_,st,Tt,Store.Has.refl st,h _ ?_⟩)
 ·refine⟨_,st,Tt,Store.Has.refl st,h _ ?_⟩;simp at h1⊢;omega
 ·simp at h1⊢;omega
def ylx(n:Int)(st:Store)(R:Ja)(h:∀b:Bool,(b=true↔0<=n/\n<=3)->R (bool b) st):Jb 111 [int n] st R:=by
 refine Qy 9 Tryz.func111 ?_;refine zk (λh1=>?_) (λh1=>⟨_,st,Tt,Store.Has.refl st,h _ ?_⟩)
 ·refine⟨_,st,Tt,Store.Has.refl st,h _ ?_⟩;simp at h1⊢;omega
 ·simp at h1⊢;omega
def yim(x y:Int)(st:Store)(R:Ja)(h:∀b:Bool,(b=true↔jv x y)->R (bool b) st):Jb 189 [.agg [int x,int y]] st R:=by refine Qy 21 Tryz.func189 ?_;refine zk (λh1=>zk (λh2=>zk (λh3=>?_) (λh1=>⟨_,st,Tt,Store.Has.refl st,h _ Qab⟩)) (λh1=>⟨_,st,Tt,Store.Has.refl st,h _ Qab⟩)) (λh1=>⟨_,st,Tt,Store.Has.refl st,h _ Qab⟩);refine⟨_,st,Tt,Store.Has.refl st,h _ ?_⟩;unfold jv;simp at h1 h2 h3⊢;omega
def iv(l:List Int)(hl:l.length<=1000000000000)(st:Store)(R:Ja)(h:∀b:Bool,(b=true↔Cz l)->R (bool b) st):Jb 226 [yc l] st R:=by
 refine Qy 40 Tryz.func226 ?_
 refine AWp.loop (σ:=Nat) ⟨λi=>[(0,.av (yc l)),(5,.av (yc l)),(6,.av (int l.length)),(7,.av (int i))],λ_=>[],
  λi st'=>i<=l.length/\st'=st/\∀j,j<i->(1<=l.getD j 0/\l.getD j 0<=1099511627776)/\(0<j->l.getD (j-1) 0<l.getD j 0),λi=>l.length-i⟩ zb ?_ ?_
 ·refine⟨0,Tv,⟨Fae _,rfl,λj hj=>θ⟩,⟨Tq,Tq,?_,Tq,Tv⟩,Tv⟩;rw[<-zi (f:=zn) l];exact Tq
 ·rintro i st' ⟨hi,rfl,hall⟩;refine zk (λh1=>?_) (λh1=>?_)
  ·have hlt:i<l.length:=by simpa using h1
   have hget:l.getD i 0=l[i]:=by simp[hlt]
   refine⟨i,rfl,za _ (zp hlt) ?_⟩;have bad:¬((1<=l.getD i 0/\l.getD i 0<=1099511627776)/\(0<i->l.getD (i-1) 0<l.getD i 0))->∀b:Bool,b=false->(b=true↔Cz l):=by rintro hb _ rfl;simp only[Fap,false_iff];exact λhu=>hb (hu.2 i hlt)
   have go:((1<=l.getD i 0/\l.getD i 0<=1099511627776)/\(0<i->l.getD (i-1) 0<l.getD i 0))->∀j,j<i+1->(1<=l.getD j 0/\l.getD j 0<=1099511627776)/\(0<j->l.getD (j-1) 0<l.getD j 0):=by
    intro hb j hj;by_cases hji:j=i
    ·subst hji;exact hb
    ·exact hall j θ
   refine zk (λh2=>⟨_,st',Tt,Store.Has.refl st',h _ (bad (by rw[hget];simp at h2;omega) _ rfl)⟩) (λh2=>zk (λh3=>⟨_,st',Tt,Store.Has.refl st',h _ (bad (by rw[hget];simp at h3;omega) _ rfl)⟩) (λh3=>zk (λh4=>?_) (λh4=>?_)))
   ·have h4:0<i:=by simpa using h4
    have hget1:l.getD (i-1) 0=l[i-1]:=by simp[show i-1<l.length by omega]
    refine⟨⟨θ,θ⟩,⟨i-1,θ,za _ (zp (show i-1<l.length by omega)) (zk (λh5=>⟨_,st',Tt,Store.Has.refl st',h _ (bad (by rw[hget,hget1];simp at h5;omega) _ rfl)⟩) (λh5=>⟨⟨θ,θ⟩,⟨i+1,?_,⟨hlt,rfl,go (by rw[hget,hget1];simp at h2 h3 h5;omega)⟩,Qax,Tv⟩⟩))⟩⟩;show l.length-(i+1)<l.length-i;omega
   ·refine⟨⟨θ,θ⟩,⟨i+1,?_,⟨hlt,rfl,go (by rw[hget];simp at h2 h3 h4;omega)⟩,Qax,Tv⟩⟩;show l.length-(i+1)<l.length-i;omega
  ·have hge:i=l.length:=by
    have:¬i<l.length:=θj;omega
   subst hge;refine zk (λh2=>⟨_,st',Tt,Store.Has.refl st',h _ ?_⟩) (λh2=>⟨_,st',Tt,Store.Has.refl st',h _ ?_⟩)
   ·rw[zi]at h2⊢;unfold Cz;simp only[decide_eq_true_eq]at h2⊢;constructor
    ·intro h3;exact⟨θ,hall⟩
    ·intro h3;omega
   ·rw[zi]at h2;unfold Cz;simp only[decide_eq_false_iff_not]at h2;simp only[Fap,false_iff];intro h3;omega
def Qac{p:Prop}(h:p:=by simp only[Fap,false_iff]at hb0⊢;simp[ky,idP,hb0]):p:=h
def Qad{p:Prop}(h:p:=by have q0:=hb0.1 rfl;rw[hb1];simp[ky,idP,q0]):p:=h
def yi9(c:Cmd)(hc:c.fits)(st:Store)(R:Ja)(h:∀b:Bool,(b=true↔c.okP)->R (.tup [.agg (zz c.only),bool b]) st):Jb 201 [.agg (zz c)] st R:=by
 refine Qy 119 Tryz.func201 ?_;refine zk (λk1=>?_) (λk1=>?_)
 ·have k1:c.K=1:=by simpa using k1
  have fin:∀b:Bool,(b=true↔_)->R (.tup [.agg (zz _),bool b]) st:=λb hb=>h b (hb.trans (Cmd.ok1 k1).symm);rw[Cmd.only1 k1]at fin;refine Qc zb yef (Qba (Qbb (ylx c.N _ _ (λb0 hb0=>?_))));cases b0 with
  |false=>
   refine⟨_,st,?_,Store.Has.refl st,fin false Qac⟩;exact AV.le_tupL ⟨AV.le_aggL ⟨Tt,Tt,Tt,Tt,AV.le_nil 1,Tt,Tt,Tt,Tt,Tt,Tv⟩,Tt,Tv⟩
  |true=>
   refine yim c.X c.Y _ _ (λb1 hb1=>⟨_,st,?_,Store.Has.refl st,fin b1 Qad⟩);exact AV.le_tupL ⟨AV.le_aggL ⟨Tt,Tt,Tt,Tt,AV.le_nil 1,Tt,Tt,Tt,Tt,Tt,Tv⟩,Tt,Tv⟩
 have k1:c.K≠1:=by simpa using k1
 refine zk (λk2=>?_) (λk2=>?_)
 ·have k2:c.K=2:=by simpa using k2
  have fin:∀b:Bool,(b=true↔_)->R (.tup [.agg (zz _),bool b]) st:=λb hb=>h b (hb.trans (Cmd.ok2 k2).symm);rw[Cmd.only2 k2]at fin;refine Qc zb yee (Qba (Qbb (iv c.U hc _ _ (λb0 hb0=>?_))));cases b0 with
  |false=>
   refine⟨_,st,?_,Store.Has.refl st,fin false Qac⟩;exact AV.le_tupL ⟨AV.le_aggL ⟨Tt,Tt,Tt,Tt,Tt,Tt,Tt,Tt,Tt,Tt,Tv⟩,Tt,Tv⟩
  |true=>
   refine G9 c.T 0 16383 _ _ (λb1 hb1=>⟨_,st,?_,Store.Has.refl st,fin b1 Qad⟩);exact AV.le_tupL ⟨AV.le_aggL ⟨Tt,Tt,Tt,Tt,Tt,Tt,Tt,Tt,Tt,Tt,Tv⟩,Tt,Tv⟩
 have k2:c.K≠2:=by simpa using k2
 refine zk (λk3=>?_) (λk3=>?_)
 ·have k3:c.K=3:=by simpa using k3
  have fin:∀b:Bool,(b=true↔_)->R (.tup [.agg (zz _),bool b]) st:=λb hb=>h b (hb.trans (Cmd.ok3 k3).symm);rw[Cmd.only3 k3]at fin;refine iv c.U hc _ _ (λb0 hb0=>⟨_,st,?_,Store.Has.refl st,fin b0 (hb0)⟩);exact AV.le_tupL ⟨AV.le_aggL ⟨Tt,Tt,Tt,Tt,Tt,Tt,Tt,Tt,Tt,Tt,Tv⟩,Tt,Tv⟩
 have k3:c.K≠3:=by simpa using k3
 refine zk (λk4=>?_) (λk4=>?_)
 ·have k4:c.K=4:=by simpa using k4
  have fin:∀b:Bool,(b=true↔_)->R (.tup [.agg (zz _),bool b]) st:=λb hb=>h b (hb.trans (Cmd.ok4 k4).symm);rw[Cmd.only4 k4]at fin;refine Qc zb yei (Qba (Qba (Qbb (G9 c.T 0 16383 _ _ (λb0 hb0=>?_)))));cases b0 with
  |false=>
   refine⟨_,st,?_,Store.Has.refl st,fin false Qac⟩;exact AV.le_tupL ⟨AV.le_aggL ⟨Tt,Tt,Tt,Tt,AV.le_nil 1,Tt,Tt,Tt,Tt,Tt,Tv⟩,Tt,Tv⟩
  |true=>
   refine G9 c.W 1 4 _ _ (λb1 hb1=>?_);cases b1 with
   |false=>
    refine⟨_,st,?_,Store.Has.refl st,fin false (by simp only[Fap,false_iff]at hb1⊢;simp[ky,idP,hb1])⟩;exact AV.le_tupL ⟨AV.le_aggL ⟨Tt,Tt,Tt,Tt,AV.le_nil 1,Tt,Tt,Tt,Tt,Tt,Tv⟩,Tt,Tv⟩
   |true=>
    refine G9 c.H 1 4 _ _ (λb2 hb2=>⟨_,st,?_,Store.Has.refl st,fin b2 (by have q0:=hb0.1 rfl;have q1:=hb1.1 rfl;rw[hb2];simp[ky,idP,q0,q1])⟩);exact AV.le_tupL ⟨AV.le_aggL ⟨Tt,Tt,Tt,Tt,AV.le_nil 1,Tt,Tt,Tt,Tt,Tt,Tv⟩,Tt,Tv⟩
 have k4:c.K≠4:=by simpa using k4
 refine zk (λk5=>?_) (λk5=>?_)
 ·have k5:c.K=5:=by simpa using k5
  have fin:∀b:Bool,(b=true↔_)->R (.tup [.agg (zz _),bool b]) st:=λb hb=>h b (hb.trans (Cmd.ok5 k5).symm);rw[Cmd.only5 k5]at fin;refine G9 c.N 1 1099511627776 _ _ (λb0 hb0=>⟨_,st,?_,Store.Has.refl st,fin b0 (hb0)⟩);exact AV.le_tupL ⟨AV.le_aggL ⟨Tt,Tt,Tt,Tt,AV.le_nil 1,Tt,Tt,Tt,Tt,Tt,Tv⟩,Tt,Tv⟩
 have k5:c.K≠5:=by simpa using k5
 refine zk (λk6=>?_) (λk6=>?_)
 ·have k6:c.K=6:=by simpa using k6
  have fin:∀b:Bool,(b=true↔_)->R (.tup [.agg (zz _),bool b]) st:=λb hb=>h b (hb.trans (Cmd.ok6 k6).symm);rw[Cmd.only6 k6]at fin;refine Qc zb yeh (Qba (Qbb (iv c.U hc _ _ (λb0 hb0=>?_))));cases b0 with
  |false=>
   refine⟨_,st,?_,Store.Has.refl st,fin false Qac⟩;exact AV.le_tupL ⟨AV.le_aggL ⟨Tt,Tt,Tt,Tt,Tt,Tt,Tt,Tt,Tt,Tt,Tv⟩,Tt,Tv⟩
  |true=>
   refine G9 c.N 1 1099511627776 _ _ (λb1 hb1=>⟨_,st,?_,Store.Has.refl st,fin b1 Qad⟩);exact AV.le_tupL ⟨AV.le_aggL ⟨Tt,Tt,Tt,Tt,Tt,Tt,Tt,Tt,Tt,Tt,Tv⟩,Tt,Tv⟩
 have k6:c.K≠6:=by simpa using k6
 refine zk (λk7=>?_) (λk7=>?_)
 ·have k7:c.K=7:=by simpa using k7
  have fin:∀b:Bool,(b=true↔_)->R (.tup [.agg (zz _),bool b]) st:=λb hb=>h b (hb.trans (Cmd.ok7 k7).symm);rw[Cmd.only7 k7]at fin;refine Qc zb yeg (Qba (Qbb (G9 c.N 1 1099511627776 _ _ (λb0 hb0=>?_))));cases b0 with
  |false=>
   refine⟨_,st,?_,Store.Has.refl st,fin false Qac⟩;exact AV.le_tupL ⟨AV.le_aggL ⟨Tt,Tt,Tt,Tt,AV.le_nil 1,Tt,Tt,Tt,Tt,Tt,Tv⟩,Tt,Tv⟩
  |true=>
   refine G9 c.T 0 16383 _ _ (λb1 hb1=>⟨_,st,?_,Store.Has.refl st,fin b1 Qad⟩);exact AV.le_tupL ⟨AV.le_aggL ⟨Tt,Tt,Tt,Tt,AV.le_nil 1,Tt,Tt,Tt,Tt,Tt,Tv⟩,Tt,Tv⟩
 have k7:c.K≠7:=by simpa using k7
 have fin:R (.tup [.agg (zz c.only),bool false]) st:=h false (by simpa using Cmd.ok0 k1 k2 k3 k4 k5 k6 k7);rw[Cmd.only0 k1 k2 k3 k4 k5 k6 k7]at fin;refine⟨_,st,?_,Store.Has.refl st,fin⟩;exact AV.le_tupL ⟨AV.le_aggL ⟨Tt,Tt,Tt,Tt,AV.le_nil 1,Tt,Tt,Tt,Tt,Tt,Tv⟩,Tt,Tv⟩
def zjm(c:Cmd)(hc:c.fits)(st:Store)(R:Ja)(h:∀b:Bool,(b=true↔vq c)->R (bool b) st):Jb 166 [.agg (zz c)] st R:=by
 refine Qy 65 Tryz.func166 ?_;refine yi9 c hc _ _ (λb hb=>?_);have no:¬vq c->R (bool false) st:=λhn=>h false (by simpa using hn);cases b with
 |false=>exact⟨_,st,Tt,Store.Has.refl st,no (λhp=>by have:=hb.2 hp.1;cases this)⟩
 |true=>
  refine G9 c.P 1 8 _ _ (λb1 hb1=>?_);cases b1 with
  |false=>exact⟨_,st,Tt,Store.Has.refl st,no (λhp=>by have:=hb1.2 hp.2.1;cases this)⟩
  |true=>
   refine G9 c.S 0 1099511627776 _ _ (λb2 hb2=>?_);cases b2 with
   |false=>exact⟨_,st,Tt,Store.Has.refl st,no (λhp=>by have:=hb2.2 hp.2.2.1;cases this)⟩
   |true=>
    have hP:c.only.P=c.P/\c.only.S=c.S/\c.only.K=c.K/\(c.only.U=c.U\/c.only.U=[]):=by
     unfold Cmd.only;repeat' split
     all_goals exact⟨rfl,rfl,rfl,φ⟩
    refine zk (λw1=>zk (λw2=>zk (λw3=>zk (λw4=>zk (λw5=>⟨_,st,Tt,Store.Has.refl st,h _ ?_⟩) (λw5=>⟨_,st,Tt,Store.Has.refl st,no (λhp=>by rw[hp.2.2.2]at w5;simp at w5)⟩)) (λw4=>⟨_,st,Tt,Store.Has.refl st,no (λhp=>by rw[hp.2.2.2]at w4;simp at w4)⟩)) (λw3=>⟨_,st,Tt,Store.Has.refl st,no (λhp=>by rw[hp.2.2.2]at w3;simp at w3)⟩)) (λw2=>⟨_,st,Tt,Store.Has.refl st,no (λhp=>by rw[hp.2.2.2]at w2;simp at w2)⟩)) (λw1=>⟨_,st,Tt,Store.Has.refl st,no (λhp=>by rw[hp.2.2.2]at w1;simp at w1)⟩);rw[zi,zi];constructor
    ·intro w6;refine⟨hb.1 rfl,hb1.1 rfl,hb2.1 rfl,?_⟩;have hU:c.only.U=c.U:=by
      rcases hP.2.2.2 with e|e
      ·exact e
      ·rw[e]at w6;simp at w6;rw[e,eq_comm,<-Fex];omega
     simp only[beq_iff_eq,Fa6,and_true]at w1 w2 w3 w4 w5;exact Cmd.eq_of hP.1 hP.2.1 hP.2.2.1 w1 hU w3 w4 w5 w2.1 w2.2
    ·intro hp;rw[hp.2.2.2];simp
section
variable {G:Store} {s p:Nat} {w:Wld} {v o0 o1 o2:AV}
def xr{i:TI}{cells row rest:List AV}{K:LV->Prop}(ha:Da i.ty=true)(hs:i.size=row.length)(hc:cells=row++rest)(h:K (.av (.agg row))):partK i cells K:=by subst hc;unfold partK;rw[ha,cond_true,hs];have:Nat.ble row.length (row++rest).length=true:=φ;rw[this,cond_true];refine Iw ?_;rw[Fcn (Fah _),Faj];exact h
def D3{α:Type}{k:Nat}{f:α->List AV}(hf:∀x,(f x).length=k){l:List α}{L:List AV}{i:Nat}(hi:i<l.length):List.drop (0+i*k) ((rws f l).flatten++L)=f l[i]++((rws f (l.drop (i+1))).flatten++L):=by
 have h1:(rws f (l.take i)).flatten.length=i*k:=by rw[qc hf,Fai,Fdm θ]
 rw[Fa9,Wj hi,Fas,<-h1,Fdg,Fas]
def ys8{S:Store}(R:Ja)(h:∀F p,CellsOf F p []->zj F S->R (ptr p) (F.un S)):Jb 113 [] S R:=by
 have:=ACalls.frame (a:=Store.empty) (g:=S) (λi h1=>by rcases h1 with h1|h1<;>exact absurd rfl h1) (zjy (λr a'=>∃p,r=ptr p/\CellsOf a' p []) (λa p h=>⟨p,rfl,h⟩)) (R':=R) (λr a' ⟨p,e,hc⟩ hd=>e▸h a' p hc hd)
 rwa [vo]at this
def svC(w:Wld)(v o0 o1 o2:AV)(p:Nat):List AV:=jh w v++[o0,o1,o2,ptr p]
def svS(G:Store)(s:Nat)(w:Wld)(v o0 o1 o2:AV)(p:Nat):Store:=G.sO s (.cells (svC w v o0 o1 o2 p))
structure StandR(F G:Store)(s p:Nat)(w:Wld)(v:AV)(L:List Ent)(o0 o1 o2:AV):Prop where
 hc:CellsOf F p L
 hd:zj F (svS G s w v o0 o1 o2 p)
 hs:G.obj s=none
 hu:RowsQ 10 zm G v w.U
 h0:Ob w 0 o0
 h1:Ob w 1 o1
 h2:Ob w 2 o2
def Br(G:Store)(s:Nat)(w:Wld)(v o0 o1 o2:AV)(p:Nat):(svS G s w v o0 o1 o2 p).obj s=some (.cells (svC w v o0 o1 o2 p)):=zd _ _ _
def Ka{u:AV}{l:List Unt}(hs:G.obj s=none)(h:RowsQ 10 zm G u l):RowsQ 10 zm (svS G s w v o0 o1 o2 p) u l:=by
 rcases h with(h|⟨b,cap,L,h1,h2,h3⟩)|h
 ·exact .inl (.inl h)
 ·refine .inl (.inr ⟨b,cap,L,h1,?_,h3⟩);have:b≠s:=λe=>by subst e;rw[hs]at h2;cases h2
  show(G.sO s _).obj b=_;rw[zf this];exact h2
 ·exact .inr h
def svS_has{i:Nat}:(svS G s w v o0 o1 o2 p).has i↔i=s\/G.has i:=by
 unfold svS Store.has;by_cases hi:i=s
 ·subst hi;simp[zd]
 ·rw[zf hi];simp[hi,Store.sO]
def tt{F:Store}{w':Wld}{v' q0 q1 q2:AV}(h:zj F (svS G s w v o0 o1 o2 p)):zj F (svS G s w' v' q0 q1 q2 p):=λi h1 h2=>h i h1 (svS_has.2 (svS_has.1 h2))
def ze5(w:Wld)(v:AV)(G:Store)(hu:RowsQ 10 zm G v w.U)(hU:w.U.length<=1000000)(hn:∀u∈w.U,u.pos.ok)(R:Ja)
  (h:∀F s p L o0 o1 o2,Fresh G s->StandR F G s p w v L o0 o1 o2->L.length<=w.U.length->(yl w.U->∀e,e∈L↔∃u∈w.U,u.inn=0/\e=(u.id,u.pos))->R (ptr s) (F.un (svS G s w v o0 o1 o2 p))):Jb 73 [.agg (jh w v)] G R:=by
 have⟨oa,cap,hv,hget⟩:=hu.form;subst hv;refine Qa (c:=cfg 31 [9] []) zb Tryz.func73 ?_;refine Qc zb zdi ?_;refine⟨ys8 _ (λF p hc hdF=>⟨Qe,⟨λs hs=>⟨Tv,Qbb ?_⟩,Tv⟩⟩),Tv⟩;have hs1:¬F.has s/\¬G.has s:=by have:=fresh_iff.1 hs;exact⟨λh=>this (un_has.2 (.inl h)),λh=>this (un_has.2 (.inr h))⟩
 have hsG:G.obj s=none:=(vj hs1.2).1;have e0:(F.un G).sO s (.cells (svC w (.s (.slice oa w.U.length cap)) (.s (.slice none 0 0)) (.s (.slice none 0 0)) (.s (.slice none 0 0)) p))=F.un (svS G s w (.s (.slice oa w.U.length cap)) (.s (.slice none 0 0)) (.s (.slice none 0 0)) (.s (.slice none 0 0)) p):=by exact zy F G s _
 have h0:StandR F G s p w (.s (.slice oa w.U.length cap)) [] (.s (.slice none 0 0)) (.s (.slice none 0 0)) (.s (.slice none 0 0)):=⟨hc,λi h1 h2=>by
  rcases svS_has.1 h2 with rfl|h2
  ·exact hs1.1 h1
  ·exact hdF i h1 h2,hsG,hu,.inl rfl,.inl rfl,.inl rfl⟩
 have hsf:Fresh G s:=fresh_iff.2 hs1.2
 refine AWp.loop (σ:=Nat×Store×List Ent) ⟨λq=>[(3,.av (ptr s)),(11,.av (.s (.slice oa w.U.length cap))),(12,.av (int (w.U.length:Nat))),(13,.av (int (q.1:Nat)))],λ_=>[],
  λq st'=>st'=q.2.1.un (svS G s w (.s (.slice oa w.U.length cap)) (.s (.slice none 0 0)) (.s (.slice none 0 0)) (.s (.slice none 0 0)) p)/\StandR q.2.1 G s p w (.s (.slice oa w.U.length cap)) q.2.2 (.s (.slice none 0 0)) (.s (.slice none 0 0)) (.s (.slice none 0 0))/\q.1<=w.U.length/\q.2.2.length<=q.1/\(∀e∈q.2.2,e.2.ok)/\(yl w.U->∀e,e∈q.2.2↔∃u∈w.U.take q.1,u.inn=0/\e=(u.id,u.pos)),λq=>w.U.length-q.1⟩ zb ?_ ?_
 ·exact⟨(0,F,[]),Tv,⟨e0,h0,Fae _,Fah _,λe he=>(by cases he),λ_ e=>φ⟩,Qax,Tv⟩
 rintro⟨i,F1,L⟩ st' ⟨rfl,hS,hi,hL,hok,hmem⟩;dsimp only at hS hi hL hok hmem⊢;refine bcd (λh1=>?_) (λh1=>?_);rotate_left
 ·have:i=w.U.length:=θ;subst this;rw[Faj]at hmem;exact ret (h F1 s p L _ _ _ hsf hS hL hmem)
 have hlt:i<w.U.length:=θ;obtain⟨b,J,rfl,hob0⟩:=hget i hlt;have hbs:b≠s:=λe=>by subst e;rw[hsG]at hob0;cases hob0
 have hob:(F1.un (svS G s w (.s (.slice (some ⟨b,0,none⟩) w.U.length cap)) (.s (.slice none 0 0)) (.s (.slice none 0 0)) (.s (.slice none 0 0)) p)).obj b=some (.cells ((rws zm w.U).flatten++J)):=zg (by show(G.sO s _).obj b=_;rw[zf hbs];exact hob0);refine⟨i,rfl,hlt,za (o:=(F1.un (svS G s w _ _ _ _ p)).obj b) _ hob (xr (i:=ti93) (row:=zm w.U[i]) rfl rfl (D3 Cy hlt) ?_)⟩;have hn2:=hn w.U[i] (Faa hlt);refine zu (λc1=>?_) (λc1=>?_)
 ·refine Qc zb zdh (za (o:=(F1.un (svS G s w _ _ _ _ p)).obj s) _ (zg (Br G s w _ _ _ _ p)) ⟨uu hS.hc hS.hd θ hok w.U[i].id w.U[i].pos hn2 _ (λF2 h2 h3=>⟨Tv,?_⟩),Tv⟩);have hlen:(qt L w.U[i].id++[(w.U[i].id,w.U[i].pos)]).length<=i+1:=by
   rw[Fac];have:(qt L w.U[i].id).length<=L.length:=Fbv _ _;simp only[Fan];omega
  refine Qd ⟨(i+1,F2,_),?_,⟨rfl,⟨h2,h3,hsG,hu,.inl rfl,.inl rfl,.inl rfl⟩,ξ,hlen,λe he=>?_,λhr e=>?_⟩,⟨Tq,Tq,Tq,Tq,Tv⟩,Tv⟩
  ·show w.U.length-(i+1)<w.U.length-i;omega
  ·rcases Faq.1 he with he|he
   ·exact hok e (mem_dropId.1 he).1
   ·simp at he;subst he;exact hn2
  ·dsimp only;rw[Fad hlt,Faq,mem_dropId,hmem hr e];constructor
   ·rintro(⟨⟨u,hu,h4⟩,_⟩|he)
    ·exact⟨u,Faq.2 (.inl hu),h4⟩
    ·simp at he;exact⟨w.U[i],Faq.2 (.inr φ),c1,he⟩
   ·rintro⟨u,hu,h4,h5⟩;rcases Faq.1 hu with hu|hu
    ·refine .inl ⟨⟨u,hu,h4,h5⟩,?_⟩;obtain⟨j,hj,rfl⟩:=Faf hu;rw[Fai]at hj;rw[Fdr]at h5;have:=Wq hr (a:=j) (b:=i) θ hlt;subst h5;show w.U[j].id≠w.U[i].id;omega
    ·simp at hu;subst hu;exact .inr (by simp[h5])
 ·refine Qd ⟨(i+1,F1,L),?_,⟨rfl,hS,ξ,ξ,hok,λhr e=>?_⟩,Qax,Tv⟩
  ·show w.U.length-(i+1)<w.U.length-i;omega
  ·dsimp only;rw[hmem hr e,Fad hlt];constructor
   ·rintro⟨u,hu,h3⟩;exact⟨u,Faq.2 (.inl hu),h3⟩
   ·rintro⟨u,hu,h3,h4⟩;rcases Faq.1 hu with hu|hu
    ·exact⟨u,hu,h3,h4⟩
    ·simp at hu;subst hu;exact absurd h3 c1
end
section
variable {F G:Store} {s p:Nat} {w:Wld} {v o0 o1 o2:AV}
def yai{L:List Ent}(hS:StandR F G s p w v L o0 o1 o2)(hg:zv w.G)(hB:w.B.length<=1000000000000)(hb:∀b∈w.B,qh b/\onP w.G b)(c:Int)(hc:c=0\/c=1\/c=2)(R:Ja)
  (h:∀q0 q1 q2,StandR F G s p w v L q0 q1 q2->R (opV w.G w.B c) (F.un (svS G s w v q0 q1 q2 p))):Jb 117 [ptr s,int c] (F.un (svS G s w v o0 o1 o2 p)) R:=by
 have ho:=zg (a:=F) (Br G s w v o0 o1 o2 p);have⟨x0,y0,hne0⟩:=F0 hg w.B 0;have⟨x1,y1,hne1⟩:=F0 hg w.B 1;have⟨x2,y2,hne2⟩:=F0 hg w.B 2;rcases hc with rfl|rfl|rfl
 ·rcases hS.h0 with e|e
  ·subst e;refine Qy 35 Tryz.func117 ?_;refine⟨0,rfl,ψ,za (o:=(F.un (svS G s w v _ _ _ p)).obj s) _ ho (Qc zb Nv (za (o:=(F.un (svS G s w v _ _ _ p)).obj s) _ ho (za (o:=(F.un (svS G s w v _ _ _ p)).obj s) _ ho ⟨Mr w.G hg w.B hB hb 0 _ _ ⟨Tv,⟨0,rfl,ψ,?_⟩⟩,Tv⟩)))⟩;have ho2:=zg (a:=F) (Br G s w v (opV w.G w.B 0) o1 o2 p);have hc2:=O8 (F0 hg w.B 0);refine⟨za _ rfl (xf rfl (q9 (v:=opV w.G w.B 0) rfl rfl rfl rfl (ye (i:=ti32) (v:=opV w.G w.B 0) (b:=s) (o:=0+8+0*ti32.size) (l:=svC w v _ o1 o2 p) (st2:=F.un (svS G s w v (opV w.G w.B 0) o1 o2 p)) hc2.1 hc2.2 rfl ho (show 8+1<=12 by decide) ?_ ?_))),Tv⟩
   ·rw[zy];unfold svS;rw[yw];rfl
   exact⟨Tv,⟨0,rfl,ψ,za (o:=(F.un (svS G s w v _ _ _ p)).obj s) _ ho2 (ret (h _ _ _ ⟨hS.hc,tt hS.hd,hS.hs,hS.hu,.inr rfl,hS.h1,hS.h2⟩))⟩⟩
  ·rw[hne0]at e;subst e;refine Qy 35 Tryz.func117 ?_;refine⟨0,rfl,ψ,za (o:=(F.un (svS G s w v _ _ _ p)).obj s) _ ho (λbb hbb=>?_)⟩;have hbf:bb=false:=by grind
   subst hbf;refine⟨0,rfl,ψ,za (o:=(F.un (svS G s w v _ _ _ p)).obj s) _ ho (ret ?_)⟩;have:=h _ _ _ hS;rw[hne0]at this;exact this
 ·rcases hS.h1 with e|e
  ·subst e;refine Qy 35 Tryz.func117 ?_;refine⟨1,rfl,ψ,za (o:=(F.un (svS G s w v _ _ _ p)).obj s) _ ho (Qc zb Nv (za (o:=(F.un (svS G s w v _ _ _ p)).obj s) _ ho (za (o:=(F.un (svS G s w v _ _ _ p)).obj s) _ ho ⟨Mr w.G hg w.B hB hb 1 _ _ ⟨Tv,⟨1,rfl,ψ,?_⟩⟩,Tv⟩)))⟩;have ho2:=zg (a:=F) (Br G s w v o0 (opV w.G w.B 1) o2 p);have hc2:=O8 (F0 hg w.B 1);refine⟨za _ rfl (xf rfl (q9 (v:=opV w.G w.B 1) rfl rfl rfl rfl (ye (i:=ti32) (v:=opV w.G w.B 1) (b:=s) (o:=0+8+1*ti32.size) (l:=svC w v o0 _ o2 p) (st2:=F.un (svS G s w v o0 (opV w.G w.B 1) o2 p)) hc2.1 hc2.2 rfl ho (show 9+1<=12 by decide) ?_ ?_))),Tv⟩
   ·rw[zy];unfold svS;rw[yw];rfl
   exact⟨Tv,⟨1,rfl,ψ,za (o:=(F.un (svS G s w v _ _ _ p)).obj s) _ ho2 (ret (h _ _ _ ⟨hS.hc,tt hS.hd,hS.hs,hS.hu,hS.h0,.inr rfl,hS.h2⟩))⟩⟩
  ·rw[hne1]at e;subst e;refine Qy 35 Tryz.func117 ?_;refine⟨1,rfl,ψ,za (o:=(F.un (svS G s w v _ _ _ p)).obj s) _ ho (λbb hbb=>?_)⟩;have hbf:bb=false:=by grind
   subst hbf;refine⟨1,rfl,ψ,za (o:=(F.un (svS G s w v _ _ _ p)).obj s) _ ho (ret ?_)⟩;have:=h _ _ _ hS;rw[hne1]at this;exact this
 ·rcases hS.h2 with e|e
  ·subst e;refine Qy 35 Tryz.func117 ?_;refine⟨2,rfl,ψ,za (o:=(F.un (svS G s w v _ _ _ p)).obj s) _ ho (Qc zb Nv (za (o:=(F.un (svS G s w v _ _ _ p)).obj s) _ ho (za (o:=(F.un (svS G s w v _ _ _ p)).obj s) _ ho ⟨Mr w.G hg w.B hB hb 2 _ _ ⟨Tv,⟨2,rfl,ψ,?_⟩⟩,Tv⟩)))⟩;have ho2:=zg (a:=F) (Br G s w v o0 o1 (opV w.G w.B 2) p);have hc2:=O8 (F0 hg w.B 2);refine⟨za _ rfl (xf rfl (q9 (v:=opV w.G w.B 2) rfl rfl rfl rfl (ye (i:=ti32) (v:=opV w.G w.B 2) (b:=s) (o:=0+8+2*ti32.size) (l:=svC w v o0 o1 _ p) (st2:=F.un (svS G s w v o0 o1 (opV w.G w.B 2) p)) hc2.1 hc2.2 rfl ho (show 10+1<=12 by decide) ?_ ?_))),Tv⟩
   ·rw[zy];unfold svS;rw[yw];rfl
   exact⟨Tv,⟨2,rfl,ψ,za (o:=(F.un (svS G s w v _ _ _ p)).obj s) _ ho2 (ret (h _ _ _ ⟨hS.hc,tt hS.hd,hS.hs,hS.hu,hS.h0,hS.h1,.inr rfl⟩))⟩⟩
  ·rw[hne2]at e;subst e;refine Qy 35 Tryz.func117 ?_;refine⟨2,rfl,ψ,za (o:=(F.un (svS G s w v _ _ _ p)).obj s) _ ho (λbb hbb=>?_)⟩;have hbf:bb=false:=by grind
   subst hbf;refine⟨2,rfl,ψ,za (o:=(F.un (svS G s w v _ _ _ p)).obj s) _ ho (ret ?_)⟩;have:=h _ _ _ hS;rw[hne2]at this;exact this
def ypf(cs:List Value):flat (.tup (cs.map AV.s)):=by
 intro w T w' T' v h;cases h with
 |tup _ c hl h=>
  refine .tup _ c hl λi x y hx hy=>?_;rw[Far]at hx;cases hc:cs[i]? with
  |none=>rw[hc]at hx;cases hx
  |some z=>
   rw[hc]at hx;cases hx;have:=h i (.s z) y δ hy;cases this;exact .s _
def gg{g:Store}{l:List Unt}(hv:RowsQ 10 zm g v l)(hl:l.length<=1000000000000)(hr:yl l)(id:Int)(R:Ja)
  (h:∀i,Ok l id i->∀z:Bool,(z=true↔∃hi:i<l.length,l[i].id=id)->R (.tup [int (i:Nat),V.bool z]) g):Jb 120 [v,int id] g R:=
 ACalls.read (ys:=[lst 10 zm l,int id]) (Q:=λr=>∃(i:Nat) (z:Bool),r=.tup [int (i:Nat),V.bool z]/\Ok l id i/\(z=true↔∃hi:i<l.length,l[i].id=id)) (λOth M W vs sto hr=>by obtain⟨x,y,rfl,h1,h2⟩:=N7 hr;exact Reads.cons (hv.borrow Cy ip sto h1) (Reads.cons (qv h2) Reads.nil)) (zac l hl hr id _ _ λi hi z hz=>⟨i,z,rfl,hi,hz⟩) (λr ⟨i,z,e,_⟩=>e▸ypf [_,_]) (λr ⟨i,z,e,hi,hz⟩=>e▸h i hi z hz)
def zc2{L:List Ent}(hS:StandR F G s p w v L o0 o1 o2)(hr:yl w.U)(hU:w.U.length<=1000000)(hn:∀u∈w.U,u.pos.ok)(hLl:L.length<=w.U.length)(hL:F4 w L)(q:Vc)(hq:q.ok)(r:Int)(hrr:0<r/\r<=262144)(R:Ja)
  (h:∀F' us,StandR F' G s p w v L o0 o1 o2->L8 w q (r+81920) us->(us.map (·.id)).Pairwise (·<·)->us.length<=1000000->R (lst 10 zm us) (F'.un (svS G s w v o0 o1 o2 p))):Jb 118 [ptr s,.agg (yp q),int r] (F.un (svS G s w v o0 o1 o2 p)) R:=by
 have ho:=zg (a:=F) (Br G s w v o0 o1 o2 p);refine Qy 47 Tryz.func118 ?_;refine Qc zb zdn (za (o:=(F.un (svS G s w v _ _ _ p)).obj s) _ ho ?_);refine Qd ?_;refine⟨zj5 hS.hc hS.hd θ (Lx hL hn) hq (r:=r+81920) ⟨θ,θ⟩ _ (λF' N nv ns g1 g2 g3 g4 g5 g6=>⟨Tv,?_⟩),Tv⟩;have hS':StandR F' G s p w v L o0 o1 o2:=⟨g1,g3,hS.hs,hS.hu,hS.h0,hS.h1,hS.h2⟩
 have ho':((F'.un N).un (svS G s w v o0 o1 o2 p)).obj s=some (.cells (svC w v o0 o1 o2 p)):=zg (Br G s w v o0 o1 o2 p);have g4':zj (F'.un N) (svS G s w v o0 o1 o2 p):=disj_un.2 ⟨g3,g4⟩;have hv:∃oa cap,nv=.s (.slice oa ns.length cap)/\∀i,i<ns.length->∃b J,oa=some ⟨b,0,none⟩/\((F'.un N).un (svS G s w v o0 o1 o2 p)).obj b=some (.cells (ns.map aI++J)):=by
  rcases Sa g5 with⟨rfl,rfl⟩|⟨b,cap,J,rfl,hob,_⟩
  ·grind
  simp_all[yf,zg]
 obtain⟨oa,cap,rfl,hget⟩:=hv;have hrow:RowsQ 10 zm ((F'.un N).un (svS G s w v o0 o1 o2 p)) v w.U:=(Ka hS.hs hS.hu).un;have hnl:ns.length<=w.U.length:=by have:=Fb2 (l₂:=L.map (·.1)) (g6.1.imp λh=>θ) (λid hid=>by have⟨e,he,h2,_⟩:=(g6.2 id).1 hid;grind);grind
 have hfin:∀us:List Unt,us.map (·.id)=ns->(∀u∈us,u∈w.U/\u.inn=0)->R (lst 10 zm us) (F'.un (svS G s w v o0 o1 o2 p)):=λus e1 e2=>
  h F' us hS' (zfq hr hL g6 e1 e2) (by rw[e1];exact g6.1) δ
 have hback:=zhh (S:=svS G s w v o0 o1 o2 p) g2;generalize(F'.un N).un (svS G s w v o0 o1 o2 p)=st1 at*
 refine AWp.loop (σ:=Nat×AV×List Unt) ⟨λx=>[(0,.av (ptr s)),(6,.av x.2.1),(18,.av (.s (.slice oa ns.length cap))),(19,.av (int (ns.length:Nat))),(20,.av (int (x.1:Nat)))],λ_=>[],
  λx st'=>x.1<=ns.length/\App 10 st1 x.2.1 (rws zm x.2.2) st'/\x.2.2.map (·.id)=ns.take x.1/\∀u∈x.2.2,u∈w.U/\u.inn=0,λx=>ns.length-x.1⟩ zb ?_ ?_
 ·exact⟨(0,_,[]),Tv,⟨Fae _,App.start 10 st1,rfl,λu hu=>(by cases hu)⟩,⟨Tq,Tq,Tq,Tq,Tq,Tv⟩,Tv⟩
 rintro⟨i,v2,us⟩ st' ⟨hi,ha,hus,hin⟩;dsimp only at hi ha hus hin⊢;refine bcd (λh1=>?_) (λh1=>?_);rotate_left
 ·have:i=ns.length:=θ;subst this;rw[Faj]at hus;exact⟨_,_,AV.le_trans ha.le (Tt),ha.has.trans hback,hfin us hus hin⟩
 have hlt:i<ns.length:=θ;obtain⟨b,J,rfl,hob⟩:=hget i hlt;have hob':st'.obj b=some (.cells (ns.map aI++J)):=by rw[ha.obj];exact hob
 have hrow':RowsQ 10 zm st' v w.U:=by exact hrow.sub λ_ _ _ _=>by rw[ha.obj]
 have hos:st'.obj s=some (.cells (svC w v o0 o1 o2 p)):=by rw[ha.obj];exact ho'
 refine⟨i,rfl,hlt,Qbc ?_⟩;refine za (o:=List.head? _) (int ns[i]) ψ6 ?_;refine Qbc (gg hrow' θ hr ns[i] _ (λk hk z hz=>?_));have⟨e,he,hid,_⟩:=(g6.2 ns[i]).1 (Faa hlt);obtain⟨u,hu,hu0,rfl⟩:=(hL e).1 he;have hfound:∃hk2:k<w.U.length,w.U[k].id=ns[i]:=by
  obtain⟨j,hj,rfl⟩:=Faf hu;have h5:j>=k:=Decidable.byContradiction λhn2=>by have:=hk.2.1 j hj θ;grind
  have h7:k<w.U.length:=θ;refine⟨h7,?_⟩;have h8:=hk.2.2 k h7 (Fah _);have h6:(w.U[j]).id=ns[i]:=hid;by_cases e:k=j
  ·subst e;exact h6
  ·have:=Hd hr (show k<j by omega) hj;omega
 have⟨hk2,hk3⟩:=hfound;refine Qbc ?_;have⟨oa2,cap2,hv2,hget2⟩:=hrow'.form;obtain⟨b2,J2,rfl,hob2⟩:=hget2 k hk2;subst hv2;refine⟨k,rfl,hk2,Qbc (xr (i:=ti93) (row:=zm w.U[k]) rfl rfl (D3 Cy hk2) ?_)⟩;refine⟨ψ,?_⟩;have hul:us.length=i:=by have:=congrArg List.length hus;grind
 refine jy (ie:=ti93) (rows':=[zm w.U[k]]) ha ?_ ?_ ⟨?_,?_⟩ (λv3 st3 ha3=>?_)
 ·rfl
 ·rfl
 ·simp only[zi,Fan,ti93];omega
 ·grind[zi]
 refine Qd ?_;have huk:w.U[k]=u:=Ls hr (Faa hk2) hu (by rw[hk3];exact hid.symm);refine⟨(i+1,v3,us++[w.U[k]]),?_,⟨ξ,?_,?_,λu2 hu2=>?_⟩,Qax,Tv⟩
 ·grind
 ·dsimp only;unfold rws at ha3⊢;rw[Fav];exact ha3
 ·simp_all
 grind
def zc3{L:List Ent}(hS:StandR F G s p w v L o0 o1 o2)(hr:yl w.U)(hU:w.U.length<=1000000)(hn:∀u∈w.U,u.pos.ok)(hLl:L.length<=w.U.length)(hL:F4 w L)(q:Vc)(hq:q.ok)(r:Int)(hrr:0<r/\r<=262144)(R:Ja)
  (h:∀F' us,StandR F' G s p w v L o0 o1 o2->L8 w q (r+81920) us->us.length<=1000000->R (lst 10 zm us) (F'.un (svS G s w v o0 o1 o2 p))):Jb 118 [ptr s,.agg (yp q),int r] (F.un (svS G s w v o0 o1 o2 p)) R:=
 zc2 hS hr hU hn hLl hL q hq r hrr R λF' us a b _ d=>h F' us a b d
def mc{L:List Ent}(hS:StandR F G s p w v L o0 o1 o2)(hg:zv w.G)(hB:w.B.length<=1000000000000)(hb:∀b∈w.B,qh b/\onP w.G b)(hr:yl w.U)(hU:w.U.length<=1000000)(hn:∀u∈w.U,u.pos.ok)(hLl:L.length<=w.U.length)(hL:F4 w L)
  (id k:Int) (q:Vc) (hq:q.ok) (R:Ja)
  (h:∀z F' q0 q1 q2,(z=true↔xz w id k q)->StandR F' G s p w v L q0 q1 q2->R (V.bool z) (F'.un (svS G s w v q0 q1 q2 p))):Jb 74 [ptr s,int id,int k,.agg (yp q)] (F.un (svS G s w v o0 o1 o2 p)) R:=by
 have ho:=zg (a:=F) (Br G s w v o0 o1 o2 p);have hk:=Gv k;have hc:=R9 k;refine Qy 56 Tryz.func74 ?_;refine j9 k _ _ ?_;refine Qc zb zdg (za (o:=(F.un (svS G s w v _ _ _ p)).obj s) _ ho ?_);refine⟨yai hS hg hB hb (qp k) hc _ (λa0 a1 a2 hS1=>⟨?_,?_⟩),Tv⟩
 ·have ho1:=zg (a:=F) (Br G s w v a0 a1 a2 p);repeat(first|exact Tv|refine⟨rfl,?_⟩|refine⟨za (o:=(F.un (svS G s w v a0 a1 a2 p)).obj s) _ ho1 rfl,?_⟩)
 refine⟨zh6 w.G hg w.B (qp k) q hq (z6 k) ⟨hk.1,θ⟩ _ _ (λz hz=>⟨Tv,yj (zk (λc1=>?_) (λc1=>ret (h false _ _ _ _ ψ7 hS1)))⟩),Tv⟩;have hfree:=hz.1 c1;refine zc3 hS1 hr hU hn hLl hL q hq (z6 k) ⟨hk.1,θ⟩ _ (λF' us hS2 hus hul=>?_);have hci:=zjq (id:=id) hfree hus;have no:¬xz w id k q->R (V.bool false) (F'.un (svS G s w v a0 a1 a2 p)):=λhh=>h false _ _ _ _ (by simp only[Fap,false_iff];exact hh) hS2
 refine AWp.loop (σ:=Nat) ⟨λi=>[(1,.av (int id)),(7,.bx 7 0),(9,.bx 9 0),(32,.av (lst 10 zm us)),(33,.av (int (us.length:Nat))),(34,.av (int (i:Nat)))],λ_=>[(7,yp q),(9,Mf k)],
  λi st'=>st'=F'.un (svS G s w v a0 a1 a2 p)/\i<=us.length/\∀j,(hj:j<us.length)->j<i->us[j].id≠id->Bz q (z6 k) us[j].pos (z6 us[j].kind)=true,λi=>us.length-i⟩ zb ?_ ?_
 ·refine⟨0,Tv,⟨rfl,Fae _,λj _ hj=>θ⟩,⟨Tq,Tq,Tq,Tq,?_,Tq,Tv⟩,⟨rfl,rfl,Tv⟩⟩;rw[<-zi (f:=zm) us];exact Tq
 rintro i st' ⟨rfl,hi,hall⟩;refine bcd (λh1=>?_) (λh1=>?_);rotate_left
 ·refine ret (h true _ _ _ _ ψ8 hS2)
 have hlt:i<us.length:=θ;have hui:=(hus us[i]).1 (Faa hlt);have next:(us[i].id≠id->Bz q (z6 k) us[i].pos (z6 us[i].kind)=true)->∀j,(hj:j<us.length)->j<i+1->us[j].id≠id->Bz q (z6 k) us[j].pos (z6 us[j].kind)=true:=λhh j hj hji=>by
  by_cases e:j=i
  ·subst e;exact hh
  ·exact hall j hj θ
 refine⟨i,rfl,za _ (zp hlt) (Qc zb zdf (qi (λc2=>?_) (λc2=>?_)))⟩
 ·refine⟨j9 us[i].kind _ _ ⟨Qe,?_⟩,Tv⟩;have hk2:=Gv us[i].kind;refine⟨zkx q (z6 k) us[i].pos (z6 us[i].kind) hq (hn _ hui.1.1) ⟨hk.1,θ⟩ ⟨hk2.1,θ⟩ _ _ ⟨Tv,yj (zk (λc3=>?_) (λc3=>?_))⟩,Tv⟩
  ·refine Qd ⟨i+1,?_,⟨rfl,θ,next λ_=>c3⟩,Qax,⟨rfl,rfl,Tv⟩⟩;show us.length-(i+1)<us.length-i;omega
  ·refine ret (no λhh=>?_);have:=hci.1 hh us[i] (Faa hlt) c2;rw[this]at c3;cases c3
 ·refine Qba (Qbb (Qd ⟨i+1,?_,⟨rfl,θ,next λhne=>absurd c2 hne⟩,Qax,⟨rfl,rfl,Tv⟩⟩));show us.length-(i+1)<us.length-i;omega
end
end Go.Proofs
namespace Go.Proofs
open Go Go.V
set_option maxRecDepth 20000
set_option maxHeartbeats 4000000
section
variable {F G F':Store} {xw p:Nat} {w:Wld} {v o0 o1 o2 fv q0 q1 q2:AV}
def wkC(s:Nat)(c:Cmd)(fv:AV):List AV:=ptr s::(zz c++[fv])
def Fl(S:Store)(xw s:Nat)(c:Cmd)(fv:AV)(w:Wld):Prop:=
 ∃v o0 o1 o2 p,S.obj xw=some (.cells (wkC s c fv))/\S.obj s=some (.cells (svC w v o0 o1 o2 p))/\RowsQ 10 zm S v w.U
structure Work(F G:Store)(xw s p:Nat)(w:Wld)(v:AV)(L:List Ent)(o0 o1 o2:AV)(c:Cmd)(fv:AV):Prop where
 S:StandR F G s p w v L o0 o1 o2
 hx:G.obj xw=some (.cells (wkC s c fv))
 ox:kl v xw
 os:kl v s
 hL:L.length<=w.U.length
 hF:F4 w L
theorem Work.ne{s:Nat}{L:List Ent}{c:Cmd}(h:Work F G xw s p w v L o0 o1 o2 c fv):xw≠s:=λe=>by have h1:=h.hx;rw[e,h.S.hs]at h1;cases h1
theorem Work.x{s:Nat}{L:List Ent}{c:Cmd}(h:Work F G xw s p w v L o0 o1 o2 c fv):(F'.un (svS G s w v q0 q1 q2 p)).obj xw=some (.cells (wkC s c fv)):=zg (by show(G.sO s _).obj xw=_;rw[zf h.ne];exact h.hx)
theorem Work.s{s:Nat}{L:List Ent}{c:Cmd}(h:Work F G xw s p w v L o0 o1 o2 c fv):(F'.un (svS G s w v q0 q1 q2 p)).obj s=some (.cells (svC w v q0 q1 q2 p)):=zg (Br _ _ _ _ _ _ _ _)
theorem Work.r{s:Nat}{L:List Ent}{c:Cmd}(h:Work F G xw s p w v L o0 o1 o2 c fv):RowsQ 10 zm (F'.un (svS G s w v q0 q1 q2 p)) v w.U:=(Ka h.S.hs h.S.hu).un
def mz(u:Unt)(st:Store)(R:Ja)(h:R (.agg (zm {u with goal:=-1,next:=-1,stuck:=0,state:=0})) st):Jb 254 [.agg (zm u)] st R:=by refine Qy 8 Tryz.func254 ?_;exact ret h
def zlm{s:Nat}{L:List Ent}{c:Cmd}(hW:Work F G xw s p w v L o0 o1 o2 c fv)(hm:MayF w)(hn:∀u∈w.U,u.pos.ok)(hq:Vc.ok (c.X,c.Y))(R:Ja)
  (h:∀S',spE w c≠0->R (int (spE w c)) S') (h0:spE w c=0->∀S',Fl S' xw s c fv (spW w c)->R (int 0) S'):Jb 228 [ptr xw] (F.un (svS G s w v o0 o1 o2 p)) R:=by
 have⟨oa,cap,e,hget⟩:=hW.S.hu.form;subst e;have hU:=hm.hU;have hn2:=hm.hn2;have hn1:=hm.hn1;have hx:=hW.x (F':=F) (q0:=o0) (q1:=o1) (q2:=o2);have hs:=hW.s (F':=F) (q0:=o0) (q1:=o1) (q2:=o2);refine Qy 96 Tryz.func228 ?_;refine za (o:=(F.un (svS G s w _ _ _ _ p)).obj xw) _ hx (za (o:=(F.un (svS G s w _ _ _ _ p)).obj s) _ hs (zu (λc1=>?_) (λc1=>?_)))
 ·have hf:Ks w:=.inl θ;have he:spE w c=4:=by unfold spE;rw[if_pos hf]
  have:=h Store.empty θy;rw[he]at this;exact Bu (Tt) (hasE _) this
 refine za (o:=(F.un (svS G s w _ _ _ _ p)).obj xw) _ hx (za (o:=(F.un (svS G s w _ _ _ _ p)).obj s) _ hs (zu (λc2=>?_) (λc2=>?_)))
 ·have hf:Ks w:=.inr θ;have he:spE w c=4:=by unfold spE;rw[if_pos hf]
  have:=h Store.empty θy;rw[he]at this;exact Bu (Tt) (hasE _) this
 have hf:¬Ks w:=λhh=>by rcases hh with hh|hh<;>omega
 refine Qc zb yea (za (o:=(F.un (svS G s w _ _ _ _ p)).obj xw) _ hx (za (o:=(F.un (svS G s w _ _ _ _ p)).obj xw) _ hx (za (o:=(F.un (svS G s w _ _ _ _ p)).obj xw) _ hx ⟨mc hW.S hm.hg (by have:=hm.hB;omega) hm.hb hm.hr θ hn hW.hL hW.hF 0 c.N (c.X,c.Y) hq _ (λz F2 q0 q1_ q2_ hz hS2=>⟨?_,?_⟩),Tv⟩)))
 ·have hx2:=hW.x (F':=F2) (q0:=q0) (q1:=q1_) (q2:=q2_);repeat(first|exact Tv|refine⟨rfl,?_⟩|refine⟨za (o:=(F2.un (svS G s w _ q0 q1_ q2_ p)).obj xw) _ hx2 rfl,?_⟩)
 have hx2:=hW.x (F':=F2) (q0:=q0) (q1:=q1_) (q2:=q2_);have hs2:=hW.s (F':=F2) (q0:=q0) (q1:=q1_) (q2:=q2_);have hr2:=hW.r (F':=F2) (q0:=q0) (q1:=q1_) (q2:=q2_);generalize F2.un (svS G s w _ q0 q1_ q2_ p)=S at hx2 hs2 hr2⊢;refine Qba (yj (zk (λc3=>?_) (λc3=>?_)));rotate_left
 ·have hncl:¬xz w 0 c.N (c.X,c.Y):=λhh=>by have:=hz.2 hh;rw[this]at c3;cases c3
  have he:spE w c=5:=by unfold spE;rw[if_neg hf,if_neg hncl]
  have:=h S θy;rw[he]at this;exact ret this
 have he:spE w c=0:=by unfold spE;rw[if_neg hf,if_pos (hz.1 c3)]
 have hxs:=hW.ne;refine Qc zb yd9 ?_;refine Qbc ?_;refine Qbc ?_;refine Qbc ?_;refine Qbc ?_;refine Qbc ?_;refine Qbc ?_;refine Qbc ?_;refine Qbc ?_;refine⟨mz ⟨w.next,c.P,c.N,(c.X,c.Y),0,0,0,0,0⟩ _ _ ⟨?_,?_⟩,Tv⟩
 ·repeat(first|exact Tv|refine⟨rfl,?_⟩|refine⟨za (o:=S.obj xw) _ hx2 rfl,?_⟩|refine⟨za (o:=S.obj s) _ hs2 rfl,?_⟩)
 refine⟨ψ,⟨Dt (ie:=ti93) rfl Cy ψ hr2 (spU w c) rfl θ (λb cap2 L2 q1 q2 q3 q4=>?_),Tv⟩⟩;have hbs:b≠s:=by
  rcases q1 with q1|⟨c0,q00,q1⟩
  ·exact q1.ne_obj hs2
  ·exact hW.os b _ _ q1 q00
 have hbx:b≠xw:=by
  rcases q1 with q1|⟨c0,q00,q1⟩
  ·exact q1.ne_obj hx2
  ·exact hW.ox b _ _ q1 q00
 have hx3:(S.sO b (.cells ((rws zm (w.U++[spU w c])).flatten++L2))).obj xw=some (.cells (wkC s c fv)):=by rw[zf (Ne.symm hbx)];exact hx2
 have hs3:(S.sO b (.cells ((rws zm (w.U++[spU w c])).flatten++L2))).obj s=some (.cells (svC w (.s (.slice oa w.U.length cap)) q0 q1_ q2_ p)):=by rw[zf (Ne.symm hbs)];exact hs2
 have hr3:RowsQ 10 zm (S.sO b (.cells ((rws zm (w.U++[spU w c])).flatten++L2))) (.s (.slice (some ⟨b,0,none⟩) (w.U++[spU w c]).length cap2)) (w.U++[spU w c]):=.inl (.inr ⟨b,cap2,L2,rfl,zd _ _ _,q2,q3,q4⟩);generalize S.sO b _=S3 at hx3 hs3 hr3⊢;have hoff:∀{q},b≠q->kl (.s (.slice (some ⟨b,0,none⟩) (w.U++[spU w c]).length cap2)) q:=λhne b' n' c' e _=>by simp only[AV.s.injEq,Value.slice.injEq,Fam,Addr.mk.injEq]at e;exact e.1.1▸hne
 refine⟨?_,?_⟩
 ·repeat(first|exact Tv|refine⟨rfl,?_⟩|refine⟨za (o:=S3.obj xw) _ hx3 rfl,?_⟩|refine⟨za (o:=S3.obj s) _ hs3 rfl,?_⟩)
 refine⟨za _ rfl (xf rfl (q9 (v:=.s (.slice (some ⟨b,0,none⟩) (w.U++[spU w c]).length cap2)) rfl rfl rfl rfl (Ch (i:=ti45) (v:=.s (.slice (some ⟨b,0,none⟩) (w.U++[spU w c]).length cap2)) (b:=s) (o:=7) (l:=svC w (.s (.slice oa w.U.length cap)) q0 q1_ q2_ p) rfl rfl rfl hs3 (show 7+1<=12 by decide) ?_))),Tv⟩;have e3:zq (svC w (.s (.slice oa w.U.length cap)) q0 q1_ q2_ p) 7 [.s (.slice (some ⟨b,0,none⟩) (w.U++[spU w c]).length cap2)]=svC w (.s (.slice (some ⟨b,0,none⟩) (w.U++[spU w c]).length cap2)) q0 q1_ q2_ p:=rfl;rw[e3];have hr4:=hr3.set (hoff hbs) (.cells (svC w (.s (.slice (some ⟨b,0,none⟩) (w.U++[spU w c]).length cap2)) q0 q1_ q2_ p));have hs4:(S3.sO s (.cells (svC w (.s (.slice (some ⟨b,0,none⟩) (w.U++[spU w c]).length cap2)) q0 q1_ q2_ p))).obj s=_:=zd _ _ _;have hx4:(S3.sO s (.cells (svC w (.s (.slice (some ⟨b,0,none⟩) (w.U++[spU w c]).length cap2)) q0 q1_ q2_ p))).obj xw=_:=(zf hxs).trans hx3;generalize S3.sO s _=S4 at hr4 hs4 hx4⊢;refine⟨Tv,?_⟩;refine Qbc ?_;refine Qbc ?_;refine Qd ?_;refine Ch (i:=ti2) (v:=int (w.next+1)) (b:=s) (o:=2) (l:=svC w (.s (.slice (some ⟨b,0,none⟩) (w.U++[spU w c]).length cap2)) q0 q1_ q2_ p) rfl rfl rfl hs4 (show 2+1<=12 by decide) ?_;exact ret (h0 he _ ⟨_,q0,q1_,q2_,p,(zf hxs).trans hx4,zd _ _ _,hr4.set (hoff hbs) _⟩)
end
def cmd_ok{c:Cmd}(h:jv c.X c.Y):Vc.ok (c.X,c.Y):=by unfold jv at h;unfold Vc.ok yu;dsimp only;omega
end Go.Proofs
namespace Go.Proofs
open Go Go.V
set_option maxRecDepth 20000
set_option maxHeartbeats 4000000
end Go.Proofs
namespace Go.Proofs
open Go Go.V
set_option maxRecDepth 20000
set_option maxHeartbeats 4000000
def yrx(l:List Cmd)(hl:l.length<=140737488355328)(hu:∀c∈l,c.sized)(st:Store)(R:Ja)
  (h:∀w:Int,l.length<=w->(w<1048576->∀c∈l,(c.U.length:Int)<=w)->w<=281474976710656->R (int w) st):Jb 53 [lst 10 zz l] st R:=by
 refine Qy 26 Tryz.func53 ?_
 refine AWp.loop (σ:=Nat×Int) ⟨λs=>[(0,.av (lst 10 zz l)),(3,.av (int s.2)),(4,.av (int (s.1:Nat)))],λ_=>[],
  λs st'=>s.1<=l.length/\st'=st/\(l.length:Int)<=s.2/\s.2<=281474976710656/\(s.2<1048576->∀c∈l.take s.1,(c.U.length:Int)<=s.2),λs=>l.length-s.1⟩ zb ?_ ?_
 ·refine⟨(0,(l.length:Int)),Tv,⟨Fae _,rfl,Fcr _,by simp only;omega,λ_ c hc=>by simp at hc⟩,⟨Tq,?_,Tq,Tv⟩,Tv⟩;rw[<-zi (f:=zz) l];exact Tq
 rintro⟨i,n⟩ st' ⟨hi,rfl,hn,hn2,hU⟩;dsimp only at hi hn hn2 hU⊢;refine zk (λh1=>?_) (λh1=>?_)
 ·have hlt:i<l.length:=k9 h1;have hsz:=hu _ (Faa hlt);unfold Cmd.sized at hsz;refine bcd (λh2=>?_) (λh2=>?_)
  ·refine⟨i,rfl,za _ (zp hlt) ⟨by rw[zi];exact⟨θ,θ⟩,⟨⟨θ,θ⟩,⟨(i+1,n+(l[i].U.length:Int)),?_,⟨hlt,rfl,by simp only;omega,by simp only;omega,λh3 c hc=>?_⟩,⟨Tq,?_,Tq,Tv⟩,Tv⟩⟩⟩⟩
   ·show l.length-(i+1)<l.length-i;omega
   ·simp only at h3⊢;rw[Fad hlt]at hc;rcases Faq.1 hc with hc|hc
    ·have:=hU θ c hc;omega
    ·rw[Fbl]at hc;subst hc;omega
   ·simp only;rw[<-zi (f:=zn) l[i].U];exact Tq
  ·exact ret (h n hn (λh3=>absurd h3 h2) hn2)
 ·have hge:i=l.length:=Fg h1 hi;subst hge;rw[Faj]at hU;exact ret (h n hn hU hn2)
end Go.Proofs
