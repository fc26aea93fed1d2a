/- Ground of laws of thronglaw30: contracts and plain lemmas; no condition beyond the row's own. -/
import Derived.Test.YtieceacpbjcddaaGreatKD
set_option linter.unusedSimpArgs false
set_option linter.unusedVariables false
set_option linter.defProp false
namespace Go.V
def H1(a:Option Addr):Prop:=∀x,a=some x->x.spot=none
section
variable {P:Program} {c:Cfg} {st:Store}
theorem tf{e:TypeId}{ie:TI}(hie:c.I e=some ie){a:Option Addr}{x:AV}{rows:List (List AV)}(hx:jv ie.size (.av x)=some rows)(hroom:room rows.length ie.bytes)(hne:0<rows.length){K:Ja}
  (h2:∀b' cap',Fresh st b'->rows.length<=cap'->cap'<=9223372036854775807->K (.s (.slice (some ⟨b',0,none⟩) rows.length cap')) (st.sO b' (.cells (rows.flatten++List.replicate ((cap'-rows.length)*ie.size) .any)))):
  AppX P c st e (.s (.slice a 0 0)) x K:=by
 refine⟨⟨ie,hie⟩,λie' hie' Oth M w sv xv argTypes ty args t sto hs hxv hat ht1 hu hti h0 h1'=>?_⟩
 rw[hie]at hie'
 cases hie'
 have hs:=VRel.eq_s hs
 subst hs
 have A:AppArgs P c argTypes args t e ie a 0 0 xv:=⟨hat,ht1,hu,hti,h0,h1'⟩
 obtain⟨hl1,hl2,new,hnew,hone,hnsz,hfc⟩:=H0 (P:=P) (β:=λ_=>0) (k:=ie.size) (x:=.av x) hxv hx
 obtain⟨newCap,rest,g1,g0,g2,g3⟩:=Kd (old:=#[]) ty A hl1 (hfc w.drew rfl) (by cases a<;>simp[Builtin.firstCells,loadCells,loadCellsFrom]) (by omega) (by simpa using hroom)
 have gd:Grow w w.drew:=Grow.drew w
 have sto1:=sto.grow gd
 obtain⟨f1,f2,f3⟩:=Dr sto1 (#[]++new++rest) e (l:=rows.flatten++List.replicate rest.size .any) (by
  rw[Fbf,Fbf]
  refine((show Reads w _ rows.flatten ([]++new.toList)from hnew).append ⟨by simp,λi x y hx hy=>?_⟩).keep (gd.keeps _)
  rw[Fbq]at hx
  split at hx
  ·cases hx;exact .any _
  ·cases hx)
 rw[g2]at f2
 simp only[Fbm]at g1 g3 f2
 exact⟨_,_,g3,_,_,_,h2 _ newCap f1 g1 g0,.s _,f2,(gd.chg M).trans f3⟩
theorem th{e:TypeId}{ie:TI}(hie:c.I e=some ie){x:AV}{rows:List (List AV)}(hx:jv ie.size (.av x)=some rows)(hroom:room rows.length ie.bytes){K:Ja}
  (h1:rows=[]->∀a,H1 a->K (.s (.slice a 0 0)) st)
  (h2:0<rows.length->∀b' cap',Fresh st b'->rows.length<=cap'->cap'<=9223372036854775807->K (.s (.slice (some ⟨b',0,none⟩) rows.length cap')) (st.sO b' (.cells (rows.flatten++List.replicate ((cap'-rows.length)*ie.size) .any)))):
  AppX P c st e .emp x K:=by
 refine⟨⟨ie,hie⟩,λie' hie' Oth M w sv xv argTypes ty args t sto hs hxv hat ht1 hu hti h0 h1'=>?_⟩
 cases hs with
 |emp a ha=>
  by_cases hr:0<rows.length
  ·exact(tf hie hx hroom hr (h2 hr)).out ie' hie' Oth M w _ xv argTypes ty args t sto (.s _) hxv hat ht1 hu hti h0 h1'
  ·rw[hie]at hie'
   cases hie'
   have hr0:rows=[]:=Fat (by omega)
   subst hr0
   have A:AppArgs P c argTypes args t e ie a 0 0 xv:=⟨hat,ht1,hu,hti,h0,h1'⟩
   obtain⟨hl1,hl2,new,hnew,hone,hnsz,hfc⟩:=H0 (P:=P) (β:=λ_=>0) (k:=ie.size) (x:=.av x) hxv hx
   have hn0:new.toList=[]:=by simp_all
   have hrun:=Mc (w':=w) ty A hl1 (hfc w rfl) (by simp) (λb hb=>by rw[hn0];simp[storeCells]) (λ_=>rfl)
   exact⟨_,_,hrun,_,_,M,h1 rfl a ha,.s _,sto,Chg.refl M w⟩
end
def RowsQ{α:Type}(k:Nat)(f:α->List AV)(st:Store)(v:AV)(l:List α):Prop:=
 RowsO k f st v l\/∃a,H1 a/\v=.s (.slice a 0 0)/\l=[]
section
variable {α:Type} {f:α->List AV} {k:Nat}
theorem RowsQ.un{a g:Store}{v:AV}{l:List α}(h:RowsQ k f g v l):RowsQ k f (a.un g) v l:=h.imp (·.un) id
theorem RowsQ.unL{a g:Store}{v:AV}{l:List α}(h:RowsQ k f a v l)(hd:zg a g):RowsQ k f (a.un g) v l:=h.imp (·.unL hd) id
theorem RowsQ.form{st:Store}{v:AV}{l:List α}(h:RowsQ k f st v l):∃oa cap,v=.s (.slice oa l.length cap)/\∀i,i<l.length->∃b L,oa=some ⟨b,0,none⟩/\st.obj b=some (.cells ((rws f l).flatten++L)):=by
 rcases h with(⟨rfl,rfl⟩|⟨b,cap,L,rfl,ho,_⟩)|⟨a,_,rfl,rfl⟩
 ·simp_all
 ·grind
 simp_all
theorem RowsQ.borrow{st:Store}{v:AV}{l:List α}(hf:∀x,(f x).length=k)(hs:∀x,∀y∈f x,∃u,y=AV.s u/\ql u=true)(hv:RowsQ k f st v l){Oth M:Nat->Nat->Prop}{w:World}(sto:StoreOK st Oth M w){x:Value}(hx:VRel w (λb o=>M b o\/Oth b o) v x):
  VRel w (λb o=>(M b o\/Oth b o)/\st.obj b=none) (lst k f l) x:=by
 rcases hv with hv|⟨a,ha,rfl,rfl⟩
 ·exact hv.borrow hf hs sto hx
 ·cases hx
  exact .nil k a
theorem RowsQ.sub{S S2:Store}{v:AV}{l:List α}(h:RowsQ k f S v l)(hk:∀b n c,v=.s (.slice (some ⟨b,0,none⟩) n c)->S2.obj b=S.obj b):RowsQ k f S2 v l:=by
 rcases h with(h|⟨b,cap,L,rfl,ho,h2⟩)|h
 ·exact .inl (.inl h)
 ·exact .inl (.inr ⟨b,cap,L,rfl,by rw[hk b _ _ rfl];exact ho,h2⟩)
 ·exact .inr h
theorem ti{P:Program}{c:Cfg}{e:TypeId}{ie:TI}(hie:c.I e=some ie)(hf:∀x,(f x).length=ie.size)(hby:ie.bytes<=1000){st:Store}{v:AV}{l:List α}(hv:RowsQ ie.size f st v l)(x:α){src:AV}(hsrc:jv ie.size (.av src)=some [f x])(hlen:l.length<=1000000000){K:Ja}
  (h:∀b cap L,(Fresh st b\/∃c0,0<c0/\v=.s (.slice (some ⟨b,0,none⟩) l.length c0))->(l++[x]).length<=cap->cap*ie.size<=(l++[x]).length*ie.size+L.length->cap<=9223372036854775807->
   K (.s (.slice (some ⟨b,0,none⟩) (l++[x]).length cap)) (st.sO b (.cells ((rws f (l++[x])).flatten++L)))):appendK P c st e (.av v) (.av src) K:=by
 refine⟨.inr ⟨v,_,rfl,rfl,?_⟩⟩
 have hl:(l++[x]).length=l.length+1:=by simp
 have hfl:=Fi hf l
 have hmul:(l.length+1)*ie.bytes<=1000000001*1000:=Fda (by omega) hby
 have happ:(rws f (l++[x])).flatten=(rws f l).flatten++f x:=by
  rw[Nb]
  show _++(f x++[])=_
  rw[Fc0]
 have empty:∀a:Option Addr,l=[]->v=.s (.slice a 0 0)->AppX P c st e v src K:=λa hl0 hva=>by
  subst hl0 hva
  refine tf hie hsrc ⟨by simp;omega,by simp⟩ (by simp) (λb' cap' hb hc hc2=>?_)
  have:=h b' cap' (List.replicate ((cap'-[f x].length)*ie.size) .any) (.inl hb) (by simpa using hc) (by
   simp only[Fao,Fdj,Fbc,<-Fcp]
   grind) hc2
  exact this
 rcases hv with(⟨hv,hl0⟩|⟨b,cap,L,rfl,ho,h1,h2,h3⟩)|⟨a,ha,hv,hl0⟩
 ·exact empty _ hl0 hv
 ·refine ck hie (cap:=cap) ho (by grind) h1 hsrc ⟨by simp;omega,by simp;omega⟩ (λhc=>?_) (λhc b' cap' hb hc1 hc2=>?_)
  ·have hc:l.length+1<=cap:=hc
   have hcm:(l.length+1)*ie.size<=cap*ie.size:=Fa5 _ hc
   rw[Fdd]at hcm
   have e1:zt ((rws f l).flatten++L) (l.length*ie.size) [f x].flatten=(rws f (l++[x])).flatten++L.drop ie.size:=by grind[Gl]
   have:=h b cap (L.drop ie.size) (.inr ⟨cap,by omega,rfl⟩) (by omega) (by grind[Nat.succ_mul]) h3
   grind
  ·have hc1:l.length+1<=cap':=hc1
   have e1:((rws f l).flatten++L).take (l.length*ie.size)++[f x].flatten++List.replicate ((cap'-(l.length+1))*ie.size) .any=(rws f (l++[x])).flatten++List.replicate ((cap'-(l.length+1))*ie.size) .any:=by
    rw[Fcl (by omega),Fco (by omega),happ]
    simp
   have:=h b' cap' (List.replicate ((cap'-(l.length+1))*ie.size) .any) (.inl hb) (by omega) (by
    rw[hl,Fao,<-Fcp]
    exact Fa5 _ (by omega)) hc2
   rw[hl,<-e1]at this
   exact this
 ·exact empty _ hl0 hv
theorem Md{P:Program}{c:Cfg}{e:TypeId}{ie:TI}(hie:c.I e=some ie)(hf:∀x,(f x).length=ie.size)(hby:ie.bytes<=1000){st:Store}{l:List α}(hlen:l.length<=1000000000){K:Ja}
  (h:∀v N,RowsQ ie.size f N v l->zg N st->K v (N.un st)):appendK P c st e (.av .emp) (.av (lst ie.size f l)) K:=by
 refine⟨.inr ⟨_,_,rfl,rfl,?_⟩⟩
 have hmul:l.length*ie.bytes<=1000000000*1000:=Fda (by omega) hby
 refine th hie (rows:=rws f l) (by simp[jv,lst]) ⟨by rw[zh];omega,by rw[zh];omega⟩ (λhr a ha=>?_) (λhr b cap hb hc hc2=>?_)
 ·have hl:l=[]:=by
   have:=congrArg List.length hr
   rw[zh]at this
   exact Fat this
  subst hl
  have:=h (.s (.slice a 0 0)) Store.empty (.inr ⟨a,ha,rfl,rfl⟩) (λb hb=>(hb.elim (λh=>h rfl) (λh=>h rfl):False).elim)
  rwa [Al]at this
 ·rw[zh]at hc⊢
  have:=h (.s (.slice (some ⟨b,0,none⟩) l.length cap)) (Store.empty.sO b (.cells ((rws f l).flatten++List.replicate ((cap-l.length)*ie.size) .any))) (.inl (.inr ⟨b,cap,_,rfl,zc _ _ _,hc,by
   simp only[Fao,<-Fcp]
   exact Fa5 _ (by omega),hc2⟩)) (λi hi hs=>by
    have:i=b:=Decidable.byContradiction λhne=>by
     rcases hi with hi|hi
     ·rw[zf hne]at hi;exact hi rfl
     ·exact hi rfl
    subst this
    exact fresh_iff.1 hb hs)
  have e:(Store.empty.sO b (.cells ((rws f l).flatten++List.replicate ((cap-l.length)*ie.size) .any))).un st=st.sO b (.cells ((rws f l).flatten++List.replicate ((cap-l.length)*ie.size) .any)):=by
   rw[<-Gf (fresh_iff.1 hb),Al]
  rw[e]at this
  exact this
end
section
variable {w:Wld} {v:AV} {k p:Nat} {S:Store}
theorem uu{st:Store}(hv:RowsQ 10 zl st v w.U){Oth M:Nat->Nat->Prop}{W:World}(sto:StoreOK st Oth M W){x:Value}(hx:VRel W (λb o=>M b o\/Oth b o) (.agg (q9 w v)) x):
  VRel W (λb o=>(M b o\/Oth b o)/\st.obj b=none) (.agg (zk w)) x:=by
 cases hx with
 |agg _ c hl hc=>
  refine .agg _ c hl λi x y hx hy=>?_
  match i with
  |0=>simp only[zk,Fak,Fag]at hx;subst hx;exact jk (hc 0 _ y rfl hy)
  |1=>simp only[zk,Fan,Fak,Fag]at hx;subst hx;exact jk (hc 1 _ y rfl hy)
  |2=>simp only[zk,Fan,Fak,Fag]at hx;subst hx;exact jk (hc 2 _ y rfl hy)
  |3=>simp only[zk,Fan,Fak,Fag]at hx;subst hx;exact jk (hc 3 _ y rfl hy)
  |4=>simp only[zk,Fan,Fak,Fag]at hx;subst hx;exact jk (hc 4 _ y rfl hy)
  |5=>simp only[zk,Fan,Fak,Fag]at hx;subst hx;exact jk (hc 5 _ y rfl hy)
  |6=>simp only[zk,Fan,Fak,Fag]at hx;subst hx;exact jk (hc 6 _ y rfl hy)
  |7=>simp only[zk,Fan,Fak,Fag]at hx;subst hx;exact hv.borrow Cn Rv sto (hc 7 _ y rfl hy)
  |i+8=>simp[zk]at hx
def Cu(v:AV)(p:Nat):Prop:=∀b n c,v=.s (.slice (some ⟨b,0,none⟩) n c)->0<c->b≠p
theorem RowsQ.set{α:Type}{f:α->List AV}{l:List α}(h:RowsQ k f S v l)(hp:Cu v p)(x:AObj):RowsQ k f (S.sO p x) v l:=by
 rcases h with(h|⟨b,cap,L,rfl,ho,h2,h3⟩)|h
 ·exact .inl (.inl h)
 ·by_cases hc:0<cap
  ·exact .inl (.inr ⟨b,cap,L,rfl,by rw[zf (hp b _ _ rfl hc)];exact ho,h2,h3⟩)
  ·have h0:cap=0:=by omega
   subst h0
   have hl:l=[]:=Fat (by omega)
   subst hl
   exact .inr ⟨_,λx hx=>by cases hx;rfl,rfl,rfl⟩
 ·exact .inr h
theorem Vj{α:Type}{f:α->List AV}{l:List α}(h:RowsQ k f S v l)(hp:S.obj p=none):Cu v p:=by
 rcases h with(⟨rfl,rfl⟩|⟨b,cap,L,rfl,ho,h2⟩)|⟨a,ha,rfl,rfl⟩
 ·intro b n c e
  simp at e
 ·intro b' n c e _
  simp only[AV.s.injEq,Value.slice.injEq,Fag,Addr.mk.injEq]at e
  obtain⟨⟨rfl,_⟩,_⟩:=e
  intro e2
  subst e2
  rw[hp]at ho
  cases ho
 ·intro b n c e hc
  simp only[AV.s.injEq,Value.slice.injEq]at e
  omega
def spU(w:Wld)(c:Cmd):Unt:=⟨w.next,c.P,c.N,(c.X,c.Y),-1,-1,0,0,0⟩
def spW(w:Wld)(c:Cmd):Wld:={w with U:=w.U++[spU w c],next:=w.next+1}
def Ls(w:Wld):Prop:=4096<=w.U.length\/1099511627776<=w.next
open Classical in
noncomputable def spE(w:Wld)(c:Cmd):Int:=if Ls w then 4 else if xi w 0 c.N (c.X,c.Y)then 0 else 5
open Classical in
noncomputable def doE(E:Wld->Cmd->Int)(w:Wld)(c:Cmd):Int:=if¬zx w\/¬wk c\/w.players<c.P then 1 else E w c
open Classical in
noncomputable def doW(E:Wld->Cmd->Int)(W:Wld->Cmd->Wld)(w:Wld)(c:Cmd):Wld:=if doE E w c=0 then W w c else w
theorem ybr{E:Wld->Cmd->Int}{c:Cmd}(h:¬zx w\/¬wk c\/w.players<c.P):doE E w c=1:=by unfold doE;rw[if_pos h]
theorem ybq{E:Wld->Cmd->Int}{c:Cmd}(h1:zx w)(h2:wk c)(h3:c.P<=w.players):doE E w c=E w c:=by
 unfold doE
 rw[if_neg]
 rintro(h|h|h)
 ·exact h h1
 ·exact h h2
 ·omega
theorem ybo{E:Wld->Cmd->Int}{W:Wld->Cmd->Wld}{c:Cmd}(h:doE E w c=0):doW E W w c=W w c:=by unfold doW;rw[if_pos h]
theorem ybp{E:Wld->Cmd->Int}{W:Wld->Cmd->Wld}{c:Cmd}(h:doE E w c≠0):doW E W w c=w:=by unfold doW;rw[if_neg h]
end
end Go.V
namespace Go.V
section
variable {j n i k:Nat}
def qlt(a b:Int×Int):Prop:=a.1<b.1\/a.1=b.1/\a.2<b.2
instance(a b:Int×Int):Decidable (qlt a b):=by unfold qlt;exact inferInstance
theorem Sy(a:Int×Int):¬qlt a a:=by unfold qlt;omega
theorem Nk{a b c:Int×Int}(h:¬qlt b a)(k:¬qlt c b):¬qlt c a:=by unfold qlt at*;omega
theorem Nl{a b:Int×Int}(h:qlt a b):¬qlt b a:=by unfold qlt at*;omega
theorem iy{a b:Int×Int}(h:¬qlt b a):a.1<=b.1:=by unfold qlt at*;omega
def par(j:Nat):Nat:=(j-1)/2
def Fe(f:Nat->Int×Int)(i k:Nat):Nat->Int×Int:=λj=>if j=k then f i else if j=i then f k else f j
def Hp(f:Nat->Int×Int)(n:Nat):Prop:=∀j,0<j->j<n->¬qlt (f j) (f (par j))
def UpF(f:Nat->Int×Int)(n i:Nat):Prop:=(∀j,0<j->j<n->j≠i->¬qlt (f j) (f (par j)))/\∀j,0<j->j<n->par j=i->0<i->¬qlt (f j) (f (par i))
def D7(f:Nat->Int×Int)(n i:Nat):Prop:=(∀j,0<j->j<n->par j≠i->¬qlt (f j) (f (par j)))/\∀j,0<j->j<n->par j=i->0<i->¬qlt (f j) (f (par i))
theorem Ad(h:0<j):par j<j:=by unfold par;omega
theorem zaw{f:Nat->Int×Int}(h:UpF f n i)(hi:i=0\/¬qlt (f i) (f (par i))):Hp f n:=by
 intro j h0 hj
 by_cases e:j=i
 ·grind
 ·exact h.1 j h0 hj e
theorem zav{f:Nat->Int×Int}(h:Hp f n):UpF f (n+1) n:=
 ⟨λj h0 hj hn=>h j h0 (by omega),λj h0 hj hp h1=>by have:=Ad h0;omega⟩
theorem zau{f:Nat->Int×Int}(h:UpF f n i)(h0:0<i)(hi:i<n)(hl:qlt (f i) (f (par i))):UpF (Fe f i (par i)) n (par i):=by
 have hp:=Ad h0
 refine⟨λj j0 jn jp=>?_,λj j0 jn jp p0=>?_⟩
 ·unfold Fe
  rw[if_neg jp]
  by_cases e:j=i
  ·simp_all[Nl]
  ·rw[if_neg e]
   by_cases e2:par j=par i
   ·rw[if_pos e2]
    have h1:=h.1 j j0 jn e
    grind[Nk,Nl]
   ·rw[if_neg e2]
    by_cases e3:par j=i
    ·rw[if_pos e3]
     exact h.2 j j0 jn e3 h0
    ·rw[if_neg e3]
     exact h.1 j j0 jn e
 ·have hpp:=Ad p0
  unfold Fe
  rw[if_neg (show¬par (par i)=par i by omega),if_neg (show¬par (par i)=i by omega)]
  have h1:=h.1 (par i) p0 (by omega) (by omega)
  by_cases e:j=i
  ·grind
  ·have hjp:j≠par i:=by grind
   rw[if_neg hjp,if_neg e]
   have h2:=h.1 j j0 jn e
   grind[Nk]
theorem rc{f:Nat->Int×Int}(h:D7 f n i)(hc:∀j,0<j->j<n->par j=i->¬qlt (f j) (f i)):Hp f n:=by
 intro j h0 hj
 by_cases e:par j=i
 ·grind
 ·exact h.1 j h0 hj e
theorem ybm{f:Nat->Int×Int}(h:D7 f n i)(hk0:0<k)(hk:k<n)(hki:par k=i)(hmin:∀j,0<j->j<n->par j=i->¬qlt (f j) (f k))(hl:qlt (f k) (f i)):D7 (Fe f i k) n k:=by
 have hik:i<k:=hki▸Ad hk0
 refine⟨λj j0 jn jp=>?_,λj j0 jn jp _=>?_⟩
 ·unfold Fe
  rw[if_neg jp]
  by_cases e:j=k
  ·simp_all[Nl]
  ·rw[if_neg e]
   by_cases e2:j=i
   ·subst e2
    have hpj:par j≠j:=by have:=Ad j0;omega
    rw[if_pos rfl,if_neg hpj]
    exact h.2 k hk0 hk hki j0
   ·rw[if_neg e2]
    by_cases e3:par j=i
    ·grind
    ·rw[if_neg e3]
     exact h.1 j j0 jn e3
 ·have hjk:k<j:=jp▸Ad j0
  unfold Fe
  rw[if_neg (show¬j=k by omega),if_neg (show¬j=i by omega),hki,if_neg (show¬i=k by omega),if_pos rfl]
  have h1:=h.1 j j0 jn (by omega)
  grind
theorem zy0{f:Nat->Int×Int}(h:Hp f n):∀j,j<n->¬qlt (f j) (f 0):=by
 intro j
 induction j using Nat.strongRecOn with
 |_ j ih=>
  intro hj
  by_cases e:j=0
  ·subst e;exact Sy _
  ·have hp:=Ad (Nat.pos_of_ne_zero e)
   exact Nk (ih _ hp (by omega)) (h j (by omega) hj)
theorem K8(h:0<j):par j=i↔j=2*i+1\/j=2*i+2:=by unfold par;omega
def qat(l:List (Int×Int))(j:Nat):Int×Int:=l.getD j (0,0)
def jq(l:List (Int×Int)):Prop:=Hp (qat l) l.length
def ji(l:List (Int×Int))(i k:Nat):List (Int×Int):=(l.set i (qat l k)).set k (qat l i)
theorem Hz(l:List (Int×Int))(i k:Nat):(ji l i k).length=l.length:=by simp[ji]
theorem Nm{l:List (Int×Int)}(h:j<l.length):qat l j=l[j]:=by grind[qat]
theorem zug{l:List (Int×Int)}(h:i<l.length)(x:Int×Int)(j:Nat):qat (l.set i x) j=if j=i then x else qat l j:=by
 unfold qat
 grind
theorem iz{l:List (Int×Int)}(hi:i<l.length)(hk:k<l.length):qat (ji l i k)=Fe (qat l) i k:=by grind[ji,Fe,zug]
theorem ff{l:List (Int×Int)}(hi:i<l.length)(hk:k<l.length):(ji l i k).Perm l:=by grind[ji,Nm]
theorem i6(l:List (Int×Int))(x:Int×Int)(j:Nat)(h:j<l.length):qat (l++[x]) j=qat l j:=by grind[qat]
end
structure FarOK(E:Nat->Nat->Int->Prop)(goal:Nat)(d:Nat->Int):Prop where
 lab:∀u,d u=-1\/0<=d u
 gl:d goal=0
 pre:∀u,u≠goal->0<=d u->∃t c,0<=d t/\E t u c/\d t+c<=d u
 rel:∀t u c,0<=d t->E t u c->0<=d u/\d u<=d t+c
section
variable {goal u n t:Nat} {cur:Int}
theorem Pb{E:Nat->Nat->Int->Prop}(hE:∀t u c,E t u c->0<c){d e:Nat->Int}(h:FarOK E goal d)(k:FarOK E goal e):∀(n:Nat) (u:Nat),0<=e u->(e u).toNat=n->0<=d u/\d u<=e u:=by
 intro n
 induction n using Nat.strongRecOn with
 |_ n ih=>
  intro u hu hn
  by_cases hg:u=goal
  ·subst hg
   have h1:=h.gl
   omega
  ·obtain⟨t,c,ht,hE1,hc⟩:=k.pre u hg hu
   have hp:=hE _ _ _ hE1
   obtain⟨h1,h2⟩:=ih (e t).toNat (by omega) t ht rfl
   obtain⟨h3,h4⟩:=h.rel t u c h1 hE1
   omega
theorem ya2{E:Nat->Nat->Int->Prop}(hE:∀t u c,E t u c->0<c){d e:Nat->Int}(h:FarOK E goal d)(k:FarOK E goal e):d=e:=by
 funext u
 rcases h.lab u with h1|h1
 ·rcases k.lab u with h2|h2
  ·omega
  ·have:=Pb hE h k _ u h2 rfl
   omega
 ·rcases k.lab u with h2|h2
  ·have:=Pb hE k h _ u h1 rfl
   omega
  ·have h3:=Pb hE h k _ u h2 rfl
   have h4:=Pb hE k h _ u h1 rfl
   omega
def yk{α:Type}(d:Nat->α)(u:Nat)(x:α):Nat->α:=λj=>if j=u then x else d j
theorem we{α:Type}(d:Nat->α)(u:Nat)(x:α):yk d u x u=x:=by simp[yk]
theorem jg{α:Type}{d:Nat->α}{j:Nat}{x:α}(h:j≠u):yk d u x j=d j:=by simp[yk,h]
structure DJ(E:Nat->Nat->Int->Prop)(n goal:Nat)(d:Nat->Int)(dn:Nat->Bool)(q:List (Int×Int))(cur:Int)(O:Nat->Nat->Int->Prop):Prop where
 lab:∀u,d u=-1\/0<=d u
 gl:d goal=0
 pre:∀u,u≠goal->0<=d u->∃t c,dn t=true/\0<=d t/\E t u c/\d t+c<=d u
 rel:∀t u c,dn t=true->E t u c->¬O t u c->0<=d u/\d u<=d t+c
 mono:∀t,dn t=true->0<=d t/\d t<=cur
 ent:∀e∈q,∃u:Nat,e.2=(u:Int)/\u<n/\0<=d u/\d u<=e.1/\cur<=e.1
 wait:∀u,0<=d u->dn u=false->(d u,(u:Int))∈q
def G0:Nat->Nat->Int->Prop:=λ_ _ _=>False
theorem ybv(E:Nat->Nat->Int->Prop)(hg:goal<n){d:Nat->Int}(hd:∀u,d u=if u=goal then 0 else -1):DJ E n goal d (λ_=>false) [(0,(goal:Int))] 0 G0:=by
 refine⟨λu=>?_,by simp[hd],λu hu h=>?_,λt u c h=>?_,λt h=>?_,λe he=>?_,λu h _=>?_⟩
 ·grind
 ·grind
 ·cases h
 ·cases h
 ·grind
 grind
theorem ybt{E:Nat->Nat->Int->Prop}{d:Nat->Int}{dn:Nat->Bool}{q q':List (Int×Int)}(h:DJ E n goal d dn q cur G0){x:Int×Int}{t:Nat}(ht:x.2=(t:Int))(hp:q.Perm (x::q'))(hd:dn t=true):DJ E n goal d dn q' cur G0:=by
 refine⟨h.lab,h.gl,h.pre,h.rel,h.mono,λe he=>h.ent e (hp.mem_iff.2 (Fav _ he)),λu hu hn=>?_⟩
 rcases Fa0.1 (hp.mem_iff.1 (h.wait u hu hn))with he|he
 ·grind
 omega
theorem ybs{E:Nat->Nat->Int->Prop}{d:Nat->Int}{dn:Nat->Bool}{q q':List (Int×Int)}(h:DJ E n goal d dn q cur G0){x:Int×Int}{t:Nat}(ht:x.2=(t:Int))(hp:q.Perm (x::q'))(hm:∀e∈q,¬qlt e x)(hd:dn t=false):
  x.1=d t/\DJ E n goal d (yk dn t true) q' x.1 (λa _ _=>a=t):=by
 have hx:x∈q:=hp.mem_iff.2 Fa6
 obtain⟨u,hu,hun,hu0,hux,huc⟩:=h.ent x hx
 have:u=t:=by omega
 subst this
 have hk:x.1=d u:=by
  have:=iy (hm _ (h.wait u hu0 hd))
  omega
 refine⟨hk,h.lab,h.gl,λv hv hl=>?_,λa b c ha hE hO=>?_,λa ha=>?_,λe he=>?_,λv hv hn=>?_⟩
 ·obtain⟨a,c,h1,h2,h3,h4⟩:=h.pre v hv hl
  grind[yk]
 ·rw[jg hO]at ha
  exact h.rel a b c ha hE (λh=>h)
 ·unfold yk at ha
  split at ha
  ·grind
  ·have:=h.mono a ha
   omega
 ·have he2:=hp.mem_iff.2 (Fav x he)
  obtain⟨v,h1,h2,h3,h4,h5⟩:=h.ent e he2
  exact⟨v,h1,h2,h3,h4,iy (hm e he2)⟩
 ·unfold yk at hn
  split at hn
  ·cases hn
  ·rename_i hne
   rcases Fa0.1 (hp.mem_iff.1 (h.wait v hv hn))with he|he
   ·grind
   omega
theorem W4{E:Nat->Nat->Int->Prop}{d:Nat->Int}{dn:Nat->Bool}{q:List (Int×Int)}{O O':Nat->Nat->Int->Prop}(h:DJ E n goal d dn q cur O)
  (ho:∀t u c,O t u c->¬O' t u c->E t u c->0<=d u/\d u<=d t+c):DJ E n goal d dn q cur O':=
 ⟨h.lab,h.gl,h.pre,λt u c ht hE hO=>by
  by_cases e:O t u c
  ·grind
  ·exact h.rel t u c ht hE e,h.mono,h.ent,h.wait⟩
theorem rf{E:Nat->Nat->Int->Prop}(hE:∀t u c,E t u c->0<c){d:Nat->Int}{dn:Nat->Bool}{q q':List (Int×Int)}{O:Nat->Nat->Int->Prop}(h:DJ E n goal d dn q cur O){u:Nat}{c:Int}(ht:dn t=true)(htc:d t=cur)(hu:u<n)(hEu:E t u c)(hd:dn u=false)(hl:d u<0\/cur+c<d u)
  (hq:q'.Perm ((cur+c,(u:Int))::q)):DJ E n goal (yk d u (cur+c)) dn q' cur O:=by
 have hc:=hE _ _ _ hEu
 have hcur:0<=cur:=by have:=h.mono t ht;omega
 have htu:t≠u:=λe=>by grind
 have hdn:∀a,dn a=true->a≠u:=λa ha e=>by grind
 have hgu:goal≠u:=λe=>by subst e;have:=h.gl;omega
 refine⟨λv=>?_,by rw[jg hgu];exact h.gl,λv hv hl2=>?_,λa b k ha hE2 hO=>?_,λa ha=>?_,λe he=>?_,λv hv hn=>?_⟩
 ·unfold yk;split
  ·omega
  ·exact h.lab v
 ·by_cases e:v=u
  ·grind[jg,we]
  ·rw[jg e]at hl2⊢
   obtain⟨a,k,h1,h2,h3,h4⟩:=h.pre v hv hl2
   grind[jg]
 ·rw[jg (hdn a ha)]
  obtain⟨h1,h2⟩:=h.rel a b k ha hE2 hO
  grind[we,jg]
 ·rw[jg (hdn a ha)];exact h.mono a ha
 ·rcases Fa0.1 (hq.mem_iff.1 he)with e1|e1
  ·subst e1
   exact⟨u,rfl,hu,by rw[we];omega,by rw[we];simp,by omega⟩
  ·obtain⟨v,h1,h2,h3,h4,h5⟩:=h.ent e e1
   grind[we,jg]
 ·by_cases e:v=u
  ·grind[we]
  ·rw[jg e]at hv⊢
   exact hq.mem_iff.2 (Fav _ (h.wait v hv hn))
theorem ybw{E:Nat->Nat->Int->Prop}{d:Nat->Int}{dn:Nat->Bool}(h:DJ E n goal d dn [] cur G0):FarOK E goal d:=by
 have hdn:∀u,0<=d u->dn u=true:=λu hu=>by
  cases hb:dn u with
  |true=>rfl
  |false=>exact absurd (h.wait u hu hb) (by simp)
 exact⟨h.lab,h.gl,λu hu hl=>by obtain⟨t,c,_,h2,h3,h4⟩:=h.pre u hu hl;grind,λt u c ht hE=>h.rel t u c (hdn t ht) hE (λh=>h)⟩
end
section
variable {g:Gnd} {x y:Int} {s:Nat}
def onG(g:Gnd)(x y:Int):Prop:=(0<=x/\x<g.W)/\(0<=y/\y<g.H)
instance(g:Gnd)(x y:Int):Decidable (onG g x y):=inferInstanceAs (Decidable (_/\_))
def tl(g:Gnd)(x y:Int):Nat:=(x+g.W*y).toNat
theorem Co(hg:zp g)(h:onG g x y):((tl g x y:Nat):Int)=x+g.W*y/\tl g x y<g.T.length/\(tl g x y:Int)%g.W=x/\(tl g x y:Int)/g.W=y:=by
 obtain⟨h1,h2,h3⟩:=qr hg
 obtain⟨⟨hx,hx2⟩,hy,hy2⟩:=h
 have hW:1<=g.W:=hg.1.1
 have e0:0<=g.W*y:=Fa1 (by omega) hy
 have e:((tl g x y:Nat):Int)=x+g.W*y:=by unfold tl;omega
 have e1:g.W*y<=g.W*(g.H-1):=Fbj (Fcc _) (by omega) hy (by omega)
 rw[Int.mul_sub,Int.mul_one]at e1
 refine⟨e,by omega,?_,?_⟩
 ·simp_all[Fdv]
 ·rw[e,Int.add_mul_ediv_left _ _ (by omega),Fc5 hx hx2,Int.zero_add]
theorem zvr(hg:zp g){t:Nat}(ht:t<g.T.length):onG g ((t:Int)%g.W) ((t:Int)/g.W)/\tl g ((t:Int)%g.W) ((t:Int)/g.W)=t:=by
 obtain⟨h1,h2,h3⟩:=qr hg
 have hW:1<=g.W:=hg.1.1
 have a:=Int.emod_nonneg (t:Int) (show g.W≠0 by omega)
 have b:=Int.emod_lt_of_pos (t:Int) (show 0<g.W by omega)
 have c:=Fci (show 0<=(t:Int) by omega) (show 0<=g.W by omega)
 have d:(t:Int)/g.W<g.H:=Int.ediv_lt_of_lt_mul (by omega) (by rw[Int.mul_comm];omega)
 refine⟨⟨⟨a,b⟩,c,d⟩,?_⟩
 unfold tl
 rw[Int.emod_add_mul_ediv]
 omega
def sqP(g:Gnd)(f:Nat->Bool)(s:Nat)(x y:Int):Prop:=∀a b:Int,-(s:Int)<=a->a<=s->-(s:Int)<=b->b<=s->onG g (x+a) (y+b)/\f (tl g (x+a) (y+b))=true
theorem sq_zero{f:Nat->Bool}:sqP g f 0 x y↔onG g x y/\f (tl g x y)=true:=by
 constructor
 ·intro h
  have:=h 0 0 (by decide) (by decide) (by decide) (by decide)
  simpa using this
 ·intro h a b h1 h2 h3 h4
  grind
theorem sq_succ{f:Nat->Bool}:sqP g f (s+1) x y↔∀a b:Int,-1<=a->a<=1->-1<=b->b<=1->onG g (x+a) (y+b)/\sqP g f s (x+a) (y+b):=by
 constructor
 ·intro h a b h1 h2 h3 h4
  refine⟨(h a b (by omega) (by omega) (by omega) (by omega)).1,λa' b' k1 k2 k3 k4=>?_⟩
  have:=h (a+a') (b+b') (by omega) (by omega) (by omega) (by omega)
  grind
 ·intro h a b h1 h2 h3 h4
  obtain⟨a1,ha1,ha2,ha3,ha4⟩:∃a1:Int,-1<=a1/\a1<=1/\-(s:Int)<=a-a1/\a-a1<=s:=by
   by_cases c1:a>s
   ·exact⟨1,by omega,by omega,by omega,by omega⟩
   ·by_cases c2:a< -s
    ·exact⟨-1,by omega,by omega,by omega,by omega⟩
    ·exact⟨0,by omega,by omega,by omega,by omega⟩
  obtain⟨b1,hb1,hb2,hb3,hb4⟩:∃b1:Int,-1<=b1/\b1<=1/\-(s:Int)<=b-b1/\b-b1<=s:=by
   by_cases c1:b>s
   ·exact⟨1,by omega,by omega,by omega,by omega⟩
   ·by_cases c2:b< -s
    ·exact⟨-1,by omega,by omega,by omega,by omega⟩
    ·exact⟨0,by omega,by omega,by omega,by omega⟩
  have:=(h a1 b1 ha1 ha2 hb1 hb2).2 (a-a1) (b-b1) ha3 ha4 hb3 hb4
  grind
theorem fw{f:Nat->Bool}{s':Nat}(hs:s'<=s)(h:sqP g f s x y):sqP g f s' x y:=λa b h1 h2 h3 h4=>h a b (by omega) (by omega) (by omega) (by omega)
def m5(a b c d e:Int):Int:=min (min (min (min a (b+1)) (c+1)) (d+1)) (e+1)
theorem yc2{f:Nat->Bool}{A B:Int->Int->Int}(oA:∀x y,¬onG g x y->A x y=0)(oB:∀x y,¬onG g x y->B x y=0)
  (hA:∀x y,onG g x y->A x y=m5 (if f (tl g x y)then 128 else 0) (A (x-1) y) (A (x-1) (y-1)) (A x (y-1)) (A (x+1) (y-1)))
  (hB:∀x y,onG g x y->B x y=m5 (A x y) (B (x+1) y) (B (x+1) (y+1)) (B x (y+1)) (B (x-1) (y+1))) (hxy:onG g x y) (s:Nat) (hs:s<=127):(s:Int)<B x y↔sqP g f s x y:=by
 -- not below 0
 have nA:∀n:Nat,∀x y,onG g x y->y*200+x<n->0<=A x y:=by
  intro n
  induction n with
  |zero=>intro x y h hn;obtain⟨⟨h1,h2⟩,h3,h4⟩:=h;omega
  |succ n ih=>
   intro x y h hn
   have any:∀x' y',y'*200+x'<y*200+x->0<=A x' y':=λx' y' hl=>by
    by_cases ho:onG g x' y'
    ·exact ih x' y' ho (by omega)
    ·rw[oA x' y' ho];decide
   rw[hA x y h]
   have a1:=any (x-1) y (by omega)
   have a2:=any (x-1) (y-1) (by omega)
   have a3:=any x (y-1) (by omega)
   have a4:=any (x+1) (y-1) (by omega)
   have a5:(0:Int)<=(if f (tl g x y)then 128 else 0):=by split<;>decide
   unfold m5
   omega
 have pA:∀x y,0<=A x y:=λx y=>by
  by_cases ho:onG g x y
  ·exact nA (y*200+x+1).toNat x y ho (by obtain⟨⟨h1,h2⟩,h3,h4⟩:=ho;omega)
  ·rw[oA x y ho];decide
 have nB:∀n:Nat,∀x y,onG g x y->(g.H-y)*200+(g.W-x)<n->0<=B x y:=by
  intro n
  induction n with
  |zero=>intro x y h hn;obtain⟨⟨h1,h2⟩,h3,h4⟩:=h;omega
  |succ n ih=>
   intro x y h hn
   have any:∀x' y',(g.H-y')*200+(g.W-x')<(g.H-y)*200+(g.W-x)->0<=B x' y':=λx' y' hl=>by
    by_cases ho:onG g x' y'
    ·exact ih x' y' ho (by omega)
    ·rw[oB x' y' ho];decide
   rw[hB x y h]
   have a1:=any (x+1) y (by omega)
   have a2:=any (x+1) (y+1) (by omega)
   have a3:=any x (y+1) (by omega)
   have a4:=any (x-1) (y+1) (by omega)
   have a5:=pA x y
   unfold m5
   omega
 have pB:∀x y,0<=B x y:=λx y=>by
  by_cases ho:onG g x y
  ·exact nB ((g.H-y)*200+(g.W-x)+1).toNat x y ho (by obtain⟨⟨h1,h2⟩,h3,h4⟩:=ho;omega)
  ·rw[oB x y ho];decide
 constructor
 ·-- what is bad is not farther than its steps
  have up1:∀d:Nat,∀x y a b,onG g x y->-(d:Int)<=a->a<=d->-(d:Int)<=b->b<=0->a<=-b->¬(onG g (x+a) (y+b)/\f (tl g (x+a) (y+b))=true)->A x y<=d:=by
   intro d
   induction d with
   |zero=>
    intro x y a b h h1 h2 h3 h4 h5 hbad
    have ea:a=0:=by omega
    have eb:b=0:=by omega
    subst ea eb
    rw[Fby,Fby]at hbad
    have hf:¬f (tl g x y)=true:=λhf=>hbad ⟨h,hf⟩
    rw[hA x y h,if_neg hf]
    unfold m5
    omega
   |succ d ih=>
    intro x y a b h h1 h2 h3 h4 h5 hbad
    have go:∀u v:Int,-(d:Int)<=a-u->a-u<=d->-(d:Int)<=b-v->b-v<=0->a-u<=-(b-v)->A (x+u) (y+v)<=d:=λu v g1 g2 g3 g4 g5=>by
     by_cases ho:onG g (x+u) (y+v)
     ·refine ih (x+u) (y+v) (a-u) (b-v) ho g1 g2 g3 g4 g5 ?_
      rw[show x+u+(a-u)=x+a by omega,show y+v+(b-v)=y+b by omega]
      exact hbad
     ·rw[oA _ _ ho];omega
    have hk:=hA x y h
    unfold m5 at hk
    by_cases cb:b=0
    ·by_cases ca:a=0
     ·subst ca cb
      rw[Fby,Fby]at hbad
      have hf:¬f (tl g x y)=true:=λhf=>hbad ⟨h,hf⟩
      rw[if_neg hf]at hk
      omega
     ·have:=go (-1) 0 (by omega) (by omega) (by omega) (by omega) (by omega)
      rw[show x+-1=x-1 by omega,Fby]at this
      omega
    ·by_cases ca:a=0
     ·have:=go 0 (-1) (by omega) (by omega) (by omega) (by omega) (by omega)
      rw[show y+-1=y-1 by omega,Fby]at this
      omega
     ·by_cases ca2:a<0
      ·have:=go (-1) (-1) (by omega) (by omega) (by omega) (by omega) (by omega)
       rw[show y+-1=y-1 by omega,show x+-1=x-1 by omega]at this
       omega
      ·have:=go 1 (-1) (by omega) (by omega) (by omega) (by omega) (by omega)
       rw[show y+-1=y-1 by omega]at this
       omega
  have up2:∀d:Nat,∀x y a b,onG g x y->-(d:Int)<=a->a<=d->-(d:Int)<=b->b<=d->¬(onG g (x+a) (y+b)/\f (tl g (x+a) (y+b))=true)->B x y<=d:=by
   intro d
   induction d with
   |zero=>
    intro x y a b h h1 h2 h3 h4 hbad
    have:=up1 0 x y a b h h1 h2 h3 (by omega) (by omega) hbad
    have hk:=hB x y h
    unfold m5 at hk
    omega
   |succ d ih=>
    intro x y a b h h1 h2 h3 h4 hbad
    have hk:=hB x y h
    unfold m5 at hk
    by_cases cone:b<=0/\a<=-b
    ·have:=up1 (d+1) x y a b h h1 h2 h3 cone.1 cone.2 hbad
     omega
    have go:∀u v:Int,-(d:Int)<=a-u->a-u<=d->-(d:Int)<=b-v->b-v<=d->B (x+u) (y+v)<=d:=λu v g1 g2 g3 g4=>by
     by_cases ho:onG g (x+u) (y+v)
     ·refine ih (x+u) (y+v) (a-u) (b-v) ho g1 g2 g3 g4 ?_
      rw[show x+u+(a-u)=x+a by omega,show y+v+(b-v)=y+b by omega]
      exact hbad
     ·rw[oB _ _ ho];omega
    by_cases cb:b<=0
    ·have:=go 1 0 (by omega) (by omega) (by omega) (by omega)
     rw[Fby]at this
     omega
    ·by_cases ca:a=0
     ·have:=go 0 1 (by omega) (by omega) (by omega) (by omega)
      rw[Fby]at this
      omega
     ·by_cases ca2:a<0
      ·have:=go (-1) 1 (by omega) (by omega) (by omega) (by omega)
       rw[show x+-1=x-1 by omega]at this
       omega
      ·have:=go 1 1 (by omega) (by omega) (by omega) (by omega)
       omega
  intro hlt a b h1 h2 h3 h4
  refine Classical.byContradiction λhbad=>?_
  have:=up2 s x y a b hxy h1 h2 h3 h4 hbad
  omega
 ·-- what is good all about is far
  have loA:∀s:Nat,s<=127->∀x y,sqP g f s x y->(s:Int)<A x y:=by
   intro s
   induction s with
   |zero=>
    intro _ x y h
    obtain⟨ho,hf⟩:=sq_zero.1 h
    rw[hA x y ho,if_pos hf]
    have a1:=pA (x-1) y
    have a2:=pA (x-1) (y-1)
    have a3:=pA x (y-1)
    have a4:=pA (x+1) (y-1)
    unfold m5
    omega
   |succ s ih=>
    intro hs x y h
    have h2:=sq_succ.1 h
    have nb:=λ(a b:Int) h3 h4 h5 h6=>ih (by omega) _ _ (h2 a b h3 h4 h5 h6).2
    obtain⟨ho,hf⟩:=sq_zero.1 (fw (Faf _) h)
    have a1:=nb (-1) 0 (by decide) (by decide) (by decide) (by decide)
    have a2:=nb (-1) (-1) (by decide) (by decide) (by decide) (by decide)
    have a3:=nb 0 (-1) (by decide) (by decide) (by decide) (by decide)
    have a4:=nb 1 (-1) (by decide) (by decide) (by decide) (by decide)
    rw[show x+-1=x-1 by omega]at a1 a2
    rw[show y+-1=y-1 by omega]at a2 a3 a4
    rw[Fby]at a1 a3
    rw[hA x y ho,if_pos hf]
    unfold m5
    omega
  have loB:∀s:Nat,s<=127->∀x y,sqP g f s x y->(s:Int)<B x y:=by
   intro s
   induction s with
   |zero=>
    intro hs x y h
    obtain⟨ho,hf⟩:=sq_zero.1 h
    rw[hB x y ho]
    have a1:=pB (x+1) y
    have a2:=pB (x+1) (y+1)
    have a3:=pB x (y+1)
    have a4:=pB (x-1) (y+1)
    have a5:=loA 0 hs x y h
    unfold m5
    omega
   |succ s ih=>
    intro hs x y h
    have h2:=sq_succ.1 h
    have nb:=λ(a b:Int) h3 h4 h5 h6=>ih (by omega) _ _ (h2 a b h3 h4 h5 h6).2
    obtain⟨ho,hf⟩:=sq_zero.1 (fw (Faf _) h)
    have a1:=nb 1 0 (by decide) (by decide) (by decide) (by decide)
    have a2:=nb 1 1 (by decide) (by decide) (by decide) (by decide)
    have a3:=nb 0 1 (by decide) (by decide) (by decide) (by decide)
    have a4:=nb (-1) 1 (by decide) (by decide) (by decide) (by decide)
    rw[show x+-1=x-1 by omega]at a4
    rw[Fby]at a1 a3
    have a5:=loA (s+1) hs x y h
    rw[hB x y ho]
    unfold m5
    omega
  exact loB s hs x y
end
def ye8(i j:Int):Int:=max (max i (-i)) (max j (-j))
def ztt(g:Gnd)(x y k d:Int)(t:Nat):Bool:=decide (ye8 ((t:Int)%g.W-x) ((t:Int)/g.W-y)=d/\((t:Int)%g.W-x).tmod k=0/\((t:Int)/g.W-y).tmod k=0)
def ij(g:Gnd)(x y k d:Int):List Nat:=(List.range g.T.length).filter (ztt g x y k d)
def Sf(g:Gnd)(f:Nat->Bool)(x y k d:Int):List Nat:=(ij g x y k d).filter f
def M6(g:Gnd)(f:Nat->Bool)(x y k:Int):Nat->List Nat
 |0=>[]
 |d+1=>M6 g f x y k d++Sf g f x y k d
def zp4(g:Gnd)(f:Nat->Bool)(size goal:Int)(n:Nat):List Nat:=(M6 g f (goal%g.W) (goal/g.W) (2*size+1) (g.W+g.H+1).toNat).take n
section
variable {n t:Nat} {g:Gnd}
def il(n:Nat)(f:Nat->Int):List AV:=(List.range n).map λt=>int (f t)
theorem qq(n:Nat)(f:Nat->Int):(il n f).length=n:=by simp[il]
theorem Cd{f:Nat->Int}(h:t<n):(il n f)[t]?=some (int (f t)):=by simp[il,h]
theorem wx{f:Nat->Int}(h:t<n):((il n f).drop (0+t*1)).head?=some (int (f t)):=by
 rw[Fb3,show 0+t*1=t by omega,Cd h]
theorem sy{f:Nat->Bool}(h:t<n):((bl n f).drop (0+t*1)).head?=some (bool (f t)):=by
 rw[Fb3,show 0+t*1=t by omega,F8 h]
theorem n7(n:Nat):List.replicate n (AV.s (.int .i64 0))=il n λ_=>0:=by
 unfold il
 rw[List.map_const',List.length_range]
 rfl
def setI(f:Nat->Int)(t:Nat)(v:Int):Nat->Int:=λs=>if s=t then v else f s
theorem Kv(f:Nat->Int)(t:Nat)(v:Int):setI f t v t=v:=if_pos rfl
theorem H5(f:Nat->Int){s:Nat}(v:Int)(h:s≠t):setI f t v s=f s:=if_neg h
theorem zqf(f:Nat->Int)(t:Nat):setI f t (f t)=f:=funext λs=>by
 unfold setI
 split
 ·rename_i h;rw[h]
 ·rfl
theorem Sh(f:Nat->Int)(t:Nat)(v u:Int):setI (setI f t v) t u=setI f t u:=funext λs=>by
 unfold setI
 split<;>simp_all
theorem n8{f:Nat->Int}(h:t<n)(g:Nat->Int)(hg:∀s,s≠t->g s=f s):zt (il n f) t [int (g t)]=il n g:=by
 unfold zt
 apply Fbw
 intro s
 by_cases h1:s<t
 ·rw[Faz,Far (by rw[Fal,qq];omega),Fbs h1,Cd (by omega),Cd (by omega),hg s (by omega)]
 ·by_cases h2:s=t
  ·subst h2
   rw[Faz,Fax (by rw[Fal,qq];omega),Fal,qq,show s-min s n=0 by omega,Cd h]
   rfl
  ·rw[Fax (by rw[Fad,Fal,qq];simp;omega),Fad,Fal,qq,Fce]
   by_cases h3:s<n
   ·have e:t+[int (g t)].length+(s-(min t n+[int (g t)].length))=s:=by simp;omega
    rw[e,Cd h3,Cd h3,hg s h2]
   ·rw[Fbp (by rw[qq];simp;omega),Fbp (by rw[qq];omega)]
theorem Fy{f:Nat->Int}(h:t<n)(v:Int):zt (il n f) t [int v]=il n (setI f t v):=by
 have:=n8 h (setI f t v) (λs hs=>H5 f v hs)
 rw[Kv]at this
 exact this
def ilL(n:Nat)(f:Nat->Int):List Int:=(List.range n).map f
theorem Ot(n:Nat)(f:Nat->Int):(ilL n f).length=n:=by simp[ilL]
theorem zyq{f:Nat->Int}(h:t<n):(ilL n f)[t]'(by rw[Ot];exact h)=f t:=by simp[ilL]
theorem zyo(n:Nat)(f:Nat->Int):(rws zu (ilL n f)).flatten=il n f:=by
 unfold rws ilL il
 rw[List.map_map]
 generalize List.range n=l
 induction l with
 |nil=>rfl
 |cons a l ih=>simp only[Fb0,Fdu,ih];rfl
theorem Ll{f g:Nat->Int}(h:∀t,t<n->f t=g t):il n f=il n g:=Fbu λt ht=>by rw[h t (Fbi.1 ht)]
theorem ydp{f g:Nat->Bool}(h:∀t,t<n->f t=g t):bl n f=bl n g:=Fbu λt ht=>by rw[h t (Fbi.1 ht)]
def gv(g:Gnd)(f:Nat->Int)(x y:Int):Int:=if onG g x y then f (tl g x y)else 0
def j8(g:Gnd)(f:Nat->Int)(x y:Int)(v:Int)(ws:List (Int×Int)):Int:=ws.foldl (λv d=>min v (gv g f (x+d.1) (y+d.2)+1)) v
theorem ol(hg:zp g){f:Nat->Int}(hf:∀t,t<g.T.length->0<=f t/\f t<=128)(x y:Int):0<=gv g f x y/\gv g f x y<=128:=by
 unfold gv
 split
 ·rename_i h;exact hf _ (Co hg h).2.1
 ·omega
theorem Vb(hg:zp g){f:Nat->Int}(hf:∀t,t<g.T.length->0<=f t/\f t<=128)(x y:Int):∀(ws:List (Int×Int)) (v:Int),0<=v/\v<=128->0<=j8 g f x y v ws/\j8 g f x y v ws<=128
 |[],v,hv=>hv
 |d::r,v,hv=>by
  have:=ol hg hf (x+d.1) (y+d.2)
  exact Vb hg hf x y r (min v (gv g f (x+d.1) (y+d.2)+1)) (by omega)
theorem zu6(g:Gnd)(f:Nat->Int)(x y v:Int)(ws:List (Int×Int)){i:Nat}(hi:i<ws.length):j8 g f x y v (ws.take (i+1))=min (j8 g f x y v (ws.take i)) (gv g f (x+ws[i].1) (y+ws[i].2)+1):=by
 unfold j8
 rw[Fac hi,Fdt]
 rfl
theorem zqg{f:Nat->Int}(hf:∀t,t<n->0<=f t/\f t<=128){v:Int}(hv:0<=v/\v<=128):∀s,s<n->0<=setI f t v s/\setI f t v s<=128:=λs hs=>by
 unfold setI
 split
 ·exact hv
 ·exact hf s hs
theorem zy5(hg:zp g)(f:Nat->Int)(v:Int){dx dy:Int}(hd:dx≠0\/dy≠0):gv g (setI f t v) ((t:Int)%g.W+dx) ((t:Int)/g.W+dy)=gv g f ((t:Int)%g.W+dx) ((t:Int)/g.W+dy):=by
 unfold gv
 split
 ·rename_i h
  obtain⟨_,_,h3,h4⟩:=Co hg h
  refine H5 f v λe=>?_
  rw[e]at h3 h4
  omega
 ·rfl
def Iv:List (Int×Int):=[(-1,0),(-1,-1),(0,-1),(1,-1)]
def Hl:List (Int×Int):=[(1,0),(1,1),(0,1),(-1,1)]
def Gd(d:Int×Int):List AV:=[int d.1,int d.2]
def Hx(g:Gnd)(f:Nat->Int)(ws:List (Int×Int))(t:Nat):Nat->Int:=setI f t (j8 g f ((t:Int)%g.W) ((t:Int)/g.W) (f t) ws)
def j5(g:Gnd)(f:Nat->Int):Nat->Nat->Int
 |0=>f
 |i+1=>Hx g (j5 g f i) Iv i
def wu(g:Gnd)(f:Nat->Int)(n:Nat):Nat->Nat->Int
 |0=>f
 |j+1=>Hx g (wu g f n j) Hl (n-1-j)
theorem ez(hg:zp g){f:Nat->Int}(hf:∀t,t<g.T.length->0<=f t/\f t<=128){ws:List (Int×Int)}(ht:t<g.T.length):∀s,s<g.T.length->0<=Hx g f ws t s/\Hx g f ws t s<=128:=
 zqg hf (Vb hg hf _ _ _ _ (hf t ht))
theorem R8(hg:zp g){f:Nat->Int}(hf:∀t,t<g.T.length->0<=f t/\f t<=128):∀i,i<=g.T.length->∀s,s<g.T.length->0<=j5 g f i s/\j5 g f i s<=128
 |0,_=>hf
 |i+1,hi=>ez hg (R8 hg hf i (by omega)) (by omega)
theorem fc(hg:zp g){f:Nat->Int}(hf:∀t,t<g.T.length->0<=f t/\f t<=128):∀i,i<=g.T.length->∀s,s<g.T.length->0<=wu g f g.T.length i s/\wu g f g.T.length i s<=128
 |0,_=>hf
 |i+1,hi=>ez hg (fc hg hf i (by omega)) (by omega)
theorem fe(g:Gnd)(f:Nat->Int):∀i s,i<=s->j5 g f i s=f s
 |0,_,_=>rfl
 |i+1,s,h=>by
  show setI _ i _ s=_
  rw[H5 _ _ (by omega),fe g f i s (by omega)]
theorem Mz(g:Gnd)(f:Nat->Int):∀i s,s<i->j5 g f i s=j5 g f (s+1) s
 |0,_,h=>absurd h (Fa7 _)
 |i+1,s,h=>by
  by_cases e:s=i
  ·subst e;rfl
  ·show setI _ i _ s=_
   rw[H5 _ _ e,Mz g f i s (by omega)]
theorem fa(g:Gnd)(f:Nat->Int)(n:Nat):∀j s,s+j<n->wu g f n j s=f s
 |0,_,_=>rfl
 |j+1,s,h=>by
  show setI _ (n-1-j) _ s=_
  rw[H5 _ _ (by omega),fa g f n j s (by omega)]
theorem My(g:Gnd)(f:Nat->Int)(n:Nat):∀j s,s<n->j<=n->n<=s+j->wu g f n j s=wu g f n (n-1-s+1) s
 |0,s,h,_,h2=>absurd h2 (by omega)
 |j+1,s,h,h1,h2=>by
  by_cases e:s=n-1-j
  ·have:j+1=n-1-s+1:=by omega
   rw[this]
  ·show setI _ (n-1-j) _ s=_
   rw[H5 _ _ e,My g f n j s h (by omega) (by omega)]
theorem zu8(g:Gnd)(f:Nat->Int)(x y v:Int):j8 g f x y v Iv=m5 v (gv g f (x-1) y) (gv g f (x-1) (y-1)) (gv g f x (y-1)) (gv g f (x+1) (y-1)):=by
 unfold j8 Iv m5
 simp only[Fch,List.foldl_nil,Fby,<-Fc1]
theorem zu7(g:Gnd)(f:Nat->Int)(x y v:Int):j8 g f x y v Hl=m5 v (gv g f (x+1) y) (gv g f (x+1) (y+1)) (gv g f x (y+1)) (gv g f (x-1) (y+1)):=by
 unfold j8 Hl m5
 simp only[Fch,List.foldl_nil,Fby,<-Fc1]
def Bt(g:Gnd)(o:Nat->Bool):Nat->Int:=wu g (j5 g (λt=>if o t then 128 else 0) g.T.length) g.T.length g.T.length
theorem ztp(hg:zp g)(o:Nat->Bool)(ht:t<g.T.length)(s:Nat)(hs:s<=127):(s:Int)<Bt g o t↔sqP g o s ((t:Int)%g.W) ((t:Int)/g.W):=by
 have hW:1<=g.W:=hg.1.1
 obtain⟨ho,he⟩:=zvr hg ht
 have key:=yc2 (g:=g) (f:=o) (A:=gv g (j5 g (λt=>if o t then 128 else 0) g.T.length)) (B:=gv g (Bt g o))
  (λx y h=>if_neg h) (λx y h=>if_neg h) (λx y h=>?_) (λx y h=>?_) ho s hs
 ·rw[<-key]
  unfold gv
  rw[if_pos ho,he]
 ·obtain⟨e1,e2,e3,e4⟩:=Co hg h
  have nb:∀dx dy:Int,(dy=-1\/dy=0/\dx=-1)->dx<=1->gv g (j5 g (λt=>if o t then 128 else 0) (tl g x y)) (x+dx) (y+dy)=gv g (j5 g (λt=>if o t then 128 else 0) g.T.length) (x+dx) (y+dy):=λdx dy hd hx=>by
   unfold gv
   split
   ·rename_i h2
    obtain⟨f1,f2,f3,f4⟩:=Co hg h2
    have hlt:tl g (x+dx) (y+dy)<tl g x y:=by
     have hb:=h.1
     have hb2:=h2.1
     rcases hd with rfl|⟨rfl,rfl⟩
     ·have:g.W*(y+-1)=g.W*y-g.W:=by rw[Int.mul_add];omega
      rw[this]at f1
      have hne:(tl g (x+dx) (y+-1):Int)≠tl g x y:=λe=>by
       rw[e,e4]at f4
       omega
      omega
     ·rw[Fby]at f1⊢
      omega
    rw[Mz g _ _ _ hlt,Mz g _ _ _ f2]
   ·rfl
  have h1:gv g (j5 g (λt=>if o t then 128 else 0) g.T.length) x y=j8 g (j5 g (λt=>if o t then 128 else 0) (tl g x y)) x y (if o (tl g x y)then 128 else 0) Iv:=by
   unfold gv
   rw[if_pos h,Mz g _ _ _ e2]
   show setI _ _ _ _=_
   rw[Kv,e3,e4,fe g _ _ _ (Fah _)]
  rw[h1,zu8]
  have n1:=nb (-1) 0 (by omega) (by decide)
  have n2:=nb (-1) (-1) (by omega) (by decide)
  have n3:=nb 0 (-1) (by omega) (by decide)
  have n4:=nb 1 (-1) (by omega) (by decide)
  rw[Fby]at n1 n3
  rw[<-Fc1]at n1 n2 n3 n4
  rw[<-Fc1]at n2
  rw[n1,n2,n3,n4]
 ·obtain⟨e1,e2,e3,e4⟩:=Co hg h
  have hj:g.T.length-1-(g.T.length-1-tl g x y)=tl g x y:=by omega
  unfold Bt
  generalize hF:j5 g (λt=>if o t then 128 else 0) g.T.length=F
  have nb:∀dx dy:Int,(dy=1\/dy=0/\dx=1)->-1<=dx->gv g (wu g F g.T.length (g.T.length-1-tl g x y)) (x+dx) (y+dy)=gv g (wu g F g.T.length g.T.length) (x+dx) (y+dy):=λdx dy hd hx=>by
   unfold gv
   split
   ·rename_i h2
    obtain⟨f1,f2,f3,f4⟩:=Co hg h2
    have hlt:tl g x y<tl g (x+dx) (y+dy):=by
     have hb:=h.1
     have hb2:=h2.1
     rcases hd with rfl|⟨rfl,rfl⟩
     ·have:g.W*(y+1)=g.W*y+g.W:=by rw[Int.mul_add];omega
      rw[this]at f1
      have hne:(tl g (x+dx) (y+1):Int)≠tl g x y:=λe=>by
       rw[e,e4]at f4
       omega
      omega
     ·rw[Fby]at f1⊢
      omega
    rw[My g _ _ _ _ f2 (by omega) (by omega),My g _ _ _ _ f2 (Fah _) (by omega)]
   ·rfl
  have h1:gv g (wu g F g.T.length g.T.length) x y=j8 g (wu g F g.T.length (g.T.length-1-tl g x y)) x y (gv g F x y) Hl:=by
   unfold gv
   rw[if_pos h,if_pos h,My g _ _ _ _ e2 (Fah _) (by omega)]
   show setI _ _ _ _=_
   rw[hj,Kv,e3,e4,fa g _ _ _ _ (by omega)]
  rw[h1,zu7]
  have n1:=nb 1 0 (by omega) (by decide)
  have n2:=nb 1 1 (by omega) (by decide)
  have n3:=nb 0 1 (by omega) (by decide)
  have n4:=nb (-1) 1 (by omega) (by decide)
  rw[Fby]at n1 n3
  rw[<-Fc1]at n4
  rw[n1,n2,n3,n4]
def sqB(g:Gnd)(f:Nat->Bool)(s:Nat)(x y:Int):Bool:=(List.range (2*s+1)).all λa=>(List.range (2*s+1)).all λb=>decide (onG g (x-s+a) (y-s+b))&&f (tl g (x-s+a) (y-s+b))
theorem zps{f:Nat->Bool}{s:Nat}{x y:Int}:sqB g f s x y=true↔sqP g f s x y:=by
 unfold sqB
 rw[Fca]
 constructor
 ·intro h a b h1 h2 h3 h4
  have h5:=h (a+s).toNat (Fbi.2 (by omega))
  rw[Fca]at h5
  have h6:=h5 (b+s).toNat (Fbi.2 (by omega))
  rw[show x-s+((a+s).toNat:Int)=x+a by omega,show y-s+((b+s).toNat:Int)=y+b by omega,Bool.and_eq_true_iff]at h6
  exact⟨of_decide_eq_true h6.1,h6.2⟩
 ·intro h a ha
  have ha:=Fbi.1 ha
  rw[Fca]
  intro b hb
  have hb:=Fbi.1 hb
  have:=h (a-s) (b-s) (by omega) (by omega) (by omega) (by omega)
  rw[show x-s+(a:Int)=x+(a-s) by omega,show y-s+(b:Int)=y+(b-s) by omega,Bool.and_eq_true_iff]
  exact⟨decide_eq_true this.1,this.2⟩
def zv(g:Gnd)(l:List Bld)(c s:Int)(t:Nat):Bool:=sqB g (yf g l c) s.toNat ((t:Int)%g.W) ((t:Int)/g.W)
theorem zzc(hg:zp g)(l:List Bld)(c:Int){s:Int}(hs:0<=s/\s<=3)(ht:t<g.T.length):decide (s<Bt g (yf g l c) t)=zv g l c s t:=by
 rw[Fc2,decide_eq_true_iff]
 unfold zv
 rw[zps,<-ztp hg _ ht _ (by omega)]
 omega
def oz(g:Gnd)(l:List Bld)(c s:Int):AV:=lst 1 qd (blL g.T.length (zv g l c s))
end
def dirL:List (Int×Int):=[(0,-1),(1,0),(0,1),(-1,0),(1,-1),(1,1),(-1,1),(-1,-1)]
def G5(g:Gnd)(x y:Int)(d:Int×Int):Int:=if onG g (x+d.1) (y+d.2)then x+d.1+g.W*(y+d.2)else -1
def Cx(g:Gnd)(t:Nat):List Int:=dirL.map (G5 g ((t:Int)%g.W) ((t:Int)/g.W))
theorem Oa(g:Gnd)(t:Nat):(Cx g t).length=8:=by simp[Cx,dirL]
theorem zwd{g:Gnd}(hg:zp g)(x y:Int)(d:Int×Int):G5 g x y d=-1/\¬onG g (x+d.1) (y+d.2)\/onG g (x+d.1) (y+d.2)/\G5 g x y d=(tl g (x+d.1) (y+d.2):Nat)/\tl g (x+d.1) (y+d.2)<g.T.length:=by
 unfold G5
 split
 ·rename_i h
  exact .inr ⟨h,(Co hg h).1.symm,(Co hg h).2.1⟩
 ·rename_i h
  exact .inl ⟨rfl,h⟩
theorem zwc{g:Gnd}(hg:zp g){t:Nat}{u:Int}(h:u∈Cx g t):u=-1\/∃m:Nat,u=m/\m<g.T.length:=by
 unfold Cx at h
 obtain⟨d,_,rfl⟩:=Fae.1 h
 rcases zwd hg ((t:Int)%g.W) ((t:Int)/g.W) d with⟨q1,_⟩|⟨_,q2,q3⟩
 ·exact .inl q1
 ·exact .inr ⟨_,q2,q3⟩
section
variable {g:Gnd} {c:Int} {t way goal:Nat}
def z7(g:Gnd)(t way:Nat):Int:=(Cx g t).getD way (-1)
def Ch(g:Gnd)(c:Int)(t:Nat):Int:=Bb c (g.T.getD t 5).toNat
def jo(ok:Nat->Bool)(u:Int):Bool:=decide (0<=u)&&ok u.toNat
def Gr(way:Nat):Nat:=way-4
def Gq(way:Nat):Nat:=(way-3)%4
def qi(g:Gnd)(ok:Nat->Bool)(c:Int)(t way:Nat):Int:=
 if jo ok (z7 g t way)then
  (if way<4 then 5*(Ch g c t+Ch g c (z7 g t way).toNat)
   else if jo ok (z7 g t (Gr way))/\jo ok (z7 g t (Gq way))then 7*(Ch g c t+Ch g c (z7 g t way).toNat)else 0)
 else 0
def vz(g:Gnd)(ok:Nat->Bool)(c:Int)(t u:Nat)(k:Int):Prop:=ok t=true/\t<g.T.length/\∃way,way<8/\z7 g t way=(u:Int)/\ok u=true/\k=qi g ok c t way/\0<k
theorem Pe{ok:Nat->Bool}:∀t u k,vz g ok c t u k->0<k:=λt u k h=>by
 obtain⟨_,_,w,_,_,_,_,h⟩:=h
 exact h
theorem Pu(hg:zp g)(hw:way<8):z7 g t way=-1\/∃u:Nat,z7 g t way=u/\u<g.T.length:=by
 unfold z7
 have h8:way<(Cx g t).length:=by rw[Oa];exact hw
 rw[Fbk,Fab h8]
 exact zwc hg (Faa h8)
theorem Wm{ok:Nat->Bool}{u:Int}(h:jo ok u=true):0<=u/\ok u.toNat=true:=by
 unfold jo at h
 simpa using h
theorem Sd{ok:Nat->Bool}(h:qi g ok c t way≠0):jo ok (z7 g t way)=true:=by
 unfold qi at h
 split at h
 ·assumption
 ·exact absurd rfl h
theorem ybg{ok:Nat->Bool}(ht:ok t=true)(htl:t<g.T.length)(hw:way<8)(h:0<qi g ok c t way):vz g ok c t (z7 g t way).toNat (qi g ok c t way):=by
 obtain⟨h1,h2⟩:=Wm (Sd (g:=g) (ok:=ok) (c:=c) (t:=t) (way:=way) (by omega))
 exact⟨ht,htl,way,hw,by omega,h2,rfl,h⟩
theorem Nv(c:Int)(t:Nat):0<=Bb c t/\Bb c t<=6:=by
 have h:∀l∈[[2,1,3,5,0,0],[2,1,6,0,0,0],[2,1,0,3,2,0]],∀t:Nat,0<=(l:List Int).getD t 0/\(l:List Int).getD t 0<=6:=by
  intro l hl t
  simp only[Fa0,Fbv,or_false]at hl
  by_cases h6:t<6
  ·have:t=0\/t=1\/t=2\/t=3\/t=4\/t=5:=by omega
   rcases hl with rfl|rfl|rfl<;>rcases this with rfl|rfl|rfl|rfl|rfl|rfl<;>decide
  ·rcases hl with rfl|rfl|rfl<;>(rw[Fbk,Fbp (by simp;omega)];decide)
 unfold Bb
 split
 ·exact h _ (by simp) t
 ·split
  ·exact h _ (by simp) t
  ·exact h _ (by simp) t
theorem fj(g:Gnd)(ok:Nat->Bool)(c:Int)(t way:Nat):0<=qi g ok c t way/\qi g ok c t way<=84:=by
 have h1:=Nv c (g.T.getD t 5).toNat
 have h2:=Nv c (g.T.getD (z7 g t way).toNat 5).toNat
 unfold qi Ch
 split
 ·split
  ·omega
  ·split<;>omega
 ·omega
open Classical in
noncomputable def j1(g:Gnd)(ok:Nat->Bool)(c:Int)(goal:Nat):Nat->Int:=
 if ok goal=true then(if h:∃d,FarOK (vz g ok c) goal d then h.choose else λ_=>-1)else λ_=>-1
theorem ya4{ok:Nat->Bool}(hok:ok goal=true){d:Nat->Int}(h:FarOK (vz g ok c) goal d):j1 g ok c goal=d:=by
 unfold j1
 rw[if_pos hok]
 have hx:∃d,FarOK (vz g ok c) goal d:=⟨d,h⟩
 rw[dif_pos hx]
 exact ya2 Pe hx.choose_spec h
theorem ya3{ok:Nat->Bool}(hok:ok goal=false):j1 g ok c goal=λ_=>-1:=by
 unfold j1
 rw[if_neg (by simp[hok])]
noncomputable def xa(g:Gnd)(ok:Nat->Bool)(c:Int)(d:Nat->Int)(t:Nat):Int:=
 if d t<=0 then -1 else match(List.range 8).find? λway=>decide (0<qi g ok c t way/\0<=d (z7 g t way).toNat/\qi g ok c t way+d (z7 g t way).toNat=d t)with
  |some way=>(way:Int)
  |none=>-1
end
section
variable {id P:Int} {i:Nat} {w:Wld}
def allE(f:Int->Int):List Int->Int
 |[]=>0
 |a::l=>if f a=0 then allE f l else f a
theorem Pz{f:Int->Int}:∀{l:List Int},allE f l=0->∀a∈l,f a=0
 |[],_,a,ha=>by cases ha
 |b::l,h,a,ha=>by
  unfold allE at h
  by_cases hb:f b=0
  ·rw[if_pos hb]at h
   rcases Fa0.1 ha with rfl|ha
   ·exact hb
   ·exact Pz h a ha
  grind
def qz(l:List Unt)(id:Int):Option Nat:=l.findIdx? λu=>decide (u.id=id)
def wz:Unt:=⟨0,0,0,(0,0),0,0,0,0,0⟩
theorem Lv{l:List Unt}(h:qz l id=some i):∃hi:i<l.length,l[i].id=id:=by
 unfold qz at h
 rw[Fbn]at h
 grind
theorem ya0{l:List Unt}(h:qz l id=none):∀u∈l,u.id≠id:=by grind[qz]
theorem pt{l:List Unt}(hr:yi l)(hi:i<l.length)(e:l[i].id=id):qz l id=some i:=by
 cases h:qz l id with
 |none=>grind[ya0]
 |some k=>
  obtain⟨hk,e2⟩:=Lv h
  by_cases h1:k<i
  ·have:=Kz hr h1 hi;omega
  ·by_cases h2:i<k
   ·have:=Kz hr h2 hk;omega
   ·rw[show k=i by omega]
def uAt(w:Wld)(id:Int):Unt:=match qz w.U id with|none=>wz|some i=>w.U.getD i wz
def ve(w:Wld)(P id:Int):Int:=match qz w.U id with|none=>3|some i=>if(w.U.getD i wz).owner=P then(if(w.U.getD i wz).inn=0 then 0 else 9)else 6
theorem d9(h:qz w.U id=some i):∃hi:i<w.U.length,w.U[i].id=id/\uAt w id=w.U[i]:=by grind[Lv,uAt]
theorem yd4(h:qz w.U id=none):ve w P id=3/\uAt w id=wz:=by simp_all[ve,uAt]
theorem yd3(h:qz w.U id=some i)(hi:i<w.U.length):ve w P id=if w.U[i].owner=P then(if w.U[i].inn=0 then 0 else 9)else 6:=by grind[ve]
theorem ce(h:ve w P id=0):∃i,∃hi:i<w.U.length,qz w.U id=some i/\w.U[i].id=id/\uAt w id=w.U[i]/\w.U[i].owner=P/\w.U[i].inn=0:=by
 cases hf:qz w.U id with
 |none=>grind[yd4]
 |some i=>
  obtain⟨hi,e,e2⟩:=d9 hf
  rw[yd3 hf hi]at h
  grind
def Sl(u:Unt):Unt:={u with goal:=-1,next:=-1,stuck:=0,state:=0}
def xl(l:List Int)(g:Unt->Unt)(U:List Unt):List Unt:=U.map λu=>if u.id∈l then g u else u
theorem H2(l:List Int)(g:Unt->Unt)(U:List Unt):(xl l g U).length=U.length:=by unfold xl;rw[Fa8]
theorem gj{l:List Int}{g:Unt->Unt}{U:List Unt}(hi:i<U.length):(xl l g U)[i]'(by rw[H2];exact hi)=if U[i].id∈l then g U[i]else U[i]:=by unfold xl;rw[Fb9]
theorem gi{l:List Int}{g:Unt->Unt}(hg:∀u,(g u).id=u.id){U:List Unt}(hi:i<U.length):((xl l g U)[i]'(by rw[H2];exact hi)).id=U[i].id:=by grind[gj]
theorem zqa{l:List Int}{g:Unt->Unt}(hg:∀u,(g u).id=u.id){U:List Unt}(hr:yi U):yi (xl l g U):=by
 intro i hi h0
 have hi2:i<U.length:=by rw[H2]at hi;exact hi
 rw[gi hg hi2,gi hg (show i-1<U.length by omega)]
 exact hr i hi2 h0
def stW(w:Wld)(c:Cmd):Wld:={w with U:=xl c.U Sl w.U}
def stE(w:Wld)(c:Cmd):Int:=allE (ve w c.P) c.U
theorem ztb{α:Type}{f:α->List AV}{k:Nat}(hf:∀x,(f x).length=k){U:List α}(hi:i<U.length)(x:α)(J:List AV):zt ((rws f U).flatten++J) (i*k) (f x)=(rws f (U.set i x)).flatten++J:=by
 have:=fz (j:=0) (ys:=f x) (L:=J) (x':=x) hf hi (by rw[hf];omega) (by simp_all[zt])
 grind
end
section
variable {P:Program} {c:Cfg} {st:Store}
structure SrcOK(P:Program)(st:Store)(k m:Nat)(x:AV)(xs:List AV):Prop where
  out:∀(Oth M:Nat->Nat->Prop) (w:World) (xv:Value),StoreOK st Oth M w->VRel w (λb o=>M b o\/Oth b o) x xv->
    (Builtin.lenOf xv).run P w=.ok m w/\∃new:Array Value,Reads w (λb o=>M b o\/Oth b o) xs new.toList/\(∀v∈new.toList,ql v=true)/\new.size=m*k/\∀w',w'.heap=w.heap->(Builtin.firstCells k m xv).run P w'=.ok new w'
theorem SrcOK.obj{k m o b cp:Nat}{l:List AV}(ho:st.obj b=some (.cells l))(hl:o+m*k<=l.length)(h1:∀y∈(l.drop o).take (m*k),y.one=true):SrcOK P st k m (.s (.slice (some ⟨b,o,none⟩) m cp)) ((l.drop o).take (m*k)):=by
  refine⟨λOth M w xv sto hxv=>?_⟩
  have hxv:=VRel.eq_s hxv
  subst hxv
  obtain⟨cs,e,fr,hb,_,hlen,hrel⟩:=(sto.obj b _ ho).1
  have hreads:Reads w (λb o=>M b o\/Oth b o) ((l.drop o).take (m*k)) ((List.range' 0 (m*k)).map λi=>cs.getD (o+i) undef):=by
    refine⟨by simp;omega,λi x y hx hy=>?_⟩
    have hi:i<m*k:=by grind
    rw[Fbs hi,Fce]at hx
    simp[hi]at hy
    grind
  refine⟨by simp[Builtin.lenOf],((List.range' 0 (m*k)).map λi=>cs.getD (o+i) undef).toArray,by simpa using hreads,by simpa using lu hreads h1,by simp,λw' hw=>?_⟩
  have:=H7 (P:=P) ⟨b,o,none⟩ w' (λi=>cs.getD (o+i) undef) (m*k) 0 #[] (λp hp0 hp=>by
    rw[ki,Wd hw]
    simp only[World.cell?,hb]
    have:o+p<cs.size:=by omega
    simp[this])
  grind[Builtin.firstCells,loadCells]
end
section
variable {P:Program} {c:Cfg} {st:Store}
theorem yd7{e:TypeId}{ie:TI}(hie:c.I e=some ie){a:Option Addr}{x:AV}{m:Nat}{xs:List AV}(hx:SrcOK P st ie.size m x xs)(hroom:room m ie.bytes)(hne:0<m){K:Ja}
    (h2:∀b' cap',Fresh st b'->m<=cap'->cap'<=9223372036854775807->K (.s (.slice (some ⟨b',0,none⟩) m cap')) (st.sO b' (.cells (xs++List.replicate ((cap'-m)*ie.size) .any)))):
    AppX P c st e (.s (.slice a 0 0)) x K:=by
  refine⟨⟨ie,hie⟩,λie' hie' Oth M w sv xv argTypes ty args t sto hs hxv hat ht1 hu hti h0 h1'=>?_⟩
  rw[hie]at hie'
  cases hie'
  have hs:=VRel.eq_s hs
  subst hs
  have A:AppArgs P c argTypes args t e ie a 0 0 xv:=⟨hat,ht1,hu,hti,h0,h1'⟩
  obtain⟨hl1,new,hnew,hone,hnsz,hfc⟩:=hx.out Oth M w xv sto hxv
  obtain⟨newCap,rest,g1,g0,g2,g3⟩:=Kd (old:=#[]) ty A hl1 (hfc w.drew rfl) (by cases a<;>simp[Builtin.firstCells,loadCells,loadCellsFrom]) (by omega) (by simpa using hroom)
  have gd:Grow w w.drew:=Grow.drew w
  have sto1:=sto.grow gd
  obtain⟨f1,f2,f3⟩:=Dr sto1 (#[]++new++rest) e (l:=xs++List.replicate rest.size .any) (by
    rw[Fbf,Fbf]
    refine((show Reads w _ xs ([]++new.toList)from hnew).append ⟨by simp,λi x y hx hy=>?_⟩).keep (gd.keeps _)
    rw[Fbq]at hx
    split at hx
    · cases hx;exact .any _
    · cases hx)
  rw[g2]at f2
  simp only[Fbm]at g1 g3 f2
  exact⟨_,_,g3,_,_,_,h2 _ newCap f1 g1 g0,.s _,f2,(gd.chg M).trans f3⟩
end
instance(a b:Bld):Decidable (Bz a b):=inferInstanceAs (Decidable (_/\_))
def bdB(w:Wld)(c:Cmd):Bld:=⟨w.next,c.P,c.T.tmod w.G.W,c.T.tdiv w.G.W,c.W,c.H⟩
open Classical in
noncomputable def Ns(g:Gnd)(l:List Bld)(b:Bld):Int:=if¬onP g b then 3 else if∃x∈l,Bz x b then 12 else if¬D2 g b then 5 else if 256<=l.length then 4 else 0
def mw(w:Wld)(b:Bld):Prop:=∃t:Nat,((t:Int)<w.G.W*w.G.H/\Aj w.G b t)/\∃u∈w.U,u.inn=0/\wj w.G t u.pos (zq u.kind)
open Classical in
noncomputable def bdE(w:Wld)(c:Cmd):Int:=if¬(0<=c.T/\c.T<w.G.W*w.G.H)then 3 else if 1099511627776<=w.next then 4 else if Ns w.G w.B (bdB w c)=0 then(if mw w (bdB w c)then 5 else 0)else Ns w.G w.B (bdB w c)
def bdW(w:Wld)(c:Cmd):Wld:={w with B:=w.B++[bdB w c],next:=w.next+1}
def ydm:Bld:=⟨0,0,0,0,0,0⟩
def Pa(l:List Bld)(id:Int):Option Nat:=l.findIdx? λb=>decide (b.id=id)
def drE(w:Wld)(c:Cmd):Int:=match Pa w.B c.N with|none=>3|some i=>if(w.B.getD i ydm).owner=c.P then 0 else 6
def drW(w:Wld)(c:Cmd):Wld:=match Pa w.B c.N with|none=>w|some i=>{w with B:=w.B.eraseIdx i}
end Go.V
namespace Go.V
section
variable {r P N:Int} {w:Wld} {k:Nat}
def Dv(m r:Int):Prop:=0<=r/\r<=9223372036854775807/\r*r<=m/\(r=9223372036854775807\/m<(r+1)*(r+1))
theorem zx3{m r':Int}(h:Dv m r)(h':Dv m r'):r=r':=by
 obtain⟨h0,h1,h2,h3⟩:=h
 obtain⟨g0,g1,g2,g3⟩:=h'
 have a:¬r<r':=λhlt=>by
  rcases h3 with h3|h3
  ·omega
  ·have:=Fbj (show r+1<=r' by omega) (show r+1<=r' by omega) (by omega) g0
   omega
 have b:¬r'<r:=λhlt=>by
  rcases g3 with h3|h3
  ·omega
  ·have:=Fbj (show r'+1<=r by omega) (show r'+1<=r by omega) (by omega) h0
   omega
 omega
def Wt(p q:Vc):Prop:=17180131329<=sqr (qo p q)
instance(p q:Vc):Decidable (Wt p q):=inferInstanceAs (Decidable (_<=_))
def Hk(w:Wld)(P N:Int):Int:=if ve w P N=0 then(if xz (uAt w N).kind=0 then 7 else 0)else ve w P N
def Vt(x u:Unt):Int:=if 0<xz u.kind then 7 else if Wt u.pos x.pos then 8 else 0
def ldA(w:Wld)(P N id:Int):Int:=if ve w P id=0 then Vt (uAt w N) (uAt w id)else ve w P id
def ldE(w:Wld)(c:Cmd):Int:=if Hk w c.P c.N=0 then(if allE (ldA w c.P c.N) c.U=0 then(if xz (uAt w c.N).kind<((yd w.U c.N).length:Int)+(c.U.length:Int)then 4 else 0)else allE (ldA w c.P c.N) c.U)else Hk w c.P c.N
def ldU(n:Int)(u:Unt):Unt:={u with pos:=(0,0),goal:=-1,next:=-1,stuck:=0,inn:=n,state:=0}
def ldW(w:Wld)(c:Cmd):Wld:={w with U:=xl c.U (ldU c.N) w.U}
theorem zxt{id:Int}(h:ldA w P N id=0):ve w P id=0/\Vt (uAt w N) (uAt w id)=0:=by
 unfold ldA at h
 grind
theorem yc9(h:Hk w P N=0):ve w P N=0/\xz (uAt w N).kind≠0:=by
 unfold Hk at h
 grind
theorem zvf{n:Int}{q m:Nat}(h0:0<=n)(h1:n<2^m)(h2:n+q*2^m<18446744073709551616):vd .or .u64 (q*2^m) n=q*2^m+n:=by
 obtain⟨a,rfl⟩:=Fb4 h0
 have e:((q:Int)*2^m)=((q*2^m:Nat):Int):=by simp
 have h1':a<2^m:=by exact_mod_cast h1
 rw[e]at h2⊢
 have h3:a+q*2^m<18446744073709551616:=by omega
 rw[(yds (q*2^m) a (by omega) (by omega)).2,Nat.or_comm,zwf a q m h1',Dk (by omega) (by omega)]
 simp
 omega
theorem zp8(hk:k<=62):IntKind.u64.wrap (1*2^(min ((k:Int)).toNat IntKind.u64.bits))=2^k:=by
 have:(min ((k:Int)).toNat IntKind.u64.bits)=k:=by
  show min ((k:Int)).toNat 64=k
  omega
 rw[this,Int.one_mul]
 have h:(2:Int)^k<=2^62:=by exact_mod_cast Nat.pow_le_pow_right (by decide) hk
 grind[Dk]
def Fj(m r:Int)(k:Nat):Prop:=∃q:Nat,r=q*2^k/\r+2^k<=9223372036854775808/\r*r<=m/\(m<(r+2^k)*(r+2^k)\/r+2^k=9223372036854775808)
theorem ztj{m:Int}(hm:0<=m):Fj m 0 63:=⟨0,by simp,by decide,by simpa using hm,.inr (by decide)⟩
theorem ztl{m:Int}(h:Fj m r 0):Dv m r:=by
 obtain⟨q,e,h1,h2,h3⟩:=h
 have e1:(2:Int)^0=1:=rfl
 rw[e1]at h1 h3 e
 exact⟨by omega,by omega,h2,h3.symm.imp (λh=>by omega) id⟩
theorem ztm{m:Int}(h:Fj m r (k+1)):vd .or .u64 r (2^k)=r+2^k/\0<=r/\(0:Int)<2^k/\r+2^k<9223372036854775808:=by
 obtain⟨q,e,h1,h2,h3⟩:=h
 grind[zvf]
theorem ztk{m:Int}(h:Fj m r (k+1))(hn:m<(r+2^k)*(r+2^k)):Fj m r k:=by
 obtain⟨q,e,h1,h2,h3⟩:=h
 have e2:(2:Int)^(k+1)=2*2^k:=by grind
 have h0:(0:Int)<2^k:=Int.pow_pos (by decide)
 rw[e2]at h1
 refine⟨2*q,?_,by omega,h2,.inl hn⟩
 grind
theorem zti{m:Int}(h:Fj m r (k+1))(hn:(r+2^k)*(r+2^k)<=m):Fj m (r+2^k) k:=by
 obtain⟨q,e,h1,h2,h3⟩:=h
 have e2:(2:Int)^(k+1)=2*2^k:=by grind
 have h0:(0:Int)<2^k:=Int.pow_pos (by decide)
 rw[e2]at h1 h3
 have e3:r+2^k+2^k=r+2*2^k:=by omega
 refine⟨2*q+1,?_,by omega,hn,by rw[e3];exact h3⟩
 grind
end
section
variable {t i:Nat} {w:Wld} {tile id:Int} {u:Unt}
def qn(g:Gnd)(t:Nat):Vc:=(tx g t+32768,ty g t+32768)
theorem yc4{g:Gnd}(hg:zp g)(ht:t<g.T.length):(qn g t).ok:=by
 have ha:=qr hg
 have:=R0 hg (t:=t) (by omega)
 unfold qn Vc.ok zy
 dsimp only
 omega
def Fh(w:Wld)(k tile:Int)(n:Nat):List Nat:=zp4 w.G (zv w.G w.B (qa k) (jz k)) (jz k) tile n
theorem ga(g:Gnd)(f:Nat->Bool)(x y k:Int):∀d t,t∈M6 g f x y k d->t<g.T.length/\f t=true
 |0,t,h=>by cases h
 |d+1,t,h=>by
  rcases Fas.1 (show t∈M6 g f x y k d++Sf g f x y k d from h)with h|h
  ·exact ga g f x y k d t h
  ·unfold Sf ij at h
   obtain⟨h1,h2⟩:=Fbt.1 h
   exact⟨Fbi.1 (Fbt.1 h1).1,h2⟩
theorem f9{k:Int}{n:Nat}(h:t∈Fh w k tile n):t<w.G.T.length/\zv w.G w.B (qa k) (jz k) t=true:=ga _ _ _ _ _ _ _ (Fcg h)
open Classical in
noncomputable def Gx(w:Wld)(u:Unt)(tile:Int):Option Nat:=(Fh w u.kind tile 64).find? λt=>decide (xi w u.id u.kind (qn w.G t))
open Classical in
theorem lp(h:Gx w u tile=some t):t∈Fh w u.kind tile 64/\xi w u.id u.kind (qn w.G t):=by
 unfold Gx at h
 grind
def Mr(u:Unt)(p:Vc):Unt:={u with pos:=p,inn:=0}
noncomputable def unl(tile:Int):List Int->Wld->Option Wld
 |[],w=>some w
 |id::l,w=>match qz w.U id with
  |none=>none
  |some i=>match Gx w (w.U.getD i wz) tile with
   |none=>none
   |some t=>unl tile l {w with U:=w.U.set i (Mr (w.U.getD i wz) (qn w.G t))}
theorem du{l:List Int}(hi:i<w.U.length)(hf:qz w.U id=some i)(ho:Gx w w.U[i] tile=none):unl tile (id::l) w=none:=by
 show(match qz w.U id with|none=>none|some i=>_)=_
 grind
theorem dt{l:List Int}(hi:i<w.U.length)(hf:qz w.U id=some i)(ho:Gx w w.U[i] tile=some t):unl tile (id::l) w=unl tile l {w with U:=w.U.set i (Mr w.U[i] (qn w.G t))}:=by
 show(match qz w.U id with|none=>none|some i=>_)=_
 grind
open Classical in
noncomputable def ulE(w:Wld)(c:Cmd):Int:=
 if Hk w c.P c.N=0 then
  (if 0<=c.T/\c.T<w.G.W*w.G.H then
   (if Wt (qn w.G c.T.toNat) (uAt w c.N).pos then 8 else(match unl c.T (yd w.U c.N) w with|none=>5|some _=>0))
  else 3)
 else Hk w c.P c.N
noncomputable def ulW(w:Wld)(c:Cmd):Wld:=(unl c.T (yd w.U c.N) w).getD w
def Hh(L:List Ent)(u:Unt):List Ent:=if u.inn=0 then yz L u.id++[(u.id,u.pos)]else yz L u.id
theorem zvo{L:List Ent}(hF:Bv w L)(hr:yi w.U)(hi:i<w.U.length)(hid:w.U[i].id=u.id):Bv {w with U:=w.U.set i u} (Hh L u):=by
 have old:∀e,e∈yz L u.id↔∃j,∃hj:j<w.U.length,j≠i/\w.U[j].inn=0/\e=(w.U[j].id,w.U[j].pos):=λe=>by
  rw[mem_dropId,hF e]
  constructor
  ·rintro⟨⟨x,hx,h0,rfl⟩,hne⟩
   obtain⟨j,hj,rfl⟩:=Faj hx
   grind
  ·rintro⟨j,hj,hji,h0,rfl⟩
   refine⟨⟨w.U[j],Faa hj,h0,rfl⟩,λe=>hji ?_⟩
   have e:w.U[j].id=u.id:=e
   by_cases h1:j<i
   ·have:=Cp hr h1 hi;omega
   ·by_cases h2:i<j
    ·have:=Cp hr h2 hj;omega
    ·omega
 intro e
 have key:(∃y∈w.U.set i u,y.inn=0/\e=(y.id,y.pos))↔(u.inn=0/\e=(u.id,u.pos))\/∃j,∃hj:j<w.U.length,j≠i/\w.U[j].inn=0/\e=(w.U[j].id,w.U[j].pos):=by
  constructor
  ·rintro⟨y,hy,h0,he⟩
   obtain⟨j,hj,rfl⟩:=Faj hy
   grind
  ·rintro(⟨h0,he⟩|⟨j,hj,hji,h0,he⟩)
   ·exact⟨u,List.mem_set hi u,h0,he⟩
   ·refine⟨w.U[j],?_,h0,he⟩
    have hj2:j<(w.U.set i u).length:=by grind
    have:(w.U.set i u)[j]=w.U[j]:=by grind
    grind
 grind[Hh]
theorem zvp{L:List Ent}(hn:(L.map (·.1)).Nodup)(hF:Bv w L):L.length<=w.U.length:=by
 have:=Fbh (l₂:=w.U.map (·.id)) hn (λid hid=>by
  obtain⟨e,he,rfl⟩:=Fae.1 hid
  obtain⟨u,hu,_,rfl⟩:=(hF e).1 he
  grind)
 grind
theorem ig{U:List Unt}(hr:yi U)(hi:i<U.length)(hid:U[i].id=u.id):yi (U.set i u):=by
 intro j hj h0
 rw[Faw]at hj
 have:=hr j hj h0
 grind
end
section
variable {w:Wld} {k:Nat} {kd:Int}
def mvG(g:Int)(u:Unt):Unt:={u with goal:=g,next:=-1,stuck:=0,state:=1}
def Cy(w:Wld)(c:Cmd)(k:Nat)(kd:Int):Int:=match(Fh w kd c.T c.U.length)[k]? with|some t=>(t:Int)|none=>c.T
def mvL(w:Wld)(c:Cmd):Nat->List Unt
 |0=>w.U
 |k+1=>match qz w.U (c.U.getD k 0)with
  |some i=>(mvL w c k).set i (mvG (Cy w c k (w.U.getD i wz).kind) (w.U.getD i wz))
  |none=>mvL w c k
def mvE(w:Wld)(c:Cmd):Int:=if 0<=c.T/\c.T<w.G.W*w.G.H then allE (ve w c.P) c.U else 3
def mvW(w:Wld)(c:Cmd):Wld:={w with U:=mvL w c c.U.length}
theorem zwg{c:Cmd}{i:Nat}(hk:k<c.U.length)(hf:qz w.U c.U[k]=some i)(hi:i<w.U.length):mvL w c (k+1)=(mvL w c k).set i (mvG (Cy w c k w.U[i].kind) w.U[i]):=by
 show(match qz w.U (c.U.getD k 0)with|some i=>_|none=>_)=_
 rw[show c.U.getD k 0=c.U[k] by simp[Fbk,hk],hf]
 dsimp only
 rw[show w.U.getD i wz=w.U[i] by simp[Fbk,hi]]
theorem Fm(w:Wld)(c:Cmd):∀k,(mvL w c k).length=w.U.length
 |0=>rfl
 |k+1=>by
  show(match qz w.U (c.U.getD k 0)with|some i=>_|none=>_:List Unt).length=_
  cases qz w.U (c.U.getD k 0)with
  |none=>exact Fm w c k
  |some i=>dsimp only;rw[Faw];exact Fm w c k
theorem Vq(w:Wld)(c:Cmd):∀k j,(hj:j<w.U.length)->mvG 0 ((mvL w c k)[j]'(by rw[Fm];exact hj))=mvG 0 w.U[j]
 |0,j,hj=>rfl
 |k+1,j,hj=>by
  have ih:=Vq w c k j hj
  have key:∀L:List Unt,(hL:j<L.length)->L=mvL w c (k+1)->mvG 0 L[j]=mvG 0 w.U[j]:=λL hL e=>by
   have e2:mvL w c (k+1)=(match qz w.U (c.U.getD k 0)with
    |some i=>(mvL w c k).set i (mvG (Cy w c k (w.U.getD i wz).kind) (w.U.getD i wz))
    |none=>mvL w c k):=rfl
   rw[e2]at e
   cases hf:qz w.U (c.U.getD k 0)with
   |none=>rw[hf]at e;subst e;exact ih
   |some i=>
    rw[hf]at e
    obtain⟨hi,_⟩:=Lv hf
    subst e
    rw[Fcm]
    split
    ·rename_i e3;subst e3
     rw[show w.U.getD i wz=w.U[i] by simp[Fbk,hi]]
     rfl
    ·exact ih
  exact key _ (by rw[Fm];exact hj) rfl
theorem Ij{a b:Unt}(h:mvG 0 a=mvG 0 b):a.id=b.id/\a.owner=b.owner/\a.kind=b.kind/\a.pos=b.pos/\a.inn=b.inn:=by
 refine⟨?_,?_,?_,?_,?_⟩
 ·have:=congrArg Unt.id h
  exact this
 ·have:=congrArg Unt.owner h
  exact this
 ·have:=congrArg Unt.kind h
  exact this
 ·have:=congrArg Unt.pos h
  exact this
 ·have:=congrArg Unt.inn h
  exact this
theorem zwh{c:Cmd}{u:Unt}(h:u∈mvL w c k):∃x∈w.U,u.id=x.id/\u.owner=x.owner/\u.kind=x.kind/\u.pos=x.pos/\u.inn=x.inn:=by
 obtain⟨j,hj,rfl⟩:=Faj h
 have hj2:=hj
 rw[Fm]at hj2
 exact⟨w.U[j],Faa hj2,Ij (Vq w c k j hj2)⟩
theorem zwm{c:Cmd}(h:¬(0<=c.T/\c.T<w.G.W*w.G.H)):mvE w c=3:=by unfold mvE;rw[if_neg h]
theorem zwl{c:Cmd}(h:0<=c.T/\c.T<w.G.W*w.G.H):mvE w c=allE (ve w c.P) c.U:=by unfold mvE;rw[if_pos h]
theorem zwi{c:Cmd}(h:k<(Fh w kd c.T c.U.length).length):Cy w c k kd=((Fh w kd c.T c.U.length)[k]:Nat):=by
 unfold Cy
 rw[Fab h]
theorem zwk{c:Cmd}(h:¬k<(Fh w kd c.T c.U.length).length):Cy w c k kd=c.T:=by
 unfold Cy
 rw[Fbp (by omega)]
end
section
variable {w:Wld}
noncomputable def aE(w:Wld)(c:Cmd):Int:=if c.K=1 then spE w c else if c.K=2 then mvE w c else if c.K=3 then stE w c else if c.K=4 then bdE w c else if c.K=5 then drE w c else if c.K=6 then ldE w c else ulE w c
noncomputable def aW(w:Wld)(c:Cmd):Wld:=if c.K=1 then spW w c else if c.K=2 then mvW w c else if c.K=3 then stW w c else if c.K=4 then bdW w c else if c.K=5 then drW w c else if c.K=6 then ldW w c else ulW w c
theorem a1{c:Cmd}(h:c.K=1):aE w c=spE w c/\aW w c=spW w c:=by simp_all[aE,aW]
theorem a2{c:Cmd}(h:c.K=2):aE w c=mvE w c/\aW w c=mvW w c:=by simp_all[aE,aW]
theorem a3{c:Cmd}(h:c.K=3):aE w c=stE w c/\aW w c=stW w c:=by simp_all[aE,aW]
theorem a4{c:Cmd}(h:c.K=4):aE w c=bdE w c/\aW w c=bdW w c:=by simp_all[aE,aW]
theorem a5{c:Cmd}(h:c.K=5):aE w c=drE w c/\aW w c=drW w c:=by simp_all[aE,aW]
theorem a6{c:Cmd}(h:c.K=6):aE w c=ldE w c/\aW w c=ldW w c:=by simp_all[aE,aW]
theorem a7{c:Cmd}(h:c.K=7):aE w c=ulE w c/\aW w c=ulW w c:=by simp_all[aE,aW]
theorem ni{c:Cmd}(h:wk c):c.K=1\/c.K=2\/c.K=3\/c.K=4\/c.K=5\/c.K=6\/c.K=7:=Classical.byContradiction λhn=>by
 have hn:c.K≠1/\c.K≠2/\c.K≠3/\c.K≠4/\c.K≠5/\c.K≠6/\c.K≠7:=by omega
 exact Cmd.ok0 hn.1 hn.2.1 hn.2.2.1 hn.2.2.2.1 hn.2.2.2.2.1 hn.2.2.2.2.2.1 hn.2.2.2.2.2.2 h.1
theorem rd{E:Wld->Cmd->Int}{c:Cmd}(h:doE E w c=0):zx w/\wk c/\c.P<=w.players/\E w c=0:=by
 have hb:¬(¬zx w\/¬wk c\/w.players<c.P):=λhb=>by rw[ybr hb]at h;cases h
 have h1:zx w:=Classical.byContradiction λhh=>hb (.inl hh)
 have h2:wk c:=Classical.byContradiction λhh=>hb (.inr (.inl hh))
 grind[ybq]
theorem dv{tile:Int}:∀(l:List Int) (w x:Wld),yi w.U->unl tile l w=some x->x.tick=w.tick/\x.players=w.players/\x.next=w.next/\x.G=w.G/\x.B=w.B/\∃h:x.U.length=w.U.length,∀j,(hj:j<w.U.length)->x.U[j].id=w.U[j].id/\x.U[j].owner=w.U[j].owner/\x.U[j].kind=w.U[j].kind/\(x.U[j]=w.U[j]\/∃t,t<w.G.T.length/\x.U[j].pos=qn w.G t)
 |[],w,x,hr,h=>by
  have:w=x:=Option.some.inj h
  grind
 |id::l,w,x,hr,h=>by
  cases hf:qz w.U id with
  |none=>
   grind[unl]
  |some i=>
   obtain⟨hi,_⟩:=Lv hf
   cases ho:Gx w w.U[i] tile with
   |none=>rw[du hi hf ho]at h;cases h
   |some t=>
    rw[dt hi hf ho]at h
    have ht:=(f9 (lp ho).1).1
    obtain⟨h0,h1,h2,h3,h4,h5,h6⟩:=dv l _ x (ig hr hi (u:=Mr w.U[i] (qn w.G t)) rfl) h
    grind[Mr]
theorem d0{c:Cmd}(hr:yi w.U):(ulW w c).tick=w.tick/\(ulW w c).players=w.players/\(ulW w c).next=w.next/\(ulW w c).G=w.G/\(ulW w c).B=w.B/\∃h:(ulW w c).U.length=w.U.length,∀j,(hj:j<w.U.length)->(ulW w c).U[j].id=w.U[j].id/\(ulW w c).U[j].owner=w.U[j].owner/\(ulW w c).U[j].kind=w.U[j].kind/\((ulW w c).U[j]=w.U[j]\/∃t,t<w.G.T.length/\(ulW w c).U[j].pos=qn w.G t):=by
 have key:∀x:Wld,ulW w c=x->x.tick=w.tick/\x.players=w.players/\x.next=w.next/\x.G=w.G/\x.B=w.B/\∃h:x.U.length=w.U.length,∀j,(hj:j<w.U.length)->x.U[j].id=w.U[j].id/\x.U[j].owner=w.U[j].owner/\x.U[j].kind=w.U[j].kind/\(x.U[j]=w.U[j]\/∃t,t<w.G.T.length/\x.U[j].pos=qn w.G t):=λx hx=>by
  unfold ulW at hx
  cases h:unl c.T (yd w.U c.N) w with
  |none=>
   grind
  |some y=>
   grind[dv]
 exact key _ rfl
theorem gg{l:List Int}{g:Unt->Unt}{U:List Unt}{u:Unt}(h:u∈xl l g U):∃x∈U,u=x\/u=g x:=by
 unfold xl at h
 grind
theorem yfa{c:Cmd}(hn:∀u∈w.U,u.pos.ok)(h:doE aE w c=0):∀u∈(aW w c).U,u.pos.ok:=by
 obtain⟨hm,hc,hp,he⟩:=rd h
 have z0:Vc.ok (0,0):=by unfold Vc.ok zy;decide
 intro u hu
 rcases ni hc with k|k|k|k|k|k|k
 ·rw[(a1 k).2]at hu
  rcases Fas.1 (show u∈w.U++[spU w c]from hu)with hu|hu
  ·exact hn u hu
  ·rw[Fbx]at hu
   subst hu
   have:=(Cmd.ok1 k).1 hc.1
   have:=this.2
   show Vc.ok (c.X,c.Y)
   grind[jj,Vc.ok,zy]
 ·rw[(a2 k).2]at hu
  obtain⟨x,hx,_,_,_,e,_⟩:=zwh (show u∈mvL w c c.U.length from hu)
  rw[e];exact hn x hx
 ·rw[(a3 k).2]at hu
  obtain⟨x,hx,rfl|rfl⟩:=gg (show u∈xl c.U Sl w.U from hu)
  ·exact hn _ hx
  ·exact hn x hx
 ·rw[(a4 k).2]at hu
  exact hn u hu
 ·grind[a5,drW]
 ·rw[(a6 k).2]at hu
  obtain⟨x,hx,rfl|rfl⟩:=gg (show u∈xl c.U (ldU c.N) w.U from hu)
  ·exact hn _ hx
  ·exact z0
 ·rw[(a7 k).2]at hu
  obtain⟨_,_,_,_,_,hl,hf⟩:=d0 (c:=c) hm.1.2.1
  obtain⟨j,hj,rfl⟩:=Faj hu
  obtain⟨_,_,_,e|⟨t,ht,e⟩⟩:=hf j (by omega)
  ·grind
  ·rw[e];exact yc4 hm.1.1.2.1.1 ht
theorem ybl(w:Wld)(c:Cmd):(drW w c).tick=w.tick/\(drW w c).players=w.players/\(drW w c).next=w.next/\(drW w c).G=w.G/\(drW w c).U=w.U/\(drW w c).B.length<=w.B.length:=by
 unfold drW
 grind
end
instance(g:Gnd)(t:Nat)(p:Vc)(r:Int):Decidable (wj g t p r):=by unfold wj;infer_instance
instance(g:Gnd)(b:Bld):Decidable (D2 g b):=by unfold D2;infer_instance
instance(g:Gnd)(b:Bld):Decidable (onP g b):=by unfold onP;infer_instance
instance(b:Bld):Decidable (y9 b):=by unfold y9;infer_instance
instance(a b:Bld):Decidable (Bz a b):=by unfold Bz;infer_instance
instance(l:List Bld):Decidable (Ni l):=by unfold Ni;infer_instance
instance(l:List Bld):Decidable (Px l):=by unfold Px;infer_instance
instance(g:Gnd):Decidable (zp g):=by unfold zp;infer_instance
instance(g:Gnd)(l:List Bld):Decidable (Hm g l):=by unfold Hm;infer_instance
instance(g:Gnd)(l:List Bld)(c:Int)(p:Vc)(r:Int):Decidable (Ak g l c p r):=by unfold Ak;infer_instance
instance(w:Wld)(id k:Int)(p:Vc):Decidable (xi w id k p):=by unfold xi;infer_instance
instance(k:Int):Decidable (Fu k):=by unfold Fu;infer_instance
instance(g:Gnd)(t:Int):Decidable (wt g t):=by unfold wt;infer_instance
instance(w:Wld)(u:Unt):Decidable (xw w u):=by unfold xw;infer_instance
instance(w:Wld):Decidable (Ln w):=by unfold Ln;infer_instance
instance(l:List Unt):Decidable (yi l):=by unfold yi;infer_instance
instance(w:Wld):Decidable (Kh w):=by unfold Kh;infer_instance
instance(w:Wld)(u:Unt):Decidable (Cq w u):=by unfold Cq;infer_instance
instance(w:Wld):Decidable (zx w):=by unfold zx;infer_instance
instance(x y:Int):Decidable (jj x y):=by unfold jj;infer_instance
instance(t:Int):Decidable (ju t):=by unfold ju;infer_instance
instance(t:Int):Decidable (idP t):=by unfold idP;infer_instance
instance(l:List Int):Decidable (Aw l):=by unfold Aw;infer_instance
instance(w:Wld):Decidable (Ls w):=by unfold Ls;infer_instance
def xp(a b:Vc):Vc:=(yx a.1 b.1,yx a.2 b.2)
def jf(v:Vc):Vc:=(nrm v.1,nrm v.2)
def wy(v:Vc)(k:Nat):Vc:=(v.1.tdiv (2^k:Nat),v.2.tdiv (2^k:Nat))
def Ng(m:Int):Nat->Int->Int
 |0,r=>r
 |b+1,r=>Ng m b (if(r+(2^b:Nat))*(r+(2^b:Nat))<=m then r+(2^b:Nat)else r)
def jb(m:Int):Int:=Ng m 63 0
theorem ztn{m:Int}(hm:0<=m):∀(b:Nat) (r:Int),0<=r->r*r<=m->(r+(2^b:Nat)=9223372036854775808\/m<(r+(2^b:Nat))*(r+(2^b:Nat)))->r+(2^b:Nat)<=9223372036854775808->Dv m (Ng m b r):=by
 intro b
 induction b with
 |zero=>
  intro r h0 h1 h2 h3
  refine⟨h0,?_,h1,?_⟩
  ·simp only[Nat.pow_zero]at h3
   show r<=_
   omega
  ·show r=_\/_
   simp only[Nat.pow_zero]at h2
   rcases h2 with h2|h2
   ·exact .inl (by omega)
   ·exact .inr h2
 |succ b ih=>
  intro r h0 h1 h2 h3
  have hp:(2^(b+1):Nat)=2^b+2^b:=by rw[Nat.pow_succ];omega
  have hq:0<2^b:=Nat.pow_pos (by decide)
  rw[hp]at h2 h3
  generalize hB:2^b=B at*
  show Dv m (Ng m b (if _ then _ else _))
  rw[hB]
  split
  ·rename_i hle
   refine ih (r+(B:Nat)) (by omega) hle ?_ (by omega)
   rw[Int.add_assoc,show((B:Nat):Int)+(B:Nat)=((B+B:Nat):Int) by omega]
   exact h2
  ·rename_i hle
   exact ih r h0 h1 (.inr (by omega)) (by omega)
theorem H8{m:Int}(hm:0<=m):Dv m (jb m):=ztn hm 63 0 (by decide) (by simpa using hm) (.inl (by decide)) (by decide)
theorem ib{m r:Int}(hm:0<=m)(h:Dv m r):r=jb m:=zx3 h (H8 hm)
def D4(c most long:Int):Int:=if c<0 then -((-c)*most/long)else c*most/long
def xo(v:Vc)(most:Int):Vc:=
 if jb (sqr v)<=max most 0 then jf v else(D4 (nrm v.1) (max most 0) (jb (sqr v)),D4 (nrm v.2) (max most 0) (jb (sqr v)))
def Hw(p q:Vc)(speed:Int):Vc:=xo (qo q p) speed
def ky(p:Vc)(r:Int)(q:Vc):Vc:=
 if near p q r then xo (if qo p q=(0,0)then(65536,0)else qo p q) (r-jb (sqr (qo p q)))else(0,0)
instance(w:Wld)(id k:Int)(p:Vc):Decidable (xi w id k p):=by unfold xi Ak;infer_instance
def ko(w:Wld)(u:Unt)(v:Vc):Nat->Nat->Option (Nat×Vc)
 |0,_=>none
 |n+1,k=>if wy v k=(0,0)then none else if xi w u.id u.kind (xp u.pos (wy v k))then some (k,xp u.pos (wy v k))else ko w u v n (k+1)
def yc(w:Wld)(u:Unt):Wld:={w with U:=w.U.map λx=>if x.id=u.id then u else x}
def Gh(w:Wld)(u:Unt)(v:Vc):Int:=match ko w u (jf v) 5 0 with|none=>5|some (k,_)=>(k:Int)
def j4(w:Wld)(u:Unt)(v:Vc):Wld:=match ko w u (jf v) 5 0 with|none=>w|some (_,p)=>yc w {u with pos:=p}
def Fz(w:Wld)(u:Unt):Vc:=w.U.foldl (λv x=>if x.inn=0/\x.id≠u.id then xp v (ky u.pos (zq u.kind+zq x.kind+16384) x.pos)else v) (0,0)
def C9(w:Wld)(u:Unt):Wld:=j4 w u (xo (Fz w u) ((jy u.kind).tdiv 4))
def vx(s:Int)(u:Unt):Unt:={u with goal:=-1,next:=-1,stuck:=0,state:=s}
def okU(w:Wld)(u:Unt)(t:Nat):Bool:=zv w.G w.B (qa u.kind) (jz u.kind) t
def G7(w:Wld)(u:Unt)(own:Nat):Bool:=
 decide (u.next=-1)||decide (u.pos=qn w.G u.next.toNat)|| !okU w u u.next.toNat||(decide (u.next≠own)&& !(Cx w.G own).contains u.next)
noncomputable def Ae(w:Wld)(u:Unt)(own:Nat):Int:=
 if u.pos≠qn w.G own then own else
  (let way:=xa w.G (okU w u) (qa u.kind) (j1 w.G (okU w u) (qa u.kind) u.goal.toNat) own
   if way<0 then -1 else z7 w.G own way.toNat)
def Az(w:Wld)(u:Unt):Wld:=
 if Gh (yc w {u with stuck:=0}) {u with stuck:=0} (Hw u.pos (qn w.G u.next.toNat) (jy u.kind))<5 then j4 (yc w {u with stuck:=0}) {u with stuck:=0} (Hw u.pos (qn w.G u.next.toNat) (jy u.kind))
 else if u.stuck+1=8 then yc w (vx 4 u)else yc w {u with stuck:=u.stuck+1,next:=-1}
noncomputable def Bk(w:Wld)(u:Unt):Wld:=
 if u.pos=qn w.G u.goal.toNat then yc w (vx 2 u)
 else if G7 w u (kr w.G u.pos)then
  (if Ae w u (kr w.G u.pos)<0 then yc w (vx 3 u)else Az w {u with next:=Ae w u (kr w.G u.pos)})
 else Az w u
noncomputable def vn(w:Wld)(u:Unt):Wld:=if u.goal=-1 then C9 w u else Bk w u
theorem tn{g:Gnd}(hg:zp g){l:List Bld}{c c':Int}{p q:Vc}{k k':Int}(hp:Ak g l c p (zq k))(hq:Ak g l c' q (zq k')):vf p (zq k) q (zq k')=vf q (zq k') p (zq k):=by
 have b1:=Lt hg hp
 have b2:=Lt hg hq
 grind[vf,mc,zq]
theorem bh{w w':Wld}{id k:Int}{p:Vc}(hG:w'.G=w.G)(hB:w'.B=w.B)(h:∀v∈w'.U,v.inn=0->v.id≠id->∃x∈w.U,x.inn=0/\x.id≠id/\x.pos=v.pos/\x.kind=v.kind)(hc:xi w id k p):xi w' id k p:=by
 refine⟨by rw[hG,hB];exact hc.1,λv hv h0 hid=>?_⟩
 obtain⟨x,hx,e1,e2,e3,e4⟩:=h v hv h0 hid
 rw[<-e3,<-e4]
 exact hc.2 x hx e1 e2
theorem zyi(l:List Unt)(id:Int):yd l id=((l.map λu=>(u.inn,u.id)).filter λx=>x.1==id).map (·.2):=by
 unfold yd
 rw[List.filter_map,List.map_map]
 rfl
theorem zyk{U U':List Unt}(hl:U'.length=U.length)(h:∀j,(hj:j<U.length)->(U'[j]'(by omega)).inn=U[j].inn/\(U'[j]'(by omega)).id=U[j].id)(id:Int):yd U' id=yd U id:=by grind[zyi,List.ext_getElem,List.length_map]
theorem ii{U U':List Unt}(hl:U'.length=U.length)(h:∀j,(hj:j<U.length)->(U'[j]'(by omega)).id=U[j].id)(hr:yi U):yi U':=by
 intro j hj h0
 rw[hl]at hj
 have:=hr j hj h0
 grind
theorem zyj{l:List Unt}{u:Unt}(hu:u∈l):u.id∈yd l u.inn:=by
 unfold yd
 grind
theorem Vw{w:Wld}(hm:zx w){U:List Unt}(hl:U.length=w.U.length)(h1:∀j,(hj:j<w.U.length)->mvG 0 (U[j]'(by omega))=mvG 0 w.U[j])(h2:∀j,(hj:j<w.U.length)->w.U[j].inn≠0->U[j]'(by omega)=w.U[j])(h3:∀j,(hj:j<w.U.length)->xw w (U[j]'(by omega))):zx {w with U:=U}:=by
 obtain⟨⟨hh,hr,hu⟩,hc,hd⟩:=hm
 have same:=λj hj=>Ij (h1 j hj)
 have back:∀v∈U,∃j,∃hj:j<w.U.length,v=U[j]'(by omega):=λv hv=>by
  obtain⟨j,hj,rfl⟩:=Faj hv
  exact⟨j,by omega,rfl⟩
 have hin:=zyk hl (λj hj=>⟨(same j hj).2.2.2.2,(same j hj).1⟩)
 refine⟨⟨⟨hh.1,⟨hh.2.1.1,hh.2.1.2.1,by show U.length<=_;rw[hl];exact hh.2.1.2.2⟩,hh.2.2⟩,ii hl (λj hj=>(same j hj).1) hr,λv hv=>?_⟩,λv hv h0=>?_,λv hv h0=>?_⟩
 ·obtain⟨j,hj,rfl⟩:=back v hv
  refine⟨h3 j hj,λb hb=>?_⟩
  grind
 ·obtain⟨j,hj,rfl⟩:=back v hv
  obtain⟨e1,_,e3,e4,e5⟩:=same j hj
  rw[e1,e3,e4]
  refine bh (w:=w) rfl rfl (λx hx hx0 hxi=>?_) (hc _ (Faa hj) (by rw[<-e5];exact h0))
  grind
 ·obtain⟨j,hj,rfl⟩:=back v hv
  have e5:=(same j hj).2.2.2.2
  rw[e5]at h0
  rw[h2 j hj h0]
  obtain⟨x,hx,g1,g2,g3,g4⟩:=hd _ (Faa hj) h0
  obtain⟨k,hk,rfl⟩:=Faj hx
  obtain⟨f1,f2,f3,f4,f5⟩:=same k hk
  refine⟨U[k]'(by omega),Faa _,by rw[f1];exact g1,⟨by rw[f5];exact g2.1,by rw[f2];exact g2.2⟩,?_,g4⟩
  grind
theorem pw{q:Unt->Bool}{x:Unt}(hx:q x=false):∀(U:List Unt) (i:Nat),((U.set i x).filter q).length<=(U.filter q).length
 |[],_=>Fah _
 |a::l,0=>by grind
 |a::l,i+1=>by
  rw[List.set_cons_succ,Fcw,Fcw]
  have:=pw hx l i
  split
  ·simp only[Fbd];omega
  ·exact this
theorem m6{w:Wld}(hm:zx w){i:Nat}(hi:i<w.U.length){p:Vc}(hp:xi w w.U[i].id w.U[i].kind p):zx {w with U:=w.U.set i {w.U[i]with pos:=p,inn:=0}}:=by
 obtain⟨⟨hh,hr,hu⟩,hc,hd⟩:=hm
 have hg:=hh.2.1.1
 have hl:(w.U.set i {w.U[i]with pos:=p,inn:=0}).length=w.U.length:=Faw
 have get:∀j,(hj:j<w.U.length)->(w.U.set i {w.U[i]with pos:=p,inn:=0})[j]'(by omega)=if i=j then{w.U[i]with pos:=p,inn:=0}else w.U[j]:=λj hj=>Fcm ..
 have back:∀v∈w.U.set i {w.U[i]with pos:=p,inn:=0},v={w.U[i]with pos:=p,inn:=0}\/∃j,∃hj:j<w.U.length,j≠i/\v=w.U[j]:=λv hv=>by
  obtain⟨j,hj,rfl⟩:=Faj hv
  grind
 have idne:∀j,(hj:j<w.U.length)->j≠i->w.U[j].id≠w.U[i].id:=λj hj hne e=>by
  rcases Nat.lt_trichotomy j i with q|q|q
  ·have:=Cp hr q hi;omega
  ·exact hne q
  ·have:=Cp hr q hj;omega
 have hself:xw w {w.U[i]with pos:=p,inn:=0}/\∀b∈w.B,b.id≠w.U[i].id:=⟨(hu _ (Faa hi)).1,(hu _ (Faa hi)).2⟩
 refine⟨⟨⟨hh.1,⟨hh.2.1.1,hh.2.1.2.1,by show(w.U.set i _).length<=_;rw[hl];exact hh.2.1.2.2⟩,hh.2.2⟩,ig hr hi rfl,λv hv=>?_⟩,λv hv h0=>?_,λv hv h0=>?_⟩
 ·rcases back v hv with rfl|⟨j,hj,_,rfl⟩
  ·exact hself
  ·exact hu _ (Faa hj)
 ·rcases back v hv with rfl|⟨j,hj,hne,rfl⟩
  ·refine bh (w:=w) rfl rfl (λx hx hx0 hxi=>?_) hp
   grind
  ·have hcj:=hc _ (Faa hj) h0
   refine⟨hcj.1,λx hx hx0 hxi=>?_⟩
   rcases back x hx with rfl|⟨k,hk,_,rfl⟩
   ·have:=hp.2 _ (Faa hj) h0 (idne j hj hne)
    rw[tn hg hp.1 hcj.1]at this
    exact this
   ·exact hcj.2 _ (Faa hk) hx0 hxi
 ·rcases back v hv with rfl|⟨j,hj,hne,rfl⟩
  ·exact absurd rfl h0
  obtain⟨x,hx,g1,g2,g3,g4⟩:=hd _ (Faa hj) h0
  obtain⟨k,hk,rfl⟩:=Faj hx
  have hle:((yd (w.U.set i {w.U[i]with pos:=p,inn:=0}) w.U[j].inn).length:Int)<=xz w.U[k].kind:=by grind[pw,yd]
  by_cases e:k=i
  ·subst e
   exact⟨{w.U[k]with pos:=p,inn:=0},List.mem_set hi _,g1,⟨rfl,g2.2⟩,hle,g4⟩
  ·refine⟨w.U[k],?_,g1,g2,hle,g4⟩
   grind
theorem mz{tile:Int}:∀(l:List Int) (w x:Wld),zx w->unl tile l w=some x->zx x
 |[],w,x,hm,h=>by
  have:w=x:=Option.some.inj h
  subst this
  exact hm
 |id::l,w,x,hm,h=>by
  cases hf:qz w.U id with
  |none=>
   grind[unl]
  |some i=>
   obtain⟨hi,_⟩:=Lv hf
   cases ho:Gx w w.U[i] tile with
   |none=>rw[du hi hf ho]at h;cases h
   |some t=>
    rw[dt hi hf ho]at h
    exact mz l _ x (m6 hm hi (lp ho).2) h
section
variable {w:Wld} {i:Nat} {u:Unt} {s:Int}
theorem Gv(hr:yi w.U)(hi:i<w.U.length)(hid:u.id=w.U[i].id):yc w u={w with U:=w.U.set i u}:=by
 unfold yc
 congr 1
 refine Fcn (by simp) λj h1 h2=>?_
 have hj:j<w.U.length:=by simpa using h1
 rw[Fb9,Fcm]
 by_cases e:i=j
 ·subst e
  rw[if_pos hid.symm,if_pos rfl]
 ·rw[if_neg e,if_neg]
  intro hx
  rcases Nat.lt_or_gt_of_ne e with h|h
  ·have:=Kz hr h hj;omega
  ·have:=Kz hr h hi;omega
theorem Np(hr:yi w.U)(hi:i<w.U.length)(hid:u.id=w.U[i].id):∃h2:i<(yc w u).U.length,(yc w u).U[i]=u:=by
 rw[Gv hr hi hid]
 exact⟨by simpa using hi,by simp⟩
theorem Nn(w:Wld)(u:Unt):(yc w u).U.length=w.U.length:=by simp[yc]
theorem i8(hr:yi w.U)(hi:i<w.U.length)(hid:u.id=w.U[i].id){j:Nat}(hj:j<w.U.length)(hij:j≠i):(yc w u).U[j]'(by rw[Nn];exact hj)=w.U[j]:=by
 have h:=Gv hr hi hid
 have:(yc w u).U=w.U.set i u:=by rw[h]
 simp only[this]
 rw[Fcm,if_neg (Ne.symm hij)]
theorem Od(hm:zx w)(hi:i<w.U.length)(h0:w.U[i].inn=0)(h1:mvG 0 u=mvG 0 w.U[i])(h2:xw w u):zx (yc w u):=by
 have hid:u.id=w.U[i].id:=(Ij h1).1
 rw[Gv hm.1.2.1 hi hid]
 have get:∀j,(hj:j<w.U.length)->(w.U.set i u)[j]'(by simpa using hj)=if i=j then u else w.U[j]:=λj hj=>Fcm ..
 refine Vw hm (by simp) (λj hj=>?_) (λj hj hn=>?_) (λj hj=>?_)
 ·rw[get j hj]
  split
  ·rename_i e;subst e;exact h1
  ·rfl
 ·rw[get j hj]
  split
  ·rename_i e;subst e;exact absurd h0 hn
  ·rfl
 ·rw[get j hj]
  split
  ·exact h2
  ·exact(hm.1.2.2 _ (Faa hj)).1
theorem Mu{v:Vc}:∀(n k:Nat) {r:Nat×Vc},ko w u v n k=some r->xi w u.id u.kind r.2/\(k<=r.1/\r.1<k+n)/\r.2=xp u.pos (wy v r.1)
 |0,k,r,h=>by cases h
 |n+1,k,r,h=>by
  unfold ko at h
  split at h
  ·cases h
  ·split at h
   ·cases h
    exact⟨‹_›,by omega,rfl⟩
   ·obtain⟨h1,h2,h3⟩:=Mu n (k+1) h
    exact⟨h1,by omega,h3⟩
theorem m3(hm:zx w)(hi:i<w.U.length)(h0:w.U[i].inn=0)(v:Vc):zx (j4 w w.U[i] v):=by
 unfold j4
 cases h:ko w w.U[i] (jf v) 5 0 with
 |none=>exact hm
 |some r=>
  obtain⟨k,p⟩:=r
  dsimp only
  obtain⟨h1,_,_⟩:=Mu 5 0 h
  rw[Gv (u:={w.U[i]with pos:=p}) hm.1.2.1 hi rfl]
  have:=m6 hm hi h1
  have e:({w.U[i]with pos:=p,inn:=0}:Unt)={w.U[i]with pos:=p}:=by rw[<-h0]
  rw[e]at this
  exact this
theorem Ru(hm:zx w)(hi:i<w.U.length):xw w w.U[i]:=(hm.1.2.2 _ (Faa hi)).1
theorem zaz(h:xw w u)(hs:s=2\/s=3\/s=4):xw w (vx s u):=by
 obtain⟨⟨a1,a2,a3⟩,_,_,_⟩:=h
 refine⟨⟨a1,a2,a3⟩,⟨.inl rfl,.inl rfl,by show(0:Int)<=0/\(0:Int)<8;omega⟩,⟨by show 0<=s/\s<=4;omega,?_⟩,λ_=>⟨rfl,rfl⟩⟩
 show s=1↔(-1:Int)≠-1
 omega
theorem Mq(h:xw w u)(hg:u.goal≠-1){nx st:Int}(hn:wt w.G nx)(hs:0<=st/\st<8):xw w {u with next:=nx,stuck:=st}:=by
 obtain⟨⟨a1,a2,a3⟩,⟨b1,b2,b3⟩,c,d⟩:=h
 exact⟨⟨a1,a2,a3⟩,⟨b1,hn,hs⟩,c,λe=>absurd e hg⟩
theorem Vx(hm:zx w)(hi:i<w.U.length)(h0:w.U[i].inn=0)(hs:s=2\/s=3\/s=4)(hu:mvG 0 u=mvG 0 w.U[i])(hup:xw w u):zx (yc w (vx s u)):=
 Od hm hi h0 (by rw[<-hu];rfl) (zaz hup hs)
theorem m4(hm:zx w)(hi:i<w.U.length)(h0:w.U[i].inn=0)(hu:mvG 0 u=mvG 0 w.U[i])(hup:xw w u)(hg:u.goal≠-1):zx (Az w u):=by
 have hid:u.id=w.U[i].id:=(Ij hu).1
 have hin:u.inn=w.U[i].inn:=(Ij hu).2.2.2.2
 unfold Az
 split
 ·have hp:xw w {u with stuck:=0}:=Mq hup hg hup.2.1.2.1 (by omega)
  have hm2:zx (yc w {u with stuck:=0}):=Od hm hi h0 (by rw[<-hu];rfl) hp
  obtain⟨h2,e⟩:=Np (u:={u with stuck:=0}) hm.1.2.1 hi hid
  have:=m3 hm2 h2 (by rw[e];exact hin.trans h0) (Hw u.pos (qn w.G u.next.toNat) (jy u.kind))
  rw[e]at this
  exact this
 ·split
  ·exact Vx hm hi h0 (.inr (.inr rfl)) hu hup
  ·rename_i h8
   have:=hup.2.1.2.2
   exact Od hm hi h0 (by rw[<-hu];rfl) (Mq hup hg (.inl rfl) (by omega))
theorem ly(hm:zx w)(hi:i<w.U.length)(h0:w.U[i].inn=0):(0<=w.U[i].pos.1/\w.U[i].pos.1<w.G.W*65536)/\(0<=w.U[i].pos.2/\w.U[i].pos.2<w.G.H*65536):=by
 have:=Lt hm.1.1.2.1.1 (hm.2.1 _ (Faa hi) h0).1
 have:=this.1
 have:=this.2
 omega
theorem Vd(hm:zx w)(hi:i<w.U.length)(h0:w.U[i].inn=0):kr w.G w.U[i].pos<w.G.T.length:=(et hm.1.1.2.1.1 (ly hm hi h0)).2.1
theorem R5{g:Gnd}(hg:zp g){t:Nat}(h:t<g.T.length):wt g (t:Int):=.inr (by have:=hg.2.2.1;omega)
theorem zai(g:Gnd)(ok:Nat->Bool)(c:Int)(d:Nat->Int)(t:Nat):xa g ok c d t=-1\/∃way:Nat,way<8/\xa g ok c d t=way/\0<qi g ok c t way:=by
 unfold xa
 split
 ·exact .inl rfl
 ·cases h:(List.range 8).find? λway=>decide (0<qi g ok c t way/\0<=d (z7 g t way).toNat/\qi g ok c t way+d (z7 g t way).toNat=d t)with
  |none=>exact .inl rfl
  |some way=>
   have h1:=Fdq h
   have h2:=List.find?_some h
   exact .inr ⟨way,by simpa using h1,rfl,(of_decide_eq_true h2).1⟩
theorem Vn(hg:zp w.G){own:Nat}(ho:own<w.G.T.length):wt w.G (Ae w u own):=by
 unfold Ae
 split
 ·exact R5 hg ho
 ·dsimp only
  rcases zai w.G (okU w u) (qa u.kind) (j1 w.G (okU w u) (qa u.kind) u.goal.toNat) own with h|⟨way,h1,h2,_⟩
  ·rw[h,if_pos (by decide)];exact .inl rfl
  ·rw[h2,if_neg (by omega)]
   rcases Pu hg (t:=own) (way:=way) h1 with h3|⟨x,h3,h4⟩
   ·rw[Fbb,h3];exact .inl rfl
   ·rw[Fbb,h3];exact R5 hg h4
theorem zw8(hm:zx w)(hi:i<w.U.length)(h0:w.U[i].inn=0)(hg:w.U[i].goal≠-1):zx (Bk w w.U[i]):=by
 have hu:=Ru hm hi
 unfold Bk
 split
 ·exact Vx hm hi h0 (.inl rfl) rfl hu
 ·split
  ·split
   ·exact Vx hm hi h0 (.inr (.inl rfl)) rfl hu
   ·exact m4 hm hi h0 (u:={w.U[i]with next:=Ae w w.U[i] (kr w.G w.U[i].pos)}) rfl (Mq hu hg (Vn hm.1.1.2.1.1 (Vd hm hi h0)) hu.2.1.2.2) hg
  ·exact m4 hm hi h0 rfl hu hg
theorem zw0(hm:zx w)(hi:i<w.U.length)(h0:w.U[i].inn=0):zx (vn w w.U[i]):=by
 unfold vn
 split
 ·exact m3 hm hi h0 _
 ·exact zw8 hm hi h0 ‹_›
end
structure MayF(w:Wld):Prop where
 hg:zp w.G
 hB:w.B.length<=256
 hU:w.U.length<=4096
 hT:w.G.T.length<=16384
 hb:∀b∈w.B,y9 b/\onP w.G b
 hk:∀u∈w.U,Fu u.kind
 hr:yi w.U
 hn1:1<=w.next
 hn2:w.next<=1099511627776
theorem Ds{w:Wld}(h:zx w):MayF w:=by
 obtain⟨⟨hh,hok⟩,_⟩:=h
 have hbl:=hh.2.1.2.1
 have ha:=qr hh.2.1.1
 exact⟨hh.2.1.1,hbl.1,hh.2.1.2.2,by omega,λb hb=>⟨(hbl.2.2.1 b hb).1,(hbl.2.2.1 b hb).2.1⟩,λu hu=>(hok.2 u hu).1.1.2.2,hok.1,hh.1.2.2.1,hh.1.2.2.2⟩
theorem MayF.fits{w:Wld}(h:MayF w):w.fits:=⟨by unfold Gnd.fits;have:=h.hT;omega,by have:=h.hB;omega,by have:=h.hU;omega⟩
theorem nt(k:Int):0<=jz k/\jz k<=3:=by unfold jz;split<;>decide
end Go.V
