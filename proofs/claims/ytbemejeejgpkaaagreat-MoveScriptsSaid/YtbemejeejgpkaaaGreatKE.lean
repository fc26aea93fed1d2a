/- Ground of laws of thronglaw24: contracts and plain lemmas; no condition beyond the row's own. -/
import Derived.Test.YtbemejeejgpkaaaGreatKD
set_option linter.unusedSimpArgs false
set_option linter.unusedVariables false
namespace Go.V
section
variable {r:Int} {g:Store}
theorem rr{x:Int}(hx:0<=x)(hr:0<r)(h:x*x<r*r):x<r:=by
 by_cases h1:x<r
 ·exact h1
 ·have h2:r<=x:=by omega
  have h3:r*r<=x*x:=Fbg h2 h2 (by omega) hx
  omega
theorem zaa{a b:Int}(ha:yl a)(hb:yl b)(hr:0<r)(hr2:r<=9223372036854775807)(h:asz (yz a b)<r):yz a r<=nrm b/\nrm b<=qf a r:=by
 have h1:=vf ha
 have h2:=vf hb
 have h3:=j3 (n:=-nrm b) (by omega)
 have h4:=j3 (n:=r) (by omega)
 have h5:=j3 (n:=-r) (by omega)
 have h6:=Ld a b
 have h7:=j3 (n:=yz a b) (by omega)
 unfold asz at h
 rw[h7]at h
 unfold yz qf at*
 rw[h3]at h
 rw[h4,h5]
 unfold jk at*
 generalize nrm a=x at*
 generalize nrm b=y at*
 refine⟨?_,?_⟩<;>(repeat' split)<;>(repeat' split at h)<;>omega
theorem zxl{q p:Vc}(hq:q.ok)(hp:p.ok)(hr:0<r)(hr2:r<=9223372036854775807)(h:near q p r=true):
  ((zz (yz q.1 r,yz q.2 r)).1<=(zz p).1/\(zz p).1<=(zz (qf q.1 r,qf q.2 r)).1)/\((zz (yz q.1 r,yz q.2 r)).2<=(zz p).2/\(zz p).2<=(zz (qf q.1 r,qf q.2 r)).2):=by
 unfold near at h
 have h:=(of_decide_eq_true h).2
 have e1:=Hv (Hk q.1 p.1)
 have e2:=Hv (Hk q.2 p.2)
 have m1:0<=asz (yz q.1 p.1)*asz (yz q.1 p.1):=Fax e1.1 e1.1
 have m2:0<=asz (yz q.2 p.2)*asz (yz q.2 p.2):=Fax e2.1 e2.1
 have h':asz (yz q.1 p.1)*asz (yz q.1 p.1)+asz (yz q.2 p.2)*asz (yz q.2 p.2)<r*r:=h
 have d1:=zaa hq.1 hp.1 hr hr2 (rr e1.1 hr (by omega))
 have d2:=zaa hq.2 hp.2 hr hr2 (rr e2.1 hr (by omega))
 have n1:=j3 (Ld q.1 r).1
 have n2:=j3 (Ld q.2 r).1
 have n3:=j3 (Iy q.1 r).1
 have n4:=j3 (Iy q.2 r).1
 unfold zz
 simp only[n1,n2,n3,n4]
 omega
theorem zus{q:Vc}(hq:q.ok)(hr:0<r)(hr2:r<=9223372036854775807):
  (zz (yz q.1 r,yz q.2 r)).1<=(zz (qf q.1 r,qf q.2 r)).1/\(zz (yz q.1 r,yz q.2 r)).2<=(zz (qf q.1 r,qf q.2 r)).2:=by
 have key:∀a:Int,yl a->yz a r<=qf a r:=by
  intro a ha
  have h1:=vf ha
  have h4:=j3 (n:=r) (by omega)
  have h5:=j3 (n:=-r) (by omega)
  unfold yz qf
  rw[h4,h5]
  unfold jk
  generalize nrm a=x at*
  (repeat' split)<;>omega
 have k1:=key q.1 hq.1
 have k2:=key q.2 hq.2
 have n1:=j3 (Ld q.1 r).1
 have n2:=j3 (Ld q.2 r).1
 have n3:=j3 (Iy q.1 r).1
 have n4:=j3 (Iy q.2 r).1
 unfold zz
 simp only[n1,n2,n3,n4]
 omega
theorem za0{p:Vc}(h:p.ok):(-70368744177664<=(zz p).1/\(zz p).1<=70368744177664)/\(-70368744177664<=(zz p).2/\(zz p).2<=70368744177664):=by
 have h1:=vf h.1
 have h2:=vf h.2
 unfold zz
 simp only
 omega
def NearIn(l:List Ent)(q:Vc)(r:Int)(D:Ent->Prop)(acc:List Int):Prop:=acc.Nodup/\∀id,id∈acc↔∃e∈l,e.1=id/\near q e.2 r=true/\D e
theorem NearIn.congr{l:List Ent}{q:Vc}{D D':Ent->Prop}{acc:List Int}(h:NearIn l q r D acc)(hD:∀e∈l,near q e.2 r=true->(D e↔D' e)):NearIn l q r D' acc:=by
 refine⟨h.1,λid=>?_⟩
 rw[h.2 id]
 constructor
 ·rintro⟨e,h1,h2,h3,h4⟩;exact⟨e,h1,h2,h3,(hD e h1 h3).1 h4⟩
 ·rintro⟨e,h1,h2,h3,h4⟩;exact⟨e,h1,h2,h3,(hD e h1 h3).2 h4⟩
theorem NearIn.len{l:List Ent}{q:Vc}{D:Ent->Prop}{acc:List Int}(h:NearIn l q r D acc):acc.length<=l.length:=by
 have:=Fbz (l₂:=l.map (·.1)) h.1 (λid hid=>by
  obtain⟨e,h1,h2,_⟩:=(h.2 id).1 hid
  exact Fae.2 ⟨e,h1,h2⟩)
 simpa using this
theorem NearIn.step{l:List Ent}(hn:(l.map (·.1)).Nodup){q:Vc}{D:Ent->Prop}{acc:List Int}(h:NearIn l q r D acc){e:Ent}(he:e∈l)(hD:¬D e):NearIn l q r (λe'=>D e'\/e'=e) (if near q e.2 r then acc++[e.1]else acc):=by
 cases hnr:near q e.2 r with
 |false=>
  refine h.congr λe' he' hn'=>⟨.inl,λhh=>hh.elim id λhh=>?_⟩
  rw[hh,hnr]at hn';cases hn'
 |true=>
  refine⟨?_,λid=>?_⟩
  ·rw[if_pos rfl,Fdb]
   refine⟨h.1,by simp,λa ha b hb=>?_⟩
   simp at hb
   subst hb
   intro hab
   subst hab
   obtain⟨e',h1,h2,_,h4⟩:=(h.2 _).1 ha
   rw[Nh hn he h1 h2]at h4
   exact hD h4
  ·rw[if_pos rfl,Fan,h.2 id]
   constructor
   ·rintro(⟨e',h1,h2,h3,h4⟩|h1)
    ·exact⟨e',h1,h2,h3,.inl h4⟩
    ·simp at h1;exact⟨e,he,h1.symm,hnr,.inr rfl⟩
   ·rintro⟨e',h1,h2,h3,h4|h4⟩
    ·exact .inl ⟨e',h1,h2,h3,h4⟩
    ·subst h4;exact .inr (by simp[h2])
theorem zz7{l:List Ent}{G:List Grp}(h:Inv l G):G.length<=l.length:=by
 have h1:(G.map λg=>g.ns.headD 0).Nodup:=by
  unfold List.Nodup
  rw[List.pairwise_map]
  have n2:=h.n2
  unfold List.Nodup at n2
  rw[List.pairwise_map]at n2
  have key:∀g∈G,g.ns.headD 0∈g.ns:=λg hg=>by
   have:=(h.s g hg).2
   cases hns:g.ns with
   |nil=>exact absurd hns this
   |cons a t=>simp
  rw[Fct]at n2⊢
  intro i j hi hj hij he
  obtain⟨e1,q1,q2,q3⟩:=(h.m1 G[i] (Faa hi) _).1 (key _ (Faa hi))
  obtain⟨e2,q4,q5,q6⟩:=(h.m1 G[j] (Faa hj) _).1 (key _ (Faa hj))
  refine n2 i j hi hj hij ?_
  rw[<-q3,<-q6,Nh h.n1 q4 q1 (by rw[q2,q5,he])]
 have:=Fbz (l₂:=l.map (·.1)) h1 (λid hid=>by
  obtain⟨g,hg,rfl⟩:=Fae.1 hid
  have:=(h.s g hg).2
  cases hns:g.ns with
  |nil=>exact absurd hns this
  |cons a t=>
   obtain⟨e,q1,q2,_⟩:=(h.m1 g hg a).1 (by rw[hns];simp)
   exact Fae.2 ⟨e,q1,by simpa using q2⟩)
 simpa using this
theorem zx7{xs:List Int}(h:xs.Nodup):(xs.mergeSort λx y=>decide (x<=y)).Pairwise (·<·)/\∀n,n∈(xs.mergeSort λx y=>decide (x<=y))↔n∈xs:=by
 have h1:=List.pairwise_mergeSort (le:=λx y:Int=>decide (x<=y)) (λa b c h1 h2=>by simp at*;omega) (λa b=>by simp;omega) xs
 have h2:(xs.mergeSort λx y=>decide (x<=y)).Nodup:=(List.mergeSort_perm xs _).nodup_iff.2 h
 refine⟨?_,λn=>List.mem_mergeSort⟩
 have h3:=h1.and h2
 exact h3.imp λ⟨h4,h5⟩=>by simp at h4;omega
def Oa(l:List Ent)(q:Vc)(r:Int)(ns:List Int):Prop:=ns.Pairwise (·<·)/\∀id,id∈ns↔∃e∈l,e.1=id/\near q e.2 r=true
theorem Bf{a:Store}{b:Nat}{x:AObj}(h:¬g.has b):(a.un g).sO b x=(a.sO b x).un g:=by
 obtain⟨h1,h2⟩:=vx h
 unfold Store.un Store.sO
 congr
 funext i
 by_cases hi:i=b
 ·subst hi;simp[h1]
 ·simp[qc hi]
theorem Br{a:Store}{b:Nat}{x:AObj}(h:zl a g)(hb:¬g.has b):zl (a.sO b x) g:=by
 intro i hi hg
 rcases has_setObj_iff.1 hi with rfl|hi
 ·exact hb hg
 ·exact h i hi hg
theorem ycx{a:Store}{b:Nat}{x y:AObj}(h:zl (a.sO b x) g):zl (a.sO b y) g/\¬g.has b:=by
 have h1:¬g.has b:=h b (has_setObj_iff.2 (.inl rfl))
 refine⟨λi hi hg=>?_,h1⟩
 rcases has_setObj_iff.1 hi with rfl|hi
 ·exact h1 hg
 ·exact h i (has_setObj_iff.2 (.inr hi)) hg
theorem tw{l:List Ent}(hn:(l.map (·.1)).Nodup){e:Ent}(he:e∈l):l.find? (Ad e.1)=some e:=by
 cases hf:l.find? (Ad e.1)with
 |none=>
  have:=Fcl.1 hf e he
  simp[Ad]at this
 |some e'=>
  obtain⟨h1,h2⟩:=Np hf
  have:e'.1=e.1:=(by simpa [Ad]using h2:e.1=e'.1).symm
  rw[Nh hn he h1 this]
end
def Ay:Option Nat->Int|some i=>(i:Int)|none=>-1
theorem gk(a b c:Store):(a.un b).un c=a.un (b.un c):=by
 unfold Store.un
 congr<;>funext i
 ·show(match c.obj i with|some x=>some x|none=>match b.obj i with|some x=>some x|none=>a.obj i)=(match(match c.obj i with|some x=>some x|none=>b.obj i)with|some x=>some x|none=>a.obj i)
  cases c.obj i<;>rfl
 ·show(match c.tok i with|some x=>some x|none=>match b.tok i with|some x=>some x|none=>a.tok i)=(match(match c.tok i with|some x=>some x|none=>b.tok i)with|some x=>some x|none=>a.tok i)
  cases c.tok i<;>rfl
theorem wu(a:Store):Store.empty.un a=a:=by
 unfold Store.un Store.empty
 congr<;>funext i
 ·cases a.obj i<;>rfl
 ·cases a.tok i<;>rfl
theorem disj_un{a b c:Store}:zl (a.un b) c↔zl a c/\zl b c:=
 ⟨λh=>⟨λi h1=>h i (un_has.2 (.inl h1)),λi h1=>h i (un_has.2 (.inr h1))⟩,λ⟨h1,h2⟩ i h=>(un_has.1 h).elim (h1 i) (h2 i)⟩
theorem zdi{a g:Store}:(a.un g).Le g:=⟨λb y h=>⟨y,zg h,AObj.le_refl y⟩,λb x h=>Gx h⟩
theorem AWp.leS{P:Program}{c:Cfg}{code:Code}{Q:Exit->Fr->Store->Prop}{A:Fr}{st st':Store}(hle:st.Le st')(h:AWp P c code Q A st'):AWp P c code Q A st:=by
 refine⟨λOth M a w ⟨β,s⟩=>h.out Oth M a w ⟨β,{tsz:=s.tsz,dfr:=s.dfr,tm:=s.tm,bx:=s.bx,inj:=s.inj,sep:=λk b hk hb=>s.sep k b hk ?_,sto:=s.sto.weakenLe hle}⟩⟩
 rcases hb with hb|hb
 ·cases hx:st'.obj b with
  |none=>exact absurd hx hb
  |some y=>
   obtain⟨x,h1,_⟩:=hle.obj b y hx
   exact .inl (by rw[h1];simp)
 ·cases hx:st'.tok b with
  |none=>exact absurd hx hb
  |some y=>exact .inr (by rw[hle.tok b y hx];simp)
theorem xp{st:Store}{x:AV}{Oth M:Nat->Nat->Prop}{w:World}{v:Value}(h:VRel w (λb o=>M b o\/Oth b o) x v):VRel w (λb o=>(M b o\/Oth b o)/\st.obj b=none) x v:=
 h.mono λ_ _ h=>h.1
structure Bld where
 id:Int
 owner:Int
 x:Int
 y:Int
 w:Int
 h:Int
 deriving DecidableEq
structure Unt where
 id:Int
 owner:Int
 kind:Int
 pos:Vc
 goal:Int
 next:Int
 stuck:Int
 inn:Int
 state:Int
 deriving DecidableEq
structure Wld where
 tick:Int
 players:Int
 next:Int
 G:Gnd
 B:List Bld
 U:List Unt
 deriving DecidableEq
def zk(b:Bld):List AV:=[int b.id,int b.owner,int b.x,int b.y,int b.w,int b.h]
def zf(u:Unt):List AV:=[int u.id,int u.owner,int u.kind,int u.pos.1,int u.pos.2,int u.goal,int u.next,int u.stuck,int u.inn,int u.state]
def zt(w:Wld):List AV:=[int w.tick,int w.players,int w.next,int w.G.W,int w.G.H,xu w.G.T,lst 6 zk w.B,lst 10 zf w.U]
def Wld.fits(w:Wld):Prop:=w.G.fits/\w.B.length<=1000000000000/\w.U.length<=1000000000000
def zv(k:Int):Int:=if k=0 then 24576 else if k=2 then 81920 else 32768
def qs(k:Int):Int:=if k=0 then 16384 else if k=1 then 24576 else if k=2 then 8192 else 16384
def yf(k:Int):Int:=if k=0 then 0 else if k=1 then 1 else if k=2 then 0 else 2
def qg(k:Int):Int:=if k=2 then 1 else 0
def jg(k:Int):Int:=if k=0 then 0 else if k=1 then 0 else if k=2 then 0 else 4
def Cb(k:Int):List AV:=[int (zv k),int (qs k),int (yf k),int (qg k),int (jg k)]
def jv(k:Int):Prop:=0<=k/\k<=3
def wz(c:Int)(t:Nat):Int:=((if c=0 then [2,1,3,5,0,0]else if c=1 then [2,1,6,0,0,0]else [2,1,0,3,2,0]):List Int).getD t 0
def yg(b:Bld):Prop:=(1<=b.id/\b.id<=1099511627776)/\(1<=b.owner/\b.owner<=8)/\(1<=b.w/\b.w<=4)/\(1<=b.h/\b.h<=4)
def onP(g:Gnd)(b:Bld):Prop:=(0<=b.x/\b.x+b.w<=g.W)/\(0<=b.y/\b.y+b.h<=g.H)
def jj(g:Gnd)(b:Bld)(t:Nat):Prop:=(b.x<=(t:Int)%g.W/\(t:Int)%g.W<b.x+b.w)/\(b.y<=(t:Int)/g.W/\(t:Int)/g.W<b.y+b.h)
instance(g:Gnd)(b:Bld)(t:Nat):Decidable (jj g b t):=inferInstanceAs (Decidable (_/\_))
def C8(g:Gnd)(b:Bld):Prop:=∀t,t<g.T.length->jj g b t->(g.T.getD t 0).toNat<=1
def Ah(a b:Bld):Prop:=(a.x<b.x+b.w/\b.x<a.x+a.w)/\(a.y<b.y+b.h/\b.y<a.y+a.h)
def Mo(l:List Bld):Prop:=∀j,(h:j<l.length)->0<j->(l[j-1]'(by omega)).id<l[j].id
def yq(l:List Unt):Prop:=∀j,(h:j<l.length)->0<j->(l[j-1]'(by omega)).id<l[j].id
def R8(l:List Bld):Prop:=∀j,(h:j<l.length)->∀i,(hi:i<j)->¬Ah l[j] (l[i]'(by omega))
def Gq(g:Gnd)(l:List Bld):Prop:=l.length<=256/\Mo l/\(∀b∈l,yg b/\onP g b/\C8 g b)/\R8 l
def qh(g:Gnd)(l:List Bld)(t:Nat):Bool:=l.any λb=>decide (jj g b t)
def yi(g:Gnd)(l:List Bld)(c:Int)(t:Nat):Bool:= !qh g l t&&decide (0<wz c (g.T.getD t 0).toNat)
def tx(g:Gnd)(t:Nat):Int:=(t:Int)%g.W*65536
def ty(g:Gnd)(t:Nat):Int:=(t:Int)/g.W*65536
def off(x lo:Int):Int:=if x<lo then lo-x else if x>lo+65536 then x-(lo+65536)else 0
def jh(g:Gnd)(t:Nat)(p:Vc)(r:Int):Prop:=off p.1 (tx g t)*off p.1 (tx g t)+off p.2 (ty g t)*off p.2 (ty g t)<r*r
instance(g:Gnd)(t:Nat)(p:Vc)(r:Int):Decidable (jh g t p r):=inferInstanceAs (Decidable (_<_))
def Az(g:Gnd)(l:List Bld)(c:Int)(p:Vc)(r:Int):Prop:=
 ((r<=p.1/\p.1+r<=g.W*65536)/\(r<=p.2/\p.2+r<=g.H*65536))/\∀t,t<g.T.length->yi g l c t=false->¬jh g t p r
def kx(p:Vc)(r:Int)(q:Vc)(s:Int):Bool:= !near p q (r+s)
def qa(w:Wld)(id k:Int)(p:Vc):Prop:=
 Az w.G w.B (yf k) p (zv k)/\∀u∈w.U,u.inn=0->u.id≠id->kx p (zv k) u.pos (zv u.kind)=true
def wg(g:Gnd)(t:Int):Prop:=t=-1\/(0<=t/\t<g.W*g.H)
def jq(w:Wld)(u:Unt):Prop:=
 ((1<=u.id/\u.id<w.next)/\(1<=u.owner/\u.owner<=w.players)/\jv u.kind)/\(wg w.G u.goal/\wg w.G u.next/\(0<=u.stuck/\u.stuck<8))∧
 ((0<=u.state/\u.state<=4)/\(u.state=1↔u.goal≠-1))/\(u.goal=-1->u.next=-1/\u.stuck=0)
def Hh(w:Wld):Prop:=
 ((0<=w.tick/\w.tick<=1099511627776)/\(1<=w.players/\w.players<=8)/\(1<=w.next/\w.next<=1099511627776))∧
 (zr w.G/\Gq w.G w.B/\w.U.length<=4096)/\∀b∈w.B,b.owner<=w.players/\b.id<w.next
def H4(w:Wld):Prop:=yq w.U/\∀u∈w.U,jq w u/\∀b∈w.B,b.id≠u.id
def z8(l:List Unt)(id:Int):List Int:=(l.filter λu=>u.inn==id).map (·.id)
def Aq(w:Wld)(u:Unt):Prop:=
 ∃x∈w.U,x.id=u.inn/\(x.inn=0/\x.owner=u.owner)/\((z8 w.U u.inn).length:Int)<=jg x.kind/\jg u.kind=0/\u.pos=(0,0)/\u.goal=-1/\u.state=0
def z6(w:Wld):Prop:=(Hh w/\H4 w)/\(∀u∈w.U,u.inn=0->qa w u.id u.kind u.pos)/\∀u∈w.U,u.inn≠0->Aq w u
theorem zbc(a b:Int):(a==b)=decide (a=b):=by rw[Fbq];simp
theorem qe{g:Gnd}(h:zr g):1<=g.W*g.H/\g.W*g.H<=16384/\(g.T.length:Int)=g.W*g.H:=by
 obtain⟨⟨h1,h2⟩,⟨h3,h4⟩,h5,_⟩:=h
 have:1*1<=g.W*g.H:=Fbg h1 h3 (by decide) (by omega)
 have:g.W*g.H<=128*128:=Fbg h2 h4 (by omega) (by decide)
 omega
def Nk(w:Wld):Prop:=(w.G.T.length>700\/w.B.length>30)\/w.U.length>30
section
variable {x r w lo a:Int} {g:Gnd} {t:Nat}
theorem fi{a b:Vc}(h1:-2305843009213693952<=a.1/\a.1<=2305843009213693952)(h2:-2305843009213693952<=a.2/\a.2<=2305843009213693952)(h3:-2305843009213693952<=b.1/\b.1<=2305843009213693952)(h4:-2305843009213693952<=b.2/\b.2<=2305843009213693952):
  qp a b=(a.1-b.1,a.2-b.2):=by
 have n:∀x:Int,-4611686018427387904<=x/\x<=4611686018427387904->nrm x=x:=λx hx=>by unfold nrm;rw[if_neg (by omega)]
 have c:∀x:Int,-4611686018427387904<=x/\x<=4611686018427387904->jk x=x:=λx hx=>by unfold jk;rw[if_neg (by omega),if_neg (by omega)]
 unfold qp yz qf
 rw[n a.1 (by omega),n b.1 (by omega),n a.2 (by omega),n b.2 (by omega),n (-b.1) (by omega),n (-b.2) (by omega),c _ (by omega),c _ (by omega)]
 rfl
theorem R6(h:-4611686018427387904<=x/\x<=4611686018427387904):asz x*asz x=x*x:=by
 have n:nrm x=x:=by unfold nrm;rw[if_neg (by omega)]
 unfold asz
 rw[n]
 split
 ·rw[Fd8]
 ·rfl
theorem Wp{a b:Vc}(h1:-2305843009213693952<=a.1/\a.1<=2305843009213693952)(h2:-2305843009213693952<=a.2/\a.2<=2305843009213693952)(h3:-2305843009213693952<=b.1/\b.1<=2305843009213693952)(h4:-2305843009213693952<=b.2/\b.2<=2305843009213693952)(hr:0<r):
  near a b r=decide ((a.1-b.1)*(a.1-b.1)+(a.2-b.2)*(a.2-b.2)<r*r):=by
 unfold near sqr
 rw[fi h1 h2 h3 h4,R6 (by dsimp only;omega),R6 (by dsimp only;omega)]
 rw[Fbq,decide_eq_true_iff,decide_eq_true_iff]
 exact⟨λh=>h.2,λh=>⟨hr,h⟩⟩
theorem Bw(hg:zr g){t:Nat}(ht:(t:Int)<g.W*g.H):(0<=(t:Int)%g.W/\(t:Int)%g.W<g.W)/\(0<=(t:Int)/g.W/\(t:Int)/g.W<g.H):=by
 obtain⟨⟨h1,h2⟩,⟨h3,h4⟩,_⟩:=hg
 have h5:=Fco (t:Int) (show g.W≠0 by omega)
 have h6:=Fdo (t:Int) (show 0<g.W by omega)
 have h7:0<=(t:Int)/g.W:=Fcb (by omega) (by omega)
 have h8:(t:Int)/g.W<g.H:=Fej (by omega) (by rw[Fcz];exact ht)
 exact⟨⟨h5,h6⟩,h7,h8⟩
theorem D5(hw:1<=w):(t:Int).tdiv w=(t:Int)/w:=Fa7 (by omega)
theorem D4(hw:1<=w):(t:Int).tmod w=(t:Int)%w:=Fdw (by omega)
theorem Ok(hg:zr g){t:Nat}(ht:(t:Int)<g.W*g.H):(0<=tx g t/\tx g t<=8323072)/\(0<=ty g t/\ty g t<=8323072):=by
 have:=Bw hg ht
 obtain⟨⟨h1,h2⟩,⟨h3,h4⟩,_⟩:=hg
 unfold tx ty
 omega
def Fs(x lo:Int):Int:=min2 (max2 x lo) (lo+65536)
theorem min2_eq(a b:Int):min2 a b=min a b:=by unfold min2;by_cases h:b<a<;>simp[h]<;>omega
theorem max2_eq(a b:Int):max2 a b=max a b:=by unfold max2;by_cases h:b>a<;>simp[h]<;>omega
theorem zas(x lo:Int):Fs x lo=min (max x lo) (lo+65536):=by unfold Fs;rw[min2_eq,max2_eq]
theorem zar(x lo:Int):(x-Fs x lo)*(x-Fs x lo)=off x lo*off x lo:=by
 rw[zas]
 unfold off
 by_cases h1:x<lo
 ·rw[if_pos h1,show min (max x lo) (lo+65536)=lo by omega]
  rw[<-Fd8 (x-lo),Int.neg_sub]
 ·rw[if_neg h1]
  by_cases h2:x>lo+65536
  ·rw[if_pos h2,show min (max x lo) (lo+65536)=lo+65536 by omega]
  ·rw[if_neg h2,show min (max x lo) (lo+65536)=x by omega]
   simp
theorem Rx(h:0<=lo/\lo<=8323072):0<=Fs x lo/\Fs x lo<=8388608:=by rw[zas];omega
theorem o6(h:0<=lo/\lo<=8323072)(hx:-1099511627776<=x/\x<=1099511627776):0<=off x lo/\off x lo<=1099519950848:=by
 unfold off;split
 ·omega
 ·split<;>omega
theorem zxn(hg:zr g){t:Nat}(ht:(t:Int)<g.W*g.H){p:Vc}(hp:qw p.1 p.2)(hr:0<r):
  near p (Fs p.1 (tx g t),Fs p.2 (ty g t)) r=decide (jh g t p r):=by
 have hb:=Ok hg ht
 have h1:=Rx (x:=p.1) hb.1
 have h2:=Rx (x:=p.2) hb.2
 obtain⟨h3,h4⟩:=hp
 rw[Wp (by omega) (by omega) (by dsimp only;omega) (by dsimp only;omega) hr]
 dsimp only
 rw[zar,zar]
 rfl
theorem O0(ha:0<=a)(hr:0<r)(h:a*a<r*r):a<r:=by
 apply Decidable.byContradiction
 intro hn
 have:r*r<=a*a:=Fbg (by omega) (by omega) (by omega) ha
 omega
theorem zx8{dx dy:Int}(h1:0<=dx)(h2:0<=dy)(hr:0<r):(dx<r/\dy<r/\dx*dx+dy*dy<r*r)↔dx*dx+dy*dy<r*r:=by
 refine⟨λh=>h.2.2,λh=>⟨O0 h1 hr ?_,O0 h2 hr ?_,h⟩⟩
 ·have:=Fax h2 h2;omega
 ·have:=Fax h1 h1;omega
theorem Vn(h:0<=a/\a<=262144):0<=a*a/\a*a<=68719476736:=
 ⟨Fax h.1 h.1,by have:a*a<=262144*262144:=Fbg h.2 h.2 h.1 (by decide);omega⟩
end
section
variable {b:Nat} {P:Program} {c:Cfg} {A:Fr}
def Store.dO(st:Store)(b:Nat):Store:={st with obj:=λi=>bif Nat.beq i b then none else st.obj i}
theorem Fq{st:Store}{b':Nat}{x:AObj}(h:(st.dO b).obj b'=some x):b'≠b/\st.obj b'=some x:=by
  have h:(bif Nat.beq b' b then none else st.obj b')=some x:=h
  cases hb:Nat.beq b' b with
  |true=>rw[hb]at h;cases h
  | false=>
    rw[hb]at h
    exact⟨λe=>(by rw[e,Fbw]at hb;cases hb),h⟩
theorem AWp.freeze{code:Code}{Q:Exit->Fr->Store->Prop}{st:Store}{d n cap k:Nat}{rows:List (List AV)}{pad:List AV}
    (hA:A.t d=.av (.s (.slice (some ⟨b,0,none⟩) n cap))) (ho:st.obj b=some (.cells (rows.flatten++pad))) (ht:st.tok b=none) (hn:rows.length=n) (hcap:n<=cap)
    (hk:∀row∈rows,row.length=k) (hall:∀row∈rows,∀x∈row,∃v,x=AV.s v/\xa v=true)
    (h:AWp P c code Q (A.put d (.av (.lst k rows none))) (st.dO b)):AWp P c code Q A st:=by
  refine⟨λOth M a w ⟨β,sim⟩=>?_⟩
  have hs:∀b' o,((M b' o/\b'≠b)\/Oth b' o)->(M b' o\/Oth b' o):=λ_ _ h=>h.imp (·.1) id
  have sim':SimB c.N Oth β (A.put d (.av (.lst k rows none))) (st.dO b) (λb' o=>M b' o/\b'≠b) a w:=by
    refine{tsz:=sim.tsz,dfr:=sim.dfr.sub λ_ _ h=>h.1,tm:=λi=>?_,bx:=λj l hj=>⟨(sim.bx j l hj).1.mono hs,λo=>⟨(sim.bx j l hj).2 o,?_⟩⟩,inj:=sim.inj,sep:=λj b' hj hb'=>?_,sto:=?_}
    · by_cases hi:i=d
      · subst hi
        have e:(A.put i (.av (.lst k rows none))).t i=.av (.lst k rows none):=by
          show(bif Nat.beq i i then _ else A.t i)=_
          rw[Fbw];rfl
        rw[e]
        have h1:=sim.tm i
        rw[hA]at h1
        have h1:VRel w (λb o=>M b o\/Oth b o) (.s (.slice (some ⟨b,0,none⟩) n cap)) (a.tmps.getD i undef):=h1
        generalize a.tmps.getD i undef=v at h1
        cases h1
        obtain⟨⟨cs,e0,fr,hb0,huf,hlen,hrel⟩,hM⟩:=sim.sto.obj b _ ho
        subst hn
        have at1:∀(i:Nat) (row:List AV) (j:Nat) (x:AV),rows[i]?=some row->row[j]?=some x->∃v,x=.s v/\xa v=true/\cs[i*k+j]?=some v:=by
          intro i row j x hi hj
          obtain⟨v,rfl,hv⟩:=hall row (Fay hi) x (Fay hj)
          have h5:=Iv hk hi hj
          have hlt:=(Fai.1 h5).1
          have h6:(rows.flatten++pad)[i*k+j]?=some (.s v):=by rw[Fam hlt];exact h5
          have hlt2:i*k+j<cs.size:=by rw[<-hlen,Fad];omega
          have h7:=hrel _ _ cs[i*k+j] h6 (by simp[hlt2])
          have:cs[i*k+j]=v:=by generalize cs[i*k+j]=y at h7;cases h7;rfl
          exact⟨v,rfl,hv,by rw[<-this];simp[hlt2]⟩
        refine VRel.lst rows none b 0 cap k (λp=>cs.getD p undef) hcap (λi row hi=>hk row (Fay hi)) (λ_ h=>by cases h) (λi row j x hi hj=>?_) (λi row j x hi hj=>?_) (λi row j x hi hj=>?_)
        · obtain⟨v,rfl,hv,h5⟩:=at1 i row j x hi hj
          refine⟨?_,?_⟩
          · rw[Fbe]
            simp only[World.cell?,hb0]
            rw[Fau,h5]
            simp[h5]
          · rintro(⟨_,h⟩|h)
            · exact h rfl
            · exact sim.sto.dis _ _ h (hM _)
        · obtain⟨v,rfl,hv,h5⟩:=at1 i row j x hi hj
          rw[Fau,h5];exact hv
        · obtain⟨v,rfl,hv,h5⟩:=at1 i row j x hi hj
          rw[Fau,h5];exact .s _
      · have e:(A.put d (.av (.lst k rows none))).t i=A.t i:=by
          show(bif Nat.beq i d then _ else A.t i)=_
          have:Nat.beq i d=false:=by
            cases hb:Nat.beq i d with
            |false=>rfl
            |true=>exact absurd ((xw _ _).1 hb) hi
          rw[this];rfl
        rw[e]
        have h1:=sim.tm i
        generalize A.t i=x at h1
        cases x with
        |any=>trivial
        |und=>exact h1
        |av x=>exact VRel.mono hs h1
        |bx k off=>exact h1
    · exact sim.sep j b (λe=>by rw[show A.bx j=some l from hj]at e;cases e) (.inl (by rw[ho];simp))
    · refine sim.sep j b' hj ?_
      rcases hb' with hb'|hb'
      · cases hx:(st.dO b).obj b' with
        |none=>exact absurd hx hb'
        |some y=>exact .inl (by rw[(Fq hx).2];simp)
      · exact .inr hb'
    · exact { obj:=λb' y hy=>⟨(sim.sto.obj b' y (Fq hy).2).1.mono hs,λo=>⟨(sim.sto.obj b' y (Fq hy).2).2 o,(Fq hy).1⟩⟩
              tok:=λb' top htk=>by
                obtain⟨c,e,fr,h1,h2,h3,h4⟩:=sim.sto.tok b' top htk
                exact⟨c,e,fr,h1,h2,h3,λo ho=>⟨h4 o ho,λe=>by subst e;rw[show st.tok b'=some top from htk]at ht;cases ht⟩⟩
              mlt:=λb' o hm=>sim.sto.mlt b' o hm.1,olt:=sim.sto.olt,dis:=λb' o ho hm=>sim.sto.dis b' o ho hm.1}
  refine Code.wpF_mono ?_ (h.out Oth _ a w ⟨β,sim'⟩)
  rintro e a' w' ⟨A',st',M',h1,h2,h3⟩
  exact⟨A',st',M',h1,h2,{size:=h3.size,keep:=λb' o hb hm=>h3.keep b' o hb λh=>hm h.1,blk:=λb' hb hm=>h3.blk b' hb λo h=>hm o h.1,shp:=h3.shp,sub:=λb' o hm hb=>(h3.sub b' o hm hb).1,tape:=h3.tape,os:=h3.os,output:=h3.output}⟩
theorem AWp.loopA{σ:Type}(H:LoopHead σ){b:Code}{Q:Exit->Fr->Store->Prop}{st:Store}(h0:H.at A st λ_=>True)
    (round:∀s st,H.inv s st->AWp P c b (mr H s Q) (Cw (H.t s) (H.bx s)) st):AWp P c (.loop b) Q A st:=by
  obtain⟨s0,_,hi0,ht0,hb0⟩:=h0
  refine⟨λOth M a w sim=>?_⟩
  refine wpIn_loop_ghost (λn a' w'=>∃s st' M',H.μ s=n/\H.inv s st'/\Sim c.N Oth (Cw (H.t s) (H.bx s)) st' M' a' w'/\Chg M w M' w') (H.μ s0)
    ⟨s0,st,M,rfl,hi0,sim.fits ht0 hb0 (Store.Has.refl st),Chg.refl M w⟩ ?_
  rintro n a' w' ⟨s,st',M',rfl,hi,hsim,hchg⟩
  refine Code.wpF_mono ?_ ((round s st' hi).out Oth M' a' w' hsim)
  rintro e a'' w'' ⟨A'',st'',M'',h1,h2,h3⟩
  cases e with
  | normal=>
    obtain⟨s',hlt,hi',ht',hb'⟩:=h1
    exact⟨H.μ s',hlt,s',st'',M'',rfl,hi',h2.fits ht' hb' (Store.Has.refl st''),hchg.trans h3⟩
  |_=>exact⟨A'',st'',M'',h1,h2,hchg.trans h3⟩
end
section
variable {g:Gnd} {n t i:Nat}
theorem Hp{st:Store}{b:Nat}{x:AObj}(h:st.obj b=none):(st.sO b x).dO b=st:=by
 unfold Store.sO Store.dO
 congr 1
 funext i
 by_cases hi:i=b
 ·subst hi;simp[h]
 ·simp[qc hi]
def Bh(W:Int)(b:Bld)(y k:Nat):List Int:=(List.range k).map λ(x:Nat)=>b.x+(x:Int)+W*(b.y+(y:Int))
def Bv(W:Int)(b:Bld)(k:Nat):List Int:=(List.range k).flatMap λy=>Bh W b y b.w.toNat
def Ao(W:Int)(b:Bld):List Int:=Bv W b b.h.toNat
theorem zed(W:Int)(b:Bld)(y k:Nat):Bh W b y (k+1)=Bh W b y k++[b.x+(k:Int)+W*(b.y+(y:Int))]:=by
 unfold Bh;rw[Fes];simp
theorem Vd(W:Int)(b:Bld)(k:Nat):Bv W b (k+1)=Bv W b k++Bh W b k b.w.toNat:=by
 unfold Bv;rw[Fes];simp
theorem g9(W:Int)(b:Bld)(y k:Nat):(Bh W b y k).length=k:=by unfold Bh;simp
theorem Ve(W:Int)(b:Bld)(k:Nat):(Bv W b k).length=k*b.w.toNat:=by
 induction k with
 |zero=>simp[Bv]
 |succ k ih=>rw[Vd,Fad,ih,g9,Fef]
theorem g8(W:Int){b:Bld}(hb:yg b):(Ao W b).length<=16:=by
 unfold Ao
 rw[Ve]
 unfold yg at hb
 have:b.h.toNat*b.w.toNat<=4*4:=Fc7 (by omega) (by omega)
 omega
theorem H7(hg:zr g){x y:Int}(hx:0<=x/\x<g.W)(hy:0<=y/\y<g.H):
  0<=x+g.W*y/\x+g.W*y<g.W*g.H/\(x+g.W*y)%g.W=x/\(x+g.W*y)/g.W=y:=by
 obtain⟨⟨h1,h2⟩,⟨h3,h4⟩,_⟩:=hg
 have a1:0<=g.W*y:=Fax (by omega) hy.1
 have a2:g.W*y<=g.W*(g.H-1):=Fen (by omega) (by omega)
 have a3:g.W*(g.H-1)=g.W*g.H-g.W:=by rw[Int.mul_sub,Int.mul_one]
 refine⟨by omega,by omega,?_,?_⟩
 ·rw[Fdx];exact Fdd hx.1 hx.2
 ·rw[Fek _ _ (by omega),Fce hx.1 hx.2];omega
theorem Hb(hg:zr g){b:Bld}(hb:yg b)(ho:onP g b)(t:Int):t∈Ao g.W b↔∃n:Nat,t=(n:Int)/\(n:Int)<g.W*g.H/\jj g b n:=by
 have hb':=hb
 have ho':=ho
 unfold yg at hb'
 unfold onP at ho'
 unfold Ao Bv Bh
 rw[List.mem_flatMap]
 constructor
 ·rintro⟨y,hy,hx⟩
  obtain⟨x,hx2,rfl⟩:=Fae.1 hx
  have hy:=Fbc.1 hy
  have hx:=Fbc.1 hx2
  obtain⟨q1,q2,q3,q4⟩:=H7 hg (x:=b.x+x) (y:=b.y+y) (by omega) (by omega)
  refine⟨(b.x+(x:Int)+g.W*(b.y+(y:Int))).toNat,by omega,by omega,?_⟩
  unfold jj
  rw[show(((b.x+(x:Int)+g.W*(b.y+(y:Int))).toNat:Nat):Int)=b.x+(x:Int)+g.W*(b.y+(y:Int)) by omega,q3,q4]
  omega
 ·rintro⟨n,rfl,hn,hh⟩
  unfold jj at hh
  refine⟨((n:Int)/g.W-b.y).toNat,Fbc.2 (by omega),Fae.2 ⟨((n:Int)%g.W-b.x).toNat,Fbc.2 (by omega),?_⟩⟩
  have:=Fei (n:Int) g.W
  rw[show(((n:Int)%g.W-b.x).toNat:Int)=(n:Int)%g.W-b.x by omega,show(((n:Int)/g.W-b.y).toNat:Int)=(n:Int)/g.W-b.y by omega]
  rw[show b.x+((n:Int)%g.W-b.x)=(n:Int)%g.W by omega,show b.y+((n:Int)/g.W-b.y)=(n:Int)/g.W by omega]
  exact this
def bl(n:Nat)(f:Nat->Bool):List AV:=(List.range n).map λt=>bool (f t)
theorem ku(n:Nat)(f:Nat->Bool):(bl n f).length=n:=by simp[bl]
theorem Gr{f:Nat->Bool}(h:t<n):(bl n f)[t]?=some (bool (f t)):=by simp[bl,h]
theorem Ht(n:Nat):List.replicate n (AV.s (.bool false))=bl n λ_=>false:=by
 unfold bl
 rw[List.map_const',Fe5]
 rfl
theorem Dw{f:Nat->Bool}(h:t<n)(g:Nat->Bool)(hg:∀s,s≠t->g s=f s):zu (bl n f) t [bool (g t)]=bl n g:=by
 unfold zu
 apply Fck
 intro s
 by_cases h1:s<t
 ·rw[Fa3,Fam (by rw[Fao,ku];omega),Fb7 h1,Gr (by omega),Gr (by omega),hg s (by omega)]
 ·by_cases h2:s=t
  ·subst h2
   rw[Fa3,Fa1 (by rw[Fao,ku];omega),Fao,ku,show s-min s n=0 by omega,Gr h]
   rfl
  ·rw[Fa1 (by rw[Fad,Fao,ku];simp;omega),Fad,Fao,ku,Fcg]
   by_cases h3:s<n
   ·have e:t+[bool (g t)].length+(s-(min t n+[bool (g t)].length))=s:=by simp;omega
    rw[e,Gr h3,Gr h3,hg s h2]
   ·rw[Fbn (by rw[ku];simp;omega),Fbn (by rw[ku];omega)]
def j7(g:Gnd)(l:List Bld)(i:Nat)(ts:List Int)(k:Nat)(t:Nat):Bool:=qh g (l.take i) t||(ts.take k).contains (t:Int)
theorem zaf(g:Gnd)(l:List Bld)(i:Nat)(ts:List Int)(t:Nat):j7 g l i ts 0 t=qh g (l.take i) t:=by simp[j7]
theorem zah{l:List Bld}{ts:List Int}{k n:Nat}(hk:k<ts.length)(hn:ts[k]=(n:Int)):
  j7 g l i ts (k+1) n=true/\∀s,s≠n->j7 g l i ts (k+1) s=j7 g l i ts k s:=by
 unfold j7
 rw[Fac hk,hn]
 refine⟨by simp,λs hs=>?_⟩
 rw[List.contains_append]
 have:[((n:Nat):Int)].contains (s:Int)=false:=by simp;omega
 rw[this,Fep]
theorem zai(hg:zr g){l:List Bld}(hi:i<l.length)(hb:yg l[i]/\onP g l[i])(ht:t<g.T.length):
  j7 g l i (Ao g.W l[i]) (Ao g.W l[i]).length t=qh g (l.take (i+1)) t:=by
 have ha:=qe hg
 unfold j7 qh
 rw[Fap,Fac hi,List.any_append]
 congr 1
 rw[Fbq,List.contains_iff_mem,Hb hg hb.1 hb.2]
 simp only[List.any_cons,List.any_nil,Fep,decide_eq_true_eq]
 constructor
 ·rintro⟨n,h1,_,h2⟩
  have:n=t:=by omega
  subst this;exact h2
 ·intro h
  exact⟨t,rfl,by omega,h⟩
def jt(b:Bool):List AV:=[bool b]
def blL(n:Nat)(f:Nat->Bool):List Bool:=(List.range n).map f
theorem xj(n:Nat)(f:Nat->Bool):(blL n f).length=n:=by simp[blL]
theorem Bb{f:Nat->Bool}(h:t<n):(blL n f)[t]'(by rw[xj];exact h)=f t:=by simp[blL]
theorem yev(n:Nat)(f:Nat->Bool):(rws jt (blL n f)).flatten=bl n f:=by
 unfold rws blL bl jt
 induction List.range n with
 |nil=>rfl
 |cons a l ih=>simp at ih⊢;exact ih
theorem za9{f:Nat->Bool}(h:t<n):(rws jt (blL n f))[t]?=some (jt (f t)):=by
 unfold rws blL
 simp[h]
end
section
variable {g:Gnd}
theorem zec(W:Int)(b:Bld)(y k:Nat):(Bh W b y k).Pairwise (·<·):=by
 unfold Bh
 rw[List.pairwise_map]
 exact(List.pairwise_lt_range (n:=k)).imp λh=>by omega
theorem zea{W:Int}{b:Bld}(hW:1<=W)(hx:0<=b.x/\b.x+b.w<=W)(hw:1<=b.w)(k:Nat):(Bv W b k).Pairwise (·<·)/\∀t∈Bv W b k,t<W*(b.y+(k:Int)):=by
 induction k with
 |zero=>exact⟨List.Pairwise.nil,λt ht=>(by simp[Bv]at ht)⟩
 |succ k ih=>
  rw[Vd]
  have hrow:∀t∈Bh W b k b.w.toNat,W*(b.y+(k:Int))<=t/\t<W*(b.y+(k:Int))+W:=by
   intro t ht
   obtain⟨x,hx2,rfl⟩:=Fae.1 ht
   have:=Fbc.1 hx2
   omega
  have e:W*(b.y+((k+1:Nat):Int))=W*(b.y+(k:Int))+W:=by
   rw[show b.y+((k+1:Nat):Int)=(b.y+(k:Int))+1 by omega,Int.mul_add,Int.mul_one]
  refine⟨List.pairwise_append.2 ⟨ih.1,zec _ _ _ _,λa ha c hc=>?_⟩,λt ht=>?_⟩
  ·have h1:=ih.2 a ha
   have h2:=hrow c hc
   omega
  ·rw[e]
   rcases Fan.1 ht with ht|ht
   ·have:=ih.2 t ht;omega
   ·have:=hrow t ht;omega
theorem zeb(hg:zr g){b:Bld}(hb:yg b/\onP g b):(Ao g.W b).Pairwise (·<·):=by
 unfold yg onP at hb
 exact(zea hg.1.1 hb.2.1 (by omega) _).1
theorem zxa{l:List Int}(h:l.Pairwise (·<·)){k:Nat}(hk:k<l.length):l[k]∉l.take k:=by
 intro hm
 obtain⟨j,hj,e⟩:=Fak hm
 rw[Fao]at hj
 rw[Fdt]at e
 have:=Fct.1 h j k (by omega) hk (by omega)
 omega
theorem rh(hg:zr g){a b:Bld}(ha:yg a/\onP g a)(hb:yg b/\onP g b):Ah a b↔∃t:Nat,(t:Int)<g.W*g.H/\jj g a t/\jj g b t:=by
 unfold yg onP at ha hb
 unfold Ah
 constructor
 ·intro h
  obtain⟨q1,q2,q3,q4⟩:=H7 hg (x:=max a.x b.x) (y:=max a.y b.y) (by omega) (by omega)
  refine⟨(max a.x b.x+g.W*max a.y b.y).toNat,by omega,?_⟩
  unfold jj
  rw[show(((max a.x b.x+g.W*max a.y b.y).toNat:Nat):Int)=max a.x b.x+g.W*max a.y b.y by omega,q3,q4]
  omega
 ·rintro⟨t,_,h1,h2⟩
  unfold jj at h1 h2
  omega
theorem covB_iff{l:List Bld}{t:Nat}:qh g l t=true↔∃b∈l,jj g b t:=by
 unfold qh
 rw[Fd2]
 simp
def Rz(g:Gnd)(l:List Bld)(i:Nat):Prop:=∀j,(h:j<l.length)->j<i->(yg l[j]/\onP g l[j]/\C8 g l[j])/\∀k,(hk:k<j)->¬Ah l[j] (l[k]'(by omega))
theorem za3{l:List Bld}(h:Rz g l l.length):(∀b∈l,yg b/\onP g b/\C8 g b)/\R8 l:=by
 refine⟨λb hb=>?_,λj hj k hk=>(h j hj hj).2 k hk⟩
 obtain⟨j,hj,rfl⟩:=Fak hb
 exact(h j hj hj).1
theorem ydd(hg:zr g){l:List Bld}{i:Nat}(hi:i<l.length)(hb:yg l[i]/\onP g l[i])(hup:Rz g l i):
  (∃t∈Ao g.W l[i],qh g (l.take i) t.toNat=true)↔∃k,∃hk:k<i,Ah l[i] (l[k]'(by omega)):=by
 constructor
 ·rintro⟨t,ht,hc⟩
  obtain⟨n,rfl,hn,hh⟩:=(Hb hg hb.1 hb.2 t).1 ht
  rw[Fa0]at hc
  obtain⟨b,hb2,hh2⟩:=covB_iff.1 hc
  obtain⟨k,hk,rfl⟩:=Fak hb2
  rw[Fao]at hk
  rw[Fdt]at hh2
  have:=(hup k (by omega) (by omega)).1
  exact⟨k,by omega,(rh hg hb ⟨this.1,this.2.1⟩).2 ⟨n,hn,hh,hh2⟩⟩
 ·rintro⟨k,hk,hm⟩
  have:=(hup k (by omega) (by omega)).1
  obtain⟨n,hn,h1,h2⟩:=(rh hg hb ⟨this.1,this.2.1⟩).1 hm
  refine⟨(n:Int),(Hb hg hb.1 hb.2 _).2 ⟨n,rfl,hn,h1⟩,?_⟩
  rw[Fa0]
  refine covB_iff.2 ⟨l[k],?_,h2⟩
  have:(l.take i)[k]'(by rw[Fao];omega)=l[k]:=Fdt
  rw[<-this]
  exact Faa _
end
def Dq(g:Gnd)(b:Bld)(k t:Nat):Prop:=(b.x<=(t:Int)%g.W/\(t:Int)%g.W<b.x+b.w)/\(b.y<=(t:Int)/g.W/\(t:Int)/g.W<b.y+(k:Int))
def Cc(g:Gnd)(b:Bld)(k m t:Nat):Prop:=(t:Int)/g.W=b.y+(k:Int)/\(b.x<=(t:Int)%g.W/\(t:Int)%g.W<b.x+(m:Int))
instance(g:Gnd)(b:Bld)(k t:Nat):Decidable (Dq g b k t):=inferInstanceAs (Decidable (_/\_))
instance(g:Gnd)(b:Bld)(k m t:Nat):Decidable (Cc g b k m t):=inferInstanceAs (Decidable (_/\_))
def Ba(g:Gnd)(l:List Bld)(i:Nat)(b:Bld)(k m t:Nat):Bool:=qh g (l.take i) t||decide (Dq g b k t\/Cc g b k m t)
theorem yde(g:Gnd)(l:List Bld)(i:Nat)(b:Bld):Ba g l i b 0 0=qh g (l.take i):=by
 funext t
 unfold Ba
 rw[decide_eq_false (by unfold Dq Cc;omega),Fep]
theorem ydg(g:Gnd)(l:List Bld)(i:Nat)(b:Bld)(k:Nat)(hw:0<=b.w):Ba g l i b k b.w.toNat=Ba g l i b (k+1) 0:=by
 funext t
 unfold Ba
 have:(Dq g b k t\/Cc g b k b.w.toNat t)↔(Dq g b (k+1) t\/Cc g b (k+1) 0 t):=by
  unfold Dq Cc
  rw[show((b.w.toNat:Nat):Int)=b.w by omega]
  omega
 simp only[this]
theorem ydh{g:Gnd}{l:List Bld}{i:Nat}(hi:i<l.length)(hh:0<=l[i].h):Ba g l i l[i] l[i].h.toNat 0=qh g (l.take (i+1)):=by
 funext t
 unfold Ba qh
 rw[Fac hi,List.any_append]
 congr 1
 simp only[List.any_cons,List.any_nil,Fep]
 have:(Dq g l[i] l[i].h.toNat t\/Cc g l[i] l[i].h.toNat 0 t)↔jj g l[i] t:=by
  unfold Dq Cc jj
  rw[show((l[i].h.toNat:Nat):Int)=l[i].h by omega]
  omega
 simp only[this]
theorem ydf{g:Gnd}(hg:zr g){l:List Bld}{i:Nat}{b:Bld}(hb:yg b/\onP g b){k m:Nat}(hk:(k:Int)<b.h)(hm:(m:Int)<b.w){n:Nat}(hn:(n:Int)=b.x+(m:Int)+g.W*(b.y+(k:Int))):
  Ba g l i b k (m+1) n=true/\∀s,s≠n->Ba g l i b k (m+1) s=Ba g l i b k m s:=by
 unfold yg onP at hb
 obtain⟨q1,q2,q3,q4⟩:=H7 hg (x:=b.x+m) (y:=b.y+k) (by omega) (by omega)
 unfold Ba
 refine⟨?_,λs hs=>?_⟩
 ·have:Cc g b k (m+1) n:=by
   unfold Cc
   rw[hn,q3,q4]
   omega
  rw[decide_eq_true (.inr this),Bool.or_true]
 ·have e:=Fei (s:Int) g.W
  have:(Dq g b k s\/Cc g b k (m+1) s)↔(Dq g b k s\/Cc g b k m s):=by
   unfold Cc
   have hne:¬((s:Int)/g.W=b.y+(k:Int)/\(s:Int)%g.W=b.x+(m:Int)):=by
    rintro⟨e1,e2⟩
    rw[e1,e2]at e
    omega
   unfold Dq
   clear e hn q1 q2 q3 q4
   generalize(s:Int)%g.W=X at*
   generalize(s:Int)/g.W=Y at*
   omega
  simp only[this]
theorem P6{g:Gnd}{t:Nat}{p:Vc}{r:Int}(hr:0<r)(h:jh g t p r):
  (tx g t<p.1+r/\p.1-r<tx g t+65536)/\(ty g t<p.2+r/\p.2-r<ty g t+65536):=by
 unfold jh at h
 have n:∀x lo:Int,0<=off x lo:=λx lo=>by unfold off;split<;>(try split)<;>omega
 have a:=O0 (n p.1 (tx g t)) hr (by have:=Fax (n p.2 (ty g t)) (n p.2 (ty g t));omega)
 have b:=O0 (n p.2 (ty g t)) hr (by have:=Fax (n p.1 (tx g t)) (n p.1 (tx g t));omega)
 unfold off at a b
 refine⟨?_,?_⟩
 ·generalize tx g t=X at a
  split at a
  ·omega
  ·split at a<;>omega
 ·generalize ty g t=Y at b
  split at b
  ·omega
  ·split at b<;>omega
section
variable {P:Program} {c:Cfg}
theorem j5{ops:Array Oper}{o:Oper}{A:Fr}{go skip:Fr->Prop}(hg:o.guard=none)(h:go A):Hi ops o A go skip:=by
 unfold Hi;rw[hg];exact h
theorem jz{o:Oper}{t:TypeId}{a x:Operand}{K:Fr->Store->Prop}{A:Fr}{st:Store}{i:TI}{v:AV}(ho:o.op=.store t a x)(hd:o.dst=none)(hi:c.I t=some i)(hx:A.ev x=.av v)(h:Fx i A st (A.ev a) v K):Cj P c o K A st:=by
 unfold Cj
 rw[ho]
 show D3 P c o K A st
 unfold D3
 rw[ho]
 simp only[hd,Option.isNone_none,cond_true,hx]
 exact za i hi h
end
theorem p7{A:Int}{m:Nat}(h:(m:Int)<A):A.toNat-(m+1)<A.toNat-m:=by omega
theorem di(a:Int)(m:Nat):a+((m+1:Nat):Int)=a+(m:Int)+1:=by omega
theorem Py{A x:Int}{m:Nat}(h:x+(m:Int)<A):((m+1:Nat):Int)<=A-x:=by omega
def Ls(g:Gnd)(l:List Bld)(c:Int)(p:Vc)(r y:Int):Prop:=∀t,t<g.T.length->(t:Int)/g.W<y->yi g l c t=false->¬jh g t p r
def Nv(g:Gnd)(l:List Bld)(c:Int)(p:Vc)(r y x:Int):Prop:=∀t,t<g.T.length->(t:Int)/g.W=y->(t:Int)%g.W<x->yi g l c t=false->¬jh g t p r
theorem yd2{g:Gnd}{l:List Bld}{c:Int}{p:Vc}{r:Int}(hr:0<r)(hp:0<=p.2-r):Ls g l c p r ((p.2-r)/65536):=by
 intro t _ hy _ hh
 have:=(P6 hr hh).2
 unfold ty at this
 generalize(t:Int)/g.W=Y at*
 omega
theorem yd5{g:Gnd}{l:List Bld}{c:Int}{p:Vc}{r y:Int}(hr:0<r)(hp:0<=p.1-r):Nv g l c p r y ((p.1-r)/65536):=by
 intro t _ _ hx _ hh
 have:=(P6 hr hh).1
 unfold tx at this
 generalize(t:Int)%g.W=X at*
 omega
theorem yd6{g:Gnd}(hg:zr g){l:List Bld}{c:Int}{p:Vc}{r y x:Int}(hr:0<r)(hp:0<=p.1+r)(hx:¬(x<=(p.1+r)/65536)\/¬(x<g.W))(hu:Ls g l c p r y)(h:Nv g l c p r y x):Ls g l c p r (y+1):=by
 intro t ht hy ho hh
 by_cases e:(t:Int)/g.W=y
 ·by_cases e2:(t:Int)%g.W<x
  ·exact h t ht e e2 ho hh
  ·have h1:=(P6 hr hh).1
   have h2:=(Bw hg (t:=t) (by have:=(qe hg).2.2;omega)).1
   unfold tx at h1
   generalize(t:Int)%g.W=X at*
   omega
 ·exact hu t ht (by omega) ho hh
theorem yd3{g:Gnd}(hg:zr g){l:List Bld}{c:Int}{p:Vc}{r y:Int}(hr:0<r)(hp:0<=p.2+r)(hy:¬(y<=(p.2+r)/65536)\/¬(y<g.H))(hu:Ls g l c p r y):∀t,t<g.T.length->yi g l c t=false->¬jh g t p r:=by
 intro t ht ho hh
 by_cases e:(t:Int)/g.W<y
 ·exact hu t ht e ho hh
 ·have h1:=(P6 hr hh).2
  have h2:=(Bw hg (t:=t) (by have:=(qe hg).2.2;omega)).2
  unfold ty at h1
  generalize(t:Int)/g.W=Y at*
  omega
theorem yd4{g:Gnd}(hg:zr g){l:List Bld}{c:Int}{p:Vc}{r y x:Int}(hx:0<=x/\x<g.W)(hy:0<=y/\y<g.H)(h:Nv g l c p r y x)(hn:yi g l c (x+g.W*y).toNat=false->¬jh g (x+g.W*y).toNat p r):Nv g l c p r y (x+1):=by
 intro t ht e1 e2 ho
 by_cases e:(t:Int)%g.W<x
 ·exact h t ht e1 e ho
 ·have e3:(t:Int)%g.W=x:=by omega
  have q:=Fei (t:Int) g.W
  rw[e1,e3]at q
  have:(x+g.W*y).toNat=t:=by rw[q];omega
  rw[this]at hn
  exact hn ho
theorem s7{F N S:Store}(hd:zl F N):((F.un N).un S).Has (F.un S):=by
 refine⟨λb y h=>?_,λb x h=>?_⟩
 ·rcases gj h with h1|⟨h1,h2⟩
  ·exact zg h1
  ·have h3:(F.un N).obj b=some y:=yr hd h2
   show(match S.obj b with|some y=>some y|none=>(F.un N).obj b)=some y
   rw[h1];exact h3
 ·rcases gi h with h1|⟨h1,h2⟩
  ·exact Gx h1
  ·have h3:(F.un N).tok b=some x:=Kg hd h2
   show(match S.tok b with|some y=>some y|none=>(F.un N).tok b)=some x
   rw[h1];exact h3
theorem Fb{l:List Unt}(hr:yq l){a b:Nat}(hab:a<b)(hb:b<l.length):(l[a]'(by omega)).id<l[b].id:=by
 induction b with
 |zero=>omega
 |succ b ih=>
  have h3:=hr (b+1) hb (by omega)
  simp only[Fd4]at h3
  by_cases e:a=b
  ·subst e;exact h3
  ·have:=ih (by omega) (by omega)
   omega
theorem G6{l:List Unt}(hr:yq l){u v:Unt}(hu:u∈l)(hv:v∈l)(h:u.id=v.id):u=v:=by
 obtain⟨a,ha,rfl⟩:=Fak hu
 obtain⟨b,hb,rfl⟩:=Fak hv
 rcases Fe4 a b with q|q|q
 ·have:=Fb hr q hb;omega
 ·subst q;rfl
 ·have:=Fb hr q ha;omega
def Dj(w:Wld)(L:List Ent):Prop:=∀e,e∈L↔∃u∈w.U,u.inn=0/\e=(u.id,u.pos)
theorem Wl{w:Wld}{L:List Ent}(h:Dj w L)(hn:∀u∈w.U,u.pos.ok):∀e∈L,e.2.ok:=λe he=>by
 obtain⟨u,hu,_,rfl⟩:=(h e).1 he
 exact hn u hu
def Ij(w:Wld)(p:Vc)(r:Int)(us:List Unt):Prop:=∀u,u∈us↔(u∈w.U/\u.inn=0)/\near p u.pos r=true
theorem pi{w:Wld}{L:List Ent}(hr:yq w.U)(hL:Dj w L){p:Vc}{r:Int}{ns:List Int}(hn:Oa L p r ns){us:List Unt}(h1:us.map (·.id)=ns)(h2:∀u∈us,u∈w.U/\u.inn=0):Ij w p r us:=by
 intro u
 constructor
 ·intro hu
  refine⟨h2 u hu,?_⟩
  have:u.id∈ns:=by rw[<-h1];exact Fae.2 ⟨u,hu,rfl⟩
  obtain⟨e,he,h3,h4⟩:=(hn.2 _).1 this
  obtain⟨v,hv,_,rfl⟩:=(hL e).1 he
  rw[G6 hr (h2 u hu).1 hv h3.symm]
  exact h4
 ·rintro⟨⟨h3,h4⟩,h5⟩
  have:u.id∈ns:=(hn.2 _).2 ⟨(u.id,u.pos),(hL _).2 ⟨u,h3,h4,rfl⟩,rfl,h5⟩
  rw[<-h1]at this
  obtain⟨v,hv,h6⟩:=Fae.1 this
  rw[G6 hr h3 (h2 v hv).1 h6.symm]
  exact hv
theorem Bl(k:Int):0<zv k/\zv k<=81920:=by unfold zv;split<;>(try split)<;>omega
theorem Gd(k:Int):yf k=0\/yf k=1\/yf k=2:=by unfold yf;split<;>(try split)<;>(try split)<;>omega
theorem ph{a b:Vc}{r r':Int}(h:r<=r')(hn:near a b r=true):near a b r'=true:=by
 unfold near at*
 rw[decide_eq_true_iff]at*
 have:r*r<=r'*r':=Fbg h h (by omega) (by omega)
 omega
theorem zaq{w:Wld}{id k:Int}{q:Vc}{us:List Unt}(hf:Az w.G w.B (yf k) q (zv k))(hus:Ij w q (zv k+81920) us):
  qa w id k q↔∀u∈us,u.id≠id->kx q (zv k) u.pos (zv u.kind)=true:=by
 constructor
 ·intro h u hu hne
  have:=(hus u).1 hu
  exact h.2 u this.1.1 this.1.2 hne
 ·intro h
  refine⟨hf,λu hu h0 hne=>?_⟩
  unfold kx
  cases hc:near q u.pos (zv k+zv u.kind)with
  |false=>rfl
  |true=>
   have h1:=ph (r':=zv k+81920) (by have:=Bl u.kind;omega) hc
   have:=h u ((hus u).2 ⟨⟨hu,h0⟩,h1⟩) hne
   unfold kx at this
   rw[hc]at this
   exact this
end Go.V
namespace Go.V
def yu{α:Type}(f:α->AV)(e:Int×α):AV×AV:=(int e.1,f e.2)
def yw{α:Type}(cs:List (Int×α))(k:Int):Option α:=(cs.find? λe=>k==e.1).map (·.2)
def yn{α:Type}:List (Int×α)->Int->α->List (Int×α)
 |[],k,v=>[(k,v)]
 |e::l,k,v=>if k==e.1 then(k,v)::l else e::yn l k v
theorem uc{α:Type}(f:α->AV)(cs:List (Int×α))(k:Int):(cs.map (yu f)).find? (qA k)=(cs.find? λe=>k==e.1).map (yu f):=by
 rw[List.find?_map];rfl
theorem Hd{α:Type}(f:α->AV)(cs:List (Int×α))(k:Int)(z:AV):Fj false z ((cs.map (yu f)).find? (qA k))=((yw cs k).map f).getD z:=by
 rw[uc]
 unfold yw
 cases cs.find? λe=>k==e.1 with
 |none=>rfl
 |some e=>rfl
theorem nz{α:Type}(f:α->AV)(k:Int)(v:α):∀cs:List (Int×α),
  (match(cs.map (yu f)).findIdx? (qA k)with|some i=>(cs.map (yu f)).set i (int k,f v)|none=>cs.map (yu f)++[(int k,f v)])=(yn cs k v).map (yu f)
 |[]=>rfl
 |e::l=>by
  have ih:=nz f k v l
  rw[Fb9,Fd6]
  unfold yn
  by_cases h:k==e.1
  ·have h2:qA k (yu f e)=true:=h
   rw[h2]
   simp only[h,if_true,List.set_cons_zero,Fb9]
   rfl
  ·have h:(k==e.1)=false:=by simpa using h
   have h2:qA k (yu f e)=false:=h
   rw[h2]
   simp only[h,if_false,Fb9]
   cases hx:(l.map (yu f)).findIdx? (qA k)with
   |none=>rw[hx]at ih;simp at ih⊢;exact ih
   |some i=>rw[hx]at ih;simp at ih⊢;exact ih
theorem K8{α:Type}(f:α->AV)(cs:List (Int×α))(bs:List Nat)(clk:Nat)(k:Int)(v:α):∃bs' clk',vz (cs.map (yu f)) bs clk (qA k) (int k) (f v)=.map ((yn cs k v).map (yu f)) bs' clk':=by
 have h:=nz f k v cs
 unfold vz
 cases hx:(cs.map (yu f)).findIdx? (qA k)with
 |none=>rw[hx]at h;exact⟨_,_,by rw[<-h]⟩
 |some i=>rw[hx]at h;exact⟨_,_,by rw[<-h]⟩
theorem C7{α:Type}(k:Int)(v:α)(j:Int):∀cs:List (Int×α),yw (yn cs k v) j=if j=k then some v else yw cs j
 |[]=>by
  unfold yn yw
  by_cases h:j=k<;>simp[h]
 |e::l=>by
  have ih:=C7 k v j l
  unfold yw at ih⊢
  by_cases h:k=e.1
  ·have h1:(k==e.1)=true:=by simpa using h
   rw[show yn (e::l) k v=(k,v)::l by unfold yn;simp[h1]]
   by_cases h2:j=k
   ·simp[h2]
   ·have e1:(j==k)=false:=by simpa using h2
    have e2:(j==e.1)=false:=by rw[<-h];exact e1
    rw[Fdr,Fdr,if_neg h2]
    simp only[e1,e2]
  ·have h1:(k==e.1)=false:=by simpa using h
   rw[show yn (e::l) k v=e::yn l k v by rw[yn];simp[h1]]
   rw[Fdr,Fdr]
   by_cases h2:j=e.1
   ·have e1:(j==e.1)=true:=by simpa using h2
    simp only[e1]
    rw[if_neg (by omega)]
   ·have e1:(j==e.1)=false:=by simpa using h2
    simp only[e1]
    exact ih
end Go.V
namespace Go.V
theorem Nf{l:List Unt}{i:Nat}(hi:i<l.length)(id:Int):((z8 (l.take (i+1)) id).length:Int)=((z8 (l.take i) id).length:Int)+(if l[i].inn=id then 1 else 0):=by
 unfold z8
 rw[Fac hi,Fdn,Fbk,Fad]
 by_cases h:l[i].inn=id
 ·simp[h]
 ·simp[h]
theorem P0{l:List Unt}(i:Nat)(id:Int):(z8 (l.take i) id).length<=(z8 l id).length:=by
 have h:(z8 l id).length=(z8 (l.take i) id).length+(z8 (l.drop i) id).length:=by
  unfold z8
  rw[<-Fad,<-Fbk,<-Fdn,Fcu]
 omega
def Vz(w:Wld)(i:Nat):Prop:=
 (∀j,(h:j<w.U.length)->j<i->w.U[j].inn≠0->∃x∈w.U,x.id=w.U[j].inn/\(x.inn=0/\x.owner=w.U[j].owner)/\jg w.U[j].kind=0/\w.U[j].pos=(0,0)/\w.U[j].goal=-1/\w.U[j].state=0)∧
 ∀x∈w.U,x.id≠0->((z8 (w.U.take i) x.id).length:Int)<=jg x.kind
theorem zub{w:Wld}(h:Vz w w.U.length):∀u∈w.U,u.inn≠0->Aq w u:=by
 intro u hu hne
 obtain⟨j,hj,rfl⟩:=Fak hu
 obtain⟨x,hx,h1,h2,h3,h4,h5,h6⟩:=h.1 j hj hj hne
 have:=h.2 x hx (by rw[h1];exact hne)
 rw[Fap,h1]at this
 exact⟨x,hx,h1,h2,this,h3,h4,h5,h6⟩
theorem Na(k:Int):0<=jg k/\jg k<=4:=by unfold jg;split<;>(try split)<;>(try split)<;>omega
end Go.V
namespace Go.V
def Gw(w:Wld)(i:Nat):Prop:=∀j,(h:j<w.U.length)->j<i->(jq w w.U[j]/\∀b∈w.B,b.id≠w.U[j].id)/\(0<j->(w.U[j-1]'(by omega)).id<w.U[j].id)
theorem f7{w:Wld}(h:Gw w w.U.length):H4 w:=by
 refine⟨λj hj h0=>(h j hj hj).2 h0,λu hu=>?_⟩
 obtain⟨j,hj,rfl⟩:=Fak hu
 exact(h j hj hj).1
theorem f0{w:Wld}(h:H4 w)(i:Nat):Gw w i:=λj hj _=>⟨h.2 _ (Faa hj),h.1 j hj⟩
end Go.V
namespace Go.V
def RowsO{α:Type}(k:Nat)(f:α->List AV)(st:Store)(v:AV)(l:List α):Prop:=
 (v=.s (.slice none 0 0)/\l=[])\/∃b cap L,v=.s (.slice (some ⟨b,0,none⟩) l.length cap)/\st.obj b=some (.cells ((rws f l).flatten++L))/\l.length<=cap/\cap*k<=l.length*k+L.length/\cap<=9223372036854775807
section
variable {α:Type} {f:α->List AV} {k:Nat}
theorem ja(hf:∀x,(f x).length=k)(l:List α):(rws f l).flatten.length=l.length*k:=by
 induction l with
 |nil=>simp[rws]
 |cons a l ih=>
  show(f a++(rws f l).flatten).length=(l.length+1)*k
  rw[Fad,hf,ih,Fef];omega
theorem Mh(a b:List α):(rws f (a++b)).flatten=(rws f a).flatten++(rws f b).flatten:=by
 rw[<-l9,Fet]
theorem O4{l:List α}{i:Nat}(hi:i<l.length):(rws f l).flatten=(rws f (l.take i)).flatten++(f l[i]++(rws f (l.drop (i+1))).flatten):=by
 have e:l=l.take i++(l[i]::l.drop (i+1)):=by
  rw[<-Fe1 hi,Fcu]
 have e2:(rws f (l[i]::l.drop (i+1))).flatten=f l[i]++(rws f (l.drop (i+1))).flatten:=rfl
 rw[<-e2,<-Mh,<-e]
theorem zn5{X Y ys:List AV}{j:Nat}(h:j+ys.length<=X.length):zu (X++Y) j ys=zu X j ys++Y:=by
 unfold zu
 rw[Fbl (by omega),List.drop_append_of_le_length (by omega)]
 simp only[Fa3]
theorem Kr(hf:∀x,(f x).length=k){l:List α}{i j:Nat}(hi:i<l.length){x':α}{ys L:List AV}(hj:j+ys.length<=k)(hx:f x'=zu (f l[i]) j ys):
  zu ((rws f l).flatten++L) (i*k+j) ys=(rws f (l.set i x')).flatten++L:=by
 have h1:(rws f (l.take i)).flatten.length=i*k:=by rw[ja hf,Fao,Nat.min_eq_left (by omega)]
 have hi2:i<(l.set i x').length:=by rw[Faf];exact hi
 rw[O4 hi,O4 hi2,Fa3,Fa3,<-h1,i6]
 have e1:(l.set i x').take i=l.take i:=by rw[List.take_set_of_le (Faj i)]
 have e2:(l.set i x').drop (i+1)=l.drop (i+1):=by rw[List.drop_set_of_lt (by omega)]
 rw[e1,e2,Fbp,hx]
 have h3:=hf l[i]
 rw[Fa3,zn5 (by omega)]
 simp only[Fa3]
theorem RowsO.un{a g:Store}{v:AV}{l:List α}(h:RowsO k f g v l):RowsO k f (a.un g) v l:=by
 rcases h with h|⟨b1,cap,L,h1,h2,h3⟩
 ·exact .inl h
 ·exact .inr ⟨b1,cap,L,h1,zg h2,h3⟩
theorem RowsO.unL{a g:Store}{v:AV}{l:List α}(h:RowsO k f a v l)(hd:zl a g):RowsO k f (a.un g) v l:=by
 rcases h with h|⟨b1,cap,L,h1,h2,h3⟩
 ·exact .inl h
 ·exact .inr ⟨b1,cap,L,h1,yr hd h2,h3⟩
theorem RowsO.borrow{st:Store}{v:AV}{l:List α}(hf:∀x,(f x).length=k)(hs:∀x,∀y∈f x,∃u,y=AV.s u/\xa u=true)(hv:RowsO k f st v l){Oth M:Nat->Nat->Prop}{w:World}(sto:StoreOK st Oth M w){x:Value}(hx:VRel w (λb o=>M b o\/Oth b o) v x):
  VRel w (λb o=>(M b o\/Oth b o)/\st.obj b=none) (lst k f l) x:=by
 rcases hv with⟨rfl,rfl⟩|⟨b,cap,L,rfl,ho,h1,h2,h3⟩
 ·cases hx
  exact AV.le_nil k _ _ _ (.s _)
 ·cases hx
  exact za7 (sto.obj b _ ho).1 (λo hT=>by rw[ho]at hT;exact absurd hT.2 (by simp)) (zn l) h1
   (λrow hr=>by obtain⟨n,_,rfl⟩:=Fae.1 hr;exact hf n) (λrow hr y hy=>by
    obtain⟨n,_,rfl⟩:=Fae.1 hr
    exact hs n y hy)
theorem N6{P:Program}{c:Cfg}{e:TypeId}{ie:TI}(hie:c.I e=some ie)(hf:∀x,(f x).length=ie.size)(hby:ie.bytes<=1000){st:Store}{v:AV}{l:List α}(hv:RowsO ie.size f st v l)(x:α){src:AV}(hsrc:k9 ie.size (.av src)=some [f x])(hlen:l.length<=1000000000){K:Ja}
  (h:∀b cap L,(Fresh st b\/∃c0,v=.s (.slice (some ⟨b,0,none⟩) l.length c0))->(l++[x]).length<=cap->cap*ie.size<=(l++[x]).length*ie.size+L.length->cap<=9223372036854775807->
   K (.s (.slice (some ⟨b,0,none⟩) (l++[x]).length cap)) (st.sO b (.cells ((rws f (l++[x])).flatten++L)))):appendK P c st e (.av v) (.av src) K:=by
 refine⟨.inr ⟨v,_,rfl,rfl,?_⟩⟩
 have hl:(l++[x]).length=l.length+1:=by simp
 have hfl:=ja hf l
 have hmul:(l.length+1)*ie.bytes<=1000000001*1000:=Fc7 (by omega) hby
 have happ:(rws f (l++[x])).flatten=(rws f l).flatten++f x:=by
  rw[Mh]
  show _++(f x++[])=_
  rw[Fbv]
 rcases hv with⟨rfl,rfl⟩|⟨b,cap,L,rfl,ho,h1,h2,h3⟩
 ·refine zbo hie hsrc ⟨by simp at hmul⊢;omega,by simp⟩ (by simp) (λb' cap' hb hc hc2=>?_)
  have:=h b' cap' (List.replicate ((cap'-[f x].length)*ie.size) .any) (.inl hb) (by simpa using hc) (by
   simp only[Fbj,Fc0,Fas,<-Fb0]
   exact Fa5 _ (by omega)) hc2
  exact this
 ·refine Nz hie (cap:=cap) ho (by rw[Fad,hfl];exact h2) h1 hsrc ⟨by simp;omega,by simp;omega⟩ (λhc=>?_) (λhc b' cap' hb hc1 hc2=>?_)
  ·have hc:l.length+1<=cap:=hc
   have hcm:(l.length+1)*ie.size<=cap*ie.size:=Fa5 _ hc
   rw[Fef]at hcm
   have e1:zu ((rws f l).flatten++L) (l.length*ie.size) [f x].flatten=(rws f (l++[x])).flatten++L.drop ie.size:=by
    rw[D6 hfl,happ]
    simp[hf x]
   have:=h b cap (L.drop ie.size) (.inr ⟨cap,rfl⟩) (by omega) (by rw[hl,Fef,Fdi];omega) h3
   rw[hl,<-e1]at this
   exact this
  ·have hc1:l.length+1<=cap':=hc1
   have e1:((rws f l).flatten++L).take (l.length*ie.size)++[f x].flatten++List.replicate ((cap'-(l.length+1))*ie.size) .any=(rws f (l++[x])).flatten++List.replicate ((cap'-(l.length+1))*ie.size) .any:=by
    rw[Fbl (by omega),Fbr (by omega),happ]
    simp
   have:=h b' cap' (List.replicate ((cap'-(l.length+1))*ie.size) .any) (.inl hb) (by omega) (by
    rw[hl,Fbj,<-Fb0]
    exact Fa5 _ (by omega)) hc2
   rw[hl,<-e1]at this
   exact this
end
theorem yo(u:Unt):(zf u).length=10:=rfl
theorem f8(u:Unt):∀y∈zf u,∃x,y=AV.s x/\xa x=true:=by
 intro y hy
 simp[zf]at hy
 rcases hy with rfl|rfl|rfl|rfl|rfl|rfl|rfl|rfl|rfl|rfl<;>exact⟨_,rfl,rfl⟩
def zw(w:Wld)(v:AV):List AV:=[int w.tick,int w.players,int w.next,int w.G.W,int w.G.H,xu w.G.T,lst 6 zk w.B,v]
theorem Dh{l:List Unt}(hr:yq l){a b:Nat}(hab:a<b)(hb:b<l.length):(l[a]'(by omega)).id<l[b].id:=by
 induction b with
 |zero=>omega
 |succ b ih=>
  have h3:=hr (b+1) hb (by omega)
  simp only[Fd4]at h3
  by_cases e:a=b
  ·subst e;exact h3
  ·have:=ih (by omega) (by omega)
   omega
theorem j2{i:TI}{A:Fr}{st:Store}{b o:Nat}{v:AV}{xs l:List AV}{K:Fr->Store->Prop}(hc:cellsOf v=some xs)(h1:xs.all AV.one=true)(hi:i.size=xs.length)(ho:st.obj b=some (.cells l))(hl:o+xs.length<=l.length)
  (hk:K A (st.sO b (.cells (zu l o xs)))):Fx i A st (.av (.s (.pointer (some ⟨b,o,none⟩)))) v K:=by
 unfold Fx
 rw[hc]
 show(bif Nat.beq xs.length i.size&&(xs.all AV.one)then _ else False)
 rw[hi]
 simp only[h1,Fbw,Bool.and_self,cond_true]
 rw[ho]
 exact⟨hl,Iu hk⟩
theorem Ig(k:Int):24576<=zv k/\zv k<=81920:=by unfold zv;split<;>(try split)<;>omega
theorem Re{g:Gnd}(hg:zr g){l:List Bld}{c:Int}{p:Vc}{k:Int}(h:Az g l c p (zv k)):(24576<=p.1/\p.1+24576<=g.W*65536)/\(24576<=p.2/\p.2+24576<=g.H*65536)/\(p.1<=8388608/\p.2<=8388608):=by
 have h1:=h.1
 have h2:=Ig k
 obtain⟨⟨_,h3⟩,⟨_,h4⟩,_⟩:=hg
 omega
def js(g:Gnd)(p:Vc):Nat:=(p.1/65536+g.W*(p.2/65536)).toNat
theorem Vg{g:Gnd}(hg:zr g){p:Vc}(h:(0<=p.1/\p.1<g.W*65536)/\(0<=p.2/\p.2<g.H*65536)):
  ((js g p:Nat):Int)=p.1/65536+g.W*(p.2/65536)/\js g p<g.T.length/\((js g p:Nat):Int)%g.W=p.1/65536/\((js g p:Nat):Int)/g.W=p.2/65536:=by
 have hs:=H7 hg (x:=p.1/65536) (y:=p.2/65536) (by omega) (by omega)
 have ha:=qe hg
 unfold js
 generalize p.1/65536=x at*
 generalize p.2/65536=y at*
 have e:((x+g.W*y).toNat:Int)=x+g.W*y:=by omega
 rw[e]
 exact⟨rfl,by omega,hs.2.2.1,hs.2.2.2⟩
theorem ACalls.frozen{P:Program}{f:FuncId}{xs:List AV}{Q:Ja}{R:AV->Prop}(h:ACalls P f xs Store.empty Q)
  (hQ:∀r S,Q r S->∃r2,R r2/\∀(Oth M:Nat->Nat->Prop) (w:World) (v:Value),StoreOK S Oth M w->VRel w (λb o=>M b o\/Oth b o) r v->VRel w (λb o=>(M b o\/Oth b o)/\S.obj b=none) r2 v):
  ACalls P f xs Store.empty λr _=>R r:=by
 refine⟨λOth M w vs sto hr=>?_⟩
 have h1:=h.out Oth M w vs sto hr
 have key:∀v w',xe Store.empty Q Oth M w v w'->xe Store.empty (λr _=>R r) Oth M w v w':=by
  rintro v w' ⟨r,S,M',hq,hv,hs,hc⟩
  obtain⟨r2,hr2,hk⟩:=hQ r S hq
  refine⟨r2,Store.empty,λb o=>M' b o/\S.obj b=none,hr2,(hk Oth M' w' v hs hv).mono λb o hT=>?_,?_,?_⟩
  ·rcases hT with⟨h1,h2⟩|h1
   ·exact⟨.inl h1,h2⟩
   ·refine⟨.inr h1,?_⟩
    cases hb:S.obj b with
    |none=>rfl
    |some y=>exact absurd ((hs.obj b y hb).2 o) (hs.dis b o h1)
  ·exact{obj:=λb x hx=>(by cases hx),tok:=λb x hx=>(by cases hx),mlt:=λb o hm=>hs.mlt b o hm.1,olt:=hs.olt,dis:=λb o ho hm=>hs.dis b o ho hm.1}
  ·exact{size:=hc.size,keep:=hc.keep,blk:=hc.blk,shp:=hc.shp,sub:=λb o hm hb=>hc.sub b o hm.1 hb,tape:=hc.tape,os:=hc.os,output:=hc.output}
 generalize(callFunc f vs).run P w=res at h1
 cases res with
 |ok n w'=>
  cases n with
  |enter g args=>exact Calls.mono h1 λe w'' ⟨v,he,hv⟩=>⟨v,he,key _ _ hv⟩
  |value v=>exact key _ _ h1
  |_=>exact h1
 |_=>exact h1
theorem ACalls.frozenTo{P:Program}{f:FuncId}{xs:List AV}{st0:Store}{Q:Ja}{R:Ja}(h:ACalls P f xs st0 Q)
    (hQ:∀r S,Q r S->∃r2 S2,R r2 S2/\(∀b x,S2.obj b=some x->S.obj b=some x)/\(∀b x,S2.tok b≠some x)∧
      ∀(Oth M:Nat->Nat->Prop) (w:World) (v:Value),StoreOK S Oth M w->VRel w (λb o=>M b o\/Oth b o) r v->VRel w (λb o=>(M b o\/Oth b o)/\(S.obj b=none\/S2.obj b≠none)) r2 v):
    ACalls P f xs st0 R:=by
  refine⟨λOth M w vs sto hr=>?_⟩
  have h1:=h.out Oth M w vs sto hr
  have key:∀v w',xe st0 Q Oth M w v w'->xe st0 R Oth M w v w':=by
    rintro v w' ⟨r,S,M',hq,hv,hs,hc⟩
    obtain⟨r2,S2,hr2,hsub,htok,hk⟩:=hQ r S hq
    have hT:∀b o,((M' b o/\(S.obj b=none\/S2.obj b≠none))\/Oth b o)->(M' b o\/Oth b o):=λb o h=>h.imp (·.1) id
    refine⟨r2,S2,λb o=>M' b o/\(S.obj b=none\/S2.obj b≠none),hr2,(hk Oth M' w' v hs hv).mono λb o hT=>?_,?_,?_⟩
    · rcases hT with⟨h1,h2⟩|h1
      · exact⟨.inl h1,h2⟩
      · refine⟨.inr h1,?_⟩
        cases hb:S.obj b with
        |none=>exact .inl rfl
        |some y=>exact absurd ((hs.obj b y hb).2 o) (hs.dis b o h1)
    · exact { obj:=λb x hx=>⟨(hs.obj b x (hsub b x hx)).1.mono hT,λo=>⟨(hs.obj b x (hsub b x hx)).2 o,.inr (by rw[hx];simp)⟩⟩
              tok:=λb x hx=>absurd hx (htok b x),mlt:=λb o hm=>hs.mlt b o hm.1,olt:=hs.olt,dis:=λb o ho hm=>hs.dis b o ho hm.1}
    · exact{size:=hc.size,keep:=hc.keep,blk:=hc.blk,shp:=hc.shp,sub:=λb o hm hb=>hc.sub b o hm.1 hb,tape:=hc.tape,os:=hc.os,output:=hc.output}
  generalize(callFunc f vs).run P w=res at h1
  cases res with
  | ok n w'=>
    cases n with
    |enter g args=>exact Calls.mono h1 λe w'' ⟨v,he,hv⟩=>⟨v,he,key _ _ hv⟩
    |value v=>exact key _ _ h1
    |_=>exact h1
  |_=>exact h1
def Kq(a:Option Addr):Prop:=∀x,a=some x->x.spot=none
section
variable {P:Program} {c:Cfg} {st:Store}
theorem ed{e:TypeId}{ie:TI}(hie:c.I e=some ie){a:Option Addr}{x:AV}{rows:List (List AV)}(hx:k9 ie.size (.av x)=some rows)(hroom:room rows.length ie.bytes)(hne:0<rows.length){K:Ja}
  (h2:∀b' cap',Fresh st b'->rows.length<=cap'->cap'<=9223372036854775807->K (.s (.slice (some ⟨b',0,none⟩) rows.length cap')) (st.sO b' (.cells (rows.flatten++List.replicate ((cap'-rows.length)*ie.size) .any)))):
  AppX P c st e (.s (.slice a 0 0)) x K:=by
 refine⟨⟨ie,hie⟩,λie' hie' Oth M w sv xv argTypes ty args t sto hs hxv hat ht1 hu hti h0 h1'=>?_⟩
 rw[hie]at hie'
 cases hie'
 have hs:=VRel.eq_s hs
 subst hs
 have A:AppArgs P c argTypes args t e ie a 0 0 xv:=⟨hat,ht1,hu,hti,h0,h1'⟩
 obtain⟨hl1,hl2,new,hnew,hone,hnsz,hfc⟩:=G4 (P:=P) (β:=λ_=>0) (k:=ie.size) (x:=.av x) hxv hx
 obtain⟨newCap,rest,g1,g0,g2,g3⟩:=I8 (old:=#[]) ty A hl1 (hfc w.drew rfl) (by cases a<;>simp[Builtin.firstCells,loadCells,loadCellsFrom]) (by omega) (by simpa using hroom)
 have gd:Grow w w.drew:=Grow.drew w
 have sto1:=sto.grow gd
 obtain⟨f1,f2,f3⟩:=F9 sto1 (#[]++new++rest) e (l:=rows.flatten++List.replicate rest.size .any) (by
  rw[Fbf,Fbf]
  refine((show Reads w _ rows.flatten ([]++new.toList)from hnew).append ⟨by simp,λi x y hx hy=>?_⟩).keep (gd.keeps _)
  rw[Fca]at hx
  split at hx
  ·cases hx;exact .any _
  ·cases hx)
 rw[g2]at f2
 simp only[Fbe]at g1 g3 f2
 exact⟨_,_,g3,_,_,_,h2 _ newCap f1 g1 g0,.s _,f2,(gd.chg M).trans f3⟩
theorem yfg{e:TypeId}{ie:TI}(hie:c.I e=some ie){x:AV}{rows:List (List AV)}(hx:k9 ie.size (.av x)=some rows)(hroom:room rows.length ie.bytes){K:Ja}
  (h1:rows=[]->∀a,Kq a->K (.s (.slice a 0 0)) st)
  (h2:0<rows.length->∀b' cap',Fresh st b'->rows.length<=cap'->cap'<=9223372036854775807->K (.s (.slice (some ⟨b',0,none⟩) rows.length cap')) (st.sO b' (.cells (rows.flatten++List.replicate ((cap'-rows.length)*ie.size) .any)))):
  AppX P c st e .emp x K:=by
 refine⟨⟨ie,hie⟩,λie' hie' Oth M w sv xv argTypes ty args t sto hs hxv hat ht1 hu hti h0 h1'=>?_⟩
 cases hs with
 |emp a ha=>
  by_cases hr:0<rows.length
  ·exact(ed hie hx hroom hr (h2 hr)).out ie' hie' Oth M w _ xv argTypes ty args t sto (.s _) hxv hat ht1 hu hti h0 h1'
  ·rw[hie]at hie'
   cases hie'
   have hr0:rows=[]:=Faw (by omega)
   subst hr0
   have A:AppArgs P c argTypes args t e ie a 0 0 xv:=⟨hat,ht1,hu,hti,h0,h1'⟩
   obtain⟨hl1,hl2,new,hnew,hone,hnsz,hfc⟩:=G4 (P:=P) (β:=λ_=>0) (k:=ie.size) (x:=.av x) hxv hx
   have hn0:new.toList=[]:=by
    have:new.toList.length=0:=by rw[Fb4,hnsz];simp
    exact Faw this
   have hrun:=I7 (w':=w) ty A hl1 (hfc w rfl) (by simp) (λb hb=>by rw[hn0];simp[storeCells]) (λ_=>rfl)
   exact⟨_,_,hrun,_,_,M,h1 rfl a ha,.s _,sto,Chg.refl M w⟩
end
def RowsQ{α:Type}(k:Nat)(f:α->List AV)(st:Store)(v:AV)(l:List α):Prop:=
 RowsO k f st v l\/∃a,Kq a/\v=.s (.slice a 0 0)/\l=[]
section
variable {α:Type} {f:α->List AV} {k:Nat}
theorem RowsO.q{st:Store}{v:AV}{l:List α}(h:RowsO k f st v l):RowsQ k f st v l:=.inl h
theorem RowsQ.un{a g:Store}{v:AV}{l:List α}(h:RowsQ k f g v l):RowsQ k f (a.un g) v l:=h.imp (·.un) id
theorem RowsQ.unL{a g:Store}{v:AV}{l:List α}(h:RowsQ k f a v l)(hd:zl a g):RowsQ k f (a.un g) v l:=h.imp (·.unL hd) id
theorem RowsQ.form{st:Store}{v:AV}{l:List α}(h:RowsQ k f st v l):∃oa cap,v=.s (.slice oa l.length cap)/\∀i,i<l.length->∃b L,oa=some ⟨b,0,none⟩/\st.obj b=some (.cells ((rws f l).flatten++L)):=by
 rcases h with(⟨rfl,rfl⟩|⟨b,cap,L,rfl,ho,_⟩)|⟨a,_,rfl,rfl⟩
 ·exact⟨none,0,rfl,λi hi=>absurd hi (Fa2 i)⟩
 ·exact⟨_,cap,rfl,λi _=>⟨b,L,rfl,ho⟩⟩
 ·exact⟨a,0,rfl,λi hi=>absurd hi (Fa2 i)⟩
theorem RowsQ.borrow{st:Store}{v:AV}{l:List α}(hf:∀x,(f x).length=k)(hs:∀x,∀y∈f x,∃u,y=AV.s u/\xa u=true)(hv:RowsQ k f st v l){Oth M:Nat->Nat->Prop}{w:World}(sto:StoreOK st Oth M w){x:Value}(hx:VRel w (λb o=>M b o\/Oth b o) v x):
  VRel w (λb o=>(M b o\/Oth b o)/\st.obj b=none) (lst k f l) x:=by
 rcases hv with hv|⟨a,ha,rfl,rfl⟩
 ·exact hv.borrow hf hs sto hx
 ·cases hx
  exact .nil k a
theorem RowsQ.sub{S S2:Store}{v:AV}{l:List α}(h:RowsQ k f S v l)(hk:∀b n c,v=.s (.slice (some ⟨b,0,none⟩) n c)->S2.obj b=S.obj b):RowsQ k f S2 v l:=by
 rcases h with(h|⟨b,cap,L,rfl,ho,h2⟩)|h
 ·exact .inl (.inl h)
 ·exact .inl (.inr ⟨b,cap,L,rfl,by rw[hk b _ _ rfl];exact ho,h2⟩)
 ·exact .inr h
theorem ee{P:Program}{c:Cfg}{e:TypeId}{ie:TI}(hie:c.I e=some ie)(hf:∀x,(f x).length=ie.size)(hby:ie.bytes<=1000){st:Store}{v:AV}{l:List α}(hv:RowsQ ie.size f st v l)(x:α){src:AV}(hsrc:k9 ie.size (.av src)=some [f x])(hlen:l.length<=1000000000){K:Ja}
  (h:∀b cap L,(Fresh st b\/∃c0,0<c0/\v=.s (.slice (some ⟨b,0,none⟩) l.length c0))->(l++[x]).length<=cap->cap*ie.size<=(l++[x]).length*ie.size+L.length->cap<=9223372036854775807->
   K (.s (.slice (some ⟨b,0,none⟩) (l++[x]).length cap)) (st.sO b (.cells ((rws f (l++[x])).flatten++L)))):appendK P c st e (.av v) (.av src) K:=by
 refine⟨.inr ⟨v,_,rfl,rfl,?_⟩⟩
 have hl:(l++[x]).length=l.length+1:=by simp
 have hfl:=ja hf l
 have hmul:(l.length+1)*ie.bytes<=1000000001*1000:=Fc7 (by omega) hby
 have happ:(rws f (l++[x])).flatten=(rws f l).flatten++f x:=by
  rw[Mh]
  show _++(f x++[])=_
  rw[Fbv]
 have empty:∀a:Option Addr,l=[]->v=.s (.slice a 0 0)->AppX P c st e v src K:=λa hl0 hva=>by
  subst hl0 hva
  refine ed hie hsrc ⟨by simp;omega,by simp⟩ (by simp) (λb' cap' hb hc hc2=>?_)
  have:=h b' cap' (List.replicate ((cap'-[f x].length)*ie.size) .any) (.inl hb) (by simpa using hc) (by
   simp only[Fbj,Fc0,Fas,<-Fb0]
   exact Fa5 _ (by omega)) hc2
  exact this
 rcases hv with(⟨hv,hl0⟩|⟨b,cap,L,rfl,ho,h1,h2,h3⟩)|⟨a,ha,hv,hl0⟩
 ·exact empty _ hl0 hv
 ·refine Nz hie (cap:=cap) ho (by rw[Fad,hfl];exact h2) h1 hsrc ⟨by simp;omega,by simp;omega⟩ (λhc=>?_) (λhc b' cap' hb hc1 hc2=>?_)
  ·have hc:l.length+1<=cap:=hc
   have hcm:(l.length+1)*ie.size<=cap*ie.size:=Fa5 _ hc
   rw[Fef]at hcm
   have e1:zu ((rws f l).flatten++L) (l.length*ie.size) [f x].flatten=(rws f (l++[x])).flatten++L.drop ie.size:=by
    rw[D6 hfl,happ]
    simp[hf x]
   have:=h b cap (L.drop ie.size) (.inr ⟨cap,by omega,rfl⟩) (by omega) (by rw[hl,Fef,Fdi];omega) h3
   rw[hl,<-e1]at this
   exact this
  ·have hc1:l.length+1<=cap':=hc1
   have e1:((rws f l).flatten++L).take (l.length*ie.size)++[f x].flatten++List.replicate ((cap'-(l.length+1))*ie.size) .any=(rws f (l++[x])).flatten++List.replicate ((cap'-(l.length+1))*ie.size) .any:=by
    rw[Fbl (by omega),Fbr (by omega),happ]
    simp
   have:=h b' cap' (List.replicate ((cap'-(l.length+1))*ie.size) .any) (.inl hb) (by omega) (by
    rw[hl,Fbj,<-Fb0]
    exact Fa5 _ (by omega)) hc2
   rw[hl,<-e1]at this
   exact this
 ·exact empty _ hl0 hv
theorem ef{P:Program}{c:Cfg}{e:TypeId}{ie:TI}(hie:c.I e=some ie)(hf:∀x,(f x).length=ie.size)(hby:ie.bytes<=1000){st:Store}{l:List α}(hlen:l.length<=1000000000){K:Ja}
  (h:∀v N,RowsQ ie.size f N v l->zl N st->K v (N.un st)):appendK P c st e (.av .emp) (.av (lst ie.size f l)) K:=by
 refine⟨.inr ⟨_,_,rfl,rfl,?_⟩⟩
 have hmul:l.length*ie.bytes<=1000000000*1000:=Fc7 (by omega) hby
 refine yfg hie (rows:=rws f l) (by simp[k9,lst]) ⟨by rw[zn];omega,by rw[zn];omega⟩ (λhr a ha=>?_) (λhr b cap hb hc hc2=>?_)
 ·have hl:l=[]:=by
   have:=congrArg List.length hr
   rw[zn]at this
   exact Faw this
  subst hl
  have:=h (.s (.slice a 0 0)) Store.empty (.inr ⟨a,ha,rfl,rfl⟩) (λb hb=>(hb.elim (λh=>h rfl) (λh=>h rfl):False).elim)
  rwa [wu]at this
 ·rw[zn]at hc⊢
  have:=h (.s (.slice (some ⟨b,0,none⟩) l.length cap)) (Store.empty.sO b (.cells ((rws f l).flatten++List.replicate ((cap-l.length)*ie.size) .any))) (.inl (.inr ⟨b,cap,_,rfl,zd _ _ _,hc,by
   simp only[Fbj,<-Fb0]
   exact Fa5 _ (by omega),hc2⟩)) (λi hi hs=>by
    have:i=b:=Decidable.byContradiction λhne=>by
     rcases hi with hi|hi
     ·rw[zi hne]at hi;exact hi rfl
     ·exact hi rfl
    subst this
    exact fresh_iff.1 hb hs)
  have e:(Store.empty.sO b (.cells ((rws f l).flatten++List.replicate ((cap-l.length)*ie.size) .any))).un st=st.sO b (.cells ((rws f l).flatten++List.replicate ((cap-l.length)*ie.size) .any)):=by
   rw[<-Bf (fresh_iff.1 hb),wu]
  rw[e]at this
  exact this
end
section
variable {w:Wld} {v:AV} {k p:Nat} {S:Store}
theorem Ch{st:Store}(hv:RowsQ 10 zf st v w.U){Oth M:Nat->Nat->Prop}{W:World}(sto:StoreOK st Oth M W){x:Value}(hx:VRel W (λb o=>M b o\/Oth b o) (.agg (zw w v)) x):
  VRel W (λb o=>(M b o\/Oth b o)/\st.obj b=none) (.agg (zt w)) x:=by
 cases hx with
 |agg _ c hl hc=>
  refine .agg _ c hl λi x y hx hy=>?_
  match i with
  |0=>simp only[zt,Far,Fal]at hx;subst hx;exact xp (hc 0 _ y rfl hy)
  |1=>simp only[zt,Faz,Far,Fal]at hx;subst hx;exact xp (hc 1 _ y rfl hy)
  |2=>simp only[zt,Faz,Far,Fal]at hx;subst hx;exact xp (hc 2 _ y rfl hy)
  |3=>simp only[zt,Faz,Far,Fal]at hx;subst hx;exact xp (hc 3 _ y rfl hy)
  |4=>simp only[zt,Faz,Far,Fal]at hx;subst hx;exact xp (hc 4 _ y rfl hy)
  |5=>simp only[zt,Faz,Far,Fal]at hx;subst hx;exact xp (hc 5 _ y rfl hy)
  |6=>simp only[zt,Faz,Far,Fal]at hx;subst hx;exact xp (hc 6 _ y rfl hy)
  |7=>simp only[zt,Faz,Far,Fal]at hx;subst hx;exact hv.borrow yo f8 sto (hc 7 _ y rfl hy)
  |i+8=>simp[zt]at hx
def wj(v:AV)(p:Nat):Prop:=∀b n c,v=.s (.slice (some ⟨b,0,none⟩) n c)->0<c->b≠p
theorem RowsQ.set{α:Type}{f:α->List AV}{l:List α}(h:RowsQ k f S v l)(hp:wj v p)(x:AObj):RowsQ k f (S.sO p x) v l:=by
 rcases h with(h|⟨b,cap,L,rfl,ho,h2,h3⟩)|h
 ·exact .inl (.inl h)
 ·by_cases hc:0<cap
  ·exact .inl (.inr ⟨b,cap,L,rfl,by rw[zi (hp b _ _ rfl hc)];exact ho,h2,h3⟩)
  ·have h0:cap=0:=by omega
   subst h0
   have hl:l=[]:=Faw (by omega)
   subst hl
   exact .inr ⟨_,λx hx=>by cases hx;rfl,rfl,rfl⟩
 ·exact .inr h
theorem Dk{α:Type}{f:α->List AV}{l:List α}(h:RowsQ k f S v l)(hp:S.obj p=none):wj v p:=by
 rcases h with(⟨rfl,rfl⟩|⟨b,cap,L,rfl,ho,h2⟩)|⟨a,ha,rfl,rfl⟩
 ·intro b n c e
  simp at e
 ·intro b' n c e _
  simp only[AV.s.injEq,Value.slice.injEq,Fal,Addr.mk.injEq]at e
  obtain⟨⟨rfl,_⟩,_⟩:=e
  intro e2
  subst e2
  rw[hp]at ho
  cases ho
 ·intro b n c e hc
  simp only[AV.s.injEq,Value.slice.injEq]at e
  omega
def spU(w:Wld)(c:Cmd):Unt:=⟨w.next,c.P,c.N,(c.X,c.Y),-1,-1,0,0,0⟩
def spW(w:Wld)(c:Cmd):Wld:={w with U:=w.U++[spU w c],next:=w.next+1}
def Hj(w:Wld):Prop:=4096<=w.U.length\/1099511627776<=w.next
open Classical in
noncomputable def spE(w:Wld)(c:Cmd):Int:=if Hj w then 4 else if qa w 0 c.N (c.X,c.Y)then 0 else 5
open Classical in
noncomputable def doE(E:Wld->Cmd->Int)(w:Wld)(c:Cmd):Int:=if¬z6 w\/¬j8 c\/w.players<c.P then 1 else E w c
open Classical in
noncomputable def doW(E:Wld->Cmd->Int)(W:Wld->Cmd->Wld)(w:Wld)(c:Cmd):Wld:=if doE E w c=0 then W w c else w
theorem Gm{E:Wld->Cmd->Int}{c:Cmd}(h:¬z6 w\/¬j8 c\/w.players<c.P):doE E w c=1:=by unfold doE;rw[if_pos h]
theorem Ho{E:Wld->Cmd->Int}{c:Cmd}(h1:z6 w)(h2:j8 c)(h3:c.P<=w.players):doE E w c=E w c:=by
 unfold doE
 rw[if_neg]
 rintro(h|h|h)
 ·exact h h1
 ·exact h h2
 ·omega
theorem uz{E:Wld->Cmd->Int}{W:Wld->Cmd->Wld}{c:Cmd}(h:doE E w c=0):doW E W w c=W w c:=by unfold doW;rw[if_pos h]
theorem cg{E:Wld->Cmd->Int}{W:Wld->Cmd->Wld}{c:Cmd}(h:doE E w c≠0):doW E W w c=w:=by unfold doW;rw[if_neg h]
end
structure Scr where
 W:Wld
 L:List Cmd
def Kv(s:Scr):List AV:=[int s.W.tick,int s.W.players,int s.W.next,int s.W.G.W,int s.W.G.H,xu s.W.G.T,lst 6 zk s.W.B,lst 10 zf s.W.U,lst 10 qi s.L]
end Go.V
namespace Go.V
section
variable {j n i k:Nat}
def qlt(a b:Int×Int):Prop:=a.1<b.1\/a.1=b.1/\a.2<b.2
instance(a b:Int×Int):Decidable (qlt a b):=by unfold qlt;exact inferInstance
theorem We(a:Int×Int):¬qlt a a:=by unfold qlt;omega
theorem Pd{a b c:Int×Int}(h:¬qlt b a)(k:¬qlt c b):¬qlt c a:=by unfold qlt at*;omega
theorem Pe{a b:Int×Int}(h:qlt a b):¬qlt b a:=by unfold qlt at*;omega
theorem nl{a b:Int×Int}(h:¬qlt b a):a.1<=b.1:=by unfold qlt at*;omega
def par(j:Nat):Nat:=(j-1)/2
def Gz(f:Nat->Int×Int)(i k:Nat):Nat->Int×Int:=λj=>if j=k then f i else if j=i then f k else f j
def Kb(f:Nat->Int×Int)(n:Nat):Prop:=∀j,0<j->j<n->¬qlt (f j) (f (par j))
def UpF(f:Nat->Int×Int)(n i:Nat):Prop:=(∀j,0<j->j<n->j≠i->¬qlt (f j) (f (par j)))/\∀j,0<j->j<n->par j=i->0<i->¬qlt (f j) (f (par i))
def Gs(f:Nat->Int×Int)(n i:Nat):Prop:=(∀j,0<j->j<n->par j≠i->¬qlt (f j) (f (par j)))/\∀j,0<j->j<n->par j=i->0<i->¬qlt (f j) (f (par i))
theorem Bk(h:0<j):par j<j:=by unfold par;omega
theorem zc8{f:Nat->Int×Int}(h:UpF f n i)(hi:i=0\/¬qlt (f i) (f (par i))):Kb f n:=by
 intro j h0 hj
 by_cases e:j=i
 ·subst e
  rcases hi with hi|hi
  ·omega
  ·exact hi
 ·exact h.1 j h0 hj e
theorem zc7{f:Nat->Int×Int}(h:Kb f n):UpF f (n+1) n:=
 ⟨λj h0 hj hn=>h j h0 (by omega),λj h0 hj hp h1=>by have:=Bk h0;omega⟩
theorem zc6{f:Nat->Int×Int}(h:UpF f n i)(h0:0<i)(hi:i<n)(hl:qlt (f i) (f (par i))):UpF (Gz f i (par i)) n (par i):=by
 have hp:=Bk h0
 refine⟨λj j0 jn jp=>?_,λj j0 jn jp p0=>?_⟩
 ·unfold Gz
  rw[if_neg jp]
  by_cases e:j=i
  ·subst e
   rw[if_pos rfl,if_pos rfl]
   exact Pe hl
  ·rw[if_neg e]
   by_cases e2:par j=par i
   ·rw[if_pos e2]
    have h1:=h.1 j j0 jn e
    rw[e2]at h1
    exact Pd (Pe hl) h1
   ·rw[if_neg e2]
    by_cases e3:par j=i
    ·rw[if_pos e3]
     exact h.2 j j0 jn e3 h0
    ·rw[if_neg e3]
     exact h.1 j j0 jn e
 ·have hpp:=Bk p0
  unfold Gz
  rw[if_neg (show¬par (par i)=par i by omega),if_neg (show¬par (par i)=i by omega)]
  have h1:=h.1 (par i) p0 (by omega) (by omega)
  by_cases e:j=i
  ·subst e
   rw[if_neg (show¬j=par j by omega),if_pos rfl]
   exact h1
  ·have hjp:j≠par i:=by have:=Bk j0;omega
   rw[if_neg hjp,if_neg e]
   have h2:=h.1 j j0 jn e
   rw[jp]at h2
   exact Pd h1 h2
theorem uy{f:Nat->Int×Int}(h:Gs f n i)(hc:∀j,0<j->j<n->par j=i->¬qlt (f j) (f i)):Kb f n:=by
 intro j h0 hj
 by_cases e:par j=i
 ·rw[e];exact hc j h0 hj e
 ·exact h.1 j h0 hj e
theorem yco{f:Nat->Int×Int}(h:Gs f n i)(hk0:0<k)(hk:k<n)(hki:par k=i)(hmin:∀j,0<j->j<n->par j=i->¬qlt (f j) (f k))(hl:qlt (f k) (f i)):Gs (Gz f i k) n k:=by
 have hik:i<k:=hki▸Bk hk0
 refine⟨λj j0 jn jp=>?_,λj j0 jn jp _=>?_⟩
 ·unfold Gz
  rw[if_neg jp]
  by_cases e:j=k
  ·subst e
   rw[if_pos rfl,if_pos hki]
   exact Pe hl
  ·rw[if_neg e]
   by_cases e2:j=i
   ·subst e2
    have hpj:par j≠j:=by have:=Bk j0;omega
    rw[if_pos rfl,if_neg hpj]
    exact h.2 k hk0 hk hki j0
   ·rw[if_neg e2]
    by_cases e3:par j=i
    ·rw[if_pos e3]
     exact hmin j j0 jn e3
    ·rw[if_neg e3]
     exact h.1 j j0 jn e3
 ·have hjk:k<j:=jp▸Bk j0
  unfold Gz
  rw[if_neg (show¬j=k by omega),if_neg (show¬j=i by omega),hki,if_neg (show¬i=k by omega),if_pos rfl]
  have h1:=h.1 j j0 jn (by omega)
  rw[jp]at h1
  exact h1
theorem zz2{f:Nat->Int×Int}(h:Kb f n):∀j,j<n->¬qlt (f j) (f 0):=by
 intro j
 induction j using Nat.strongRecOn with
 |_ j ih=>
  intro hj
  by_cases e:j=0
  ·subst e;exact We _
  ·have hp:=Bk (Nat.pos_of_ne_zero e)
   exact Pd (ih _ hp (by omega)) (h j (by omega) hj)
theorem Mv(h:0<j):par j=i↔j=2*i+1\/j=2*i+2:=by unfold par;omega
def qat(l:List (Int×Int))(j:Nat):Int×Int:=l.getD j (0,0)
def we(l:List (Int×Int)):Prop:=Kb (qat l) l.length
def vr(l:List (Int×Int))(i k:Nat):List (Int×Int):=(l.set i (qat l k)).set k (qat l i)
theorem Kn(l:List (Int×Int))(i k:Nat):(vr l i k).length=l.length:=by simp[vr]
theorem Mt{l:List (Int×Int)}(h:j<l.length):qat l j=l[j]:=by simp[qat,List.getD,Fab h]
theorem nr{l:List (Int×Int)}(h:i<l.length)(x:Int×Int)(j:Nat):qat (l.set i x) j=if j=i then x else qat l j:=by
 unfold qat
 simp only[List.getD,Fdu]
 by_cases e:i=j
 ·subst e;simp[h]
 ·simp[e,Ne.symm e]
theorem nn{l:List (Int×Int)}(hi:i<l.length)(hk:k<l.length):qat (vr l i k)=Gz (qat l) i k:=by
 funext j
 unfold vr Gz
 rw[nr (by simpa using hk),nr hi]
theorem ij{l:List (Int×Int)}(hi:i<l.length)(hk:k<l.length):(vr l i k).Perm l:=by
 unfold vr
 rw[Mt hi,Mt hk]
 exact List.set_set_perm hi hk
theorem nt(l:List (Int×Int))(x:Int×Int)(j:Nat)(h:j<l.length):qat (l++[x]) j=qat l j:=by
 unfold qat
 simp only[List.getD]
 rw[Fam h]
end
structure FarOK(E:Nat->Nat->Int->Prop)(goal:Nat)(d:Nat->Int):Prop where
 lab:∀u,d u=-1\/0<=d u
 gl:d goal=0
 pre:∀u,u≠goal->0<=d u->∃t c,0<=d t/\E t u c/\d t+c<=d u
 rel:∀t u c,0<=d t->E t u c->0<=d u/\d u<=d t+c
section
variable {goal u n t:Nat} {cur c:Int}
theorem Rk{E:Nat->Nat->Int->Prop}(hE:∀t u c,E t u c->0<c){d e:Nat->Int}(h:FarOK E goal d)(k:FarOK E goal e):∀(n:Nat) (u:Nat),0<=e u->(e u).toNat=n->0<=d u/\d u<=e u:=by
 intro n
 induction n using Nat.strongRecOn with
 |_ n ih=>
  intro u hu hn
  by_cases hg:u=goal
  ·subst hg
   have h1:=h.gl
   have h2:=k.gl
   omega
  ·obtain⟨t,c,ht,hE1,hc⟩:=k.pre u hg hu
   have hp:=hE _ _ _ hE1
   obtain⟨h1,h2⟩:=ih (e t).toNat (by omega) t ht rfl
   obtain⟨h3,h4⟩:=h.rel t u c h1 hE1
   exact⟨h3,by omega⟩
theorem yb4{E:Nat->Nat->Int->Prop}(hE:∀t u c,E t u c->0<c){d e:Nat->Int}(h:FarOK E goal d)(k:FarOK E goal e):d=e:=by
 funext u
 rcases h.lab u with h1|h1
 ·rcases k.lab u with h2|h2
  ·omega
  ·have:=Rk hE h k _ u h2 rfl
   omega
 ·rcases k.lab u with h2|h2
  ·have:=Rk hE k h _ u h1 rfl
   omega
  ·have h3:=Rk hE h k _ u h2 rfl
   have h4:=Rk hE k h _ u h1 rfl
   omega
def zx{α:Type}(d:Nat->α)(u:Nat)(x:α):Nat->α:=λj=>if j=u then x else d j
theorem j1{α:Type}(d:Nat->α)(u:Nat)(x:α):zx d u x u=x:=by simp[zx]
theorem xf{α:Type}{d:Nat->α}{j:Nat}{x:α}(h:j≠u):zx d u x j=d j:=by simp[zx,h]
structure DJ(E:Nat->Nat->Int->Prop)(n goal:Nat)(d:Nat->Int)(dn:Nat->Bool)(q:List (Int×Int))(cur:Int)(O:Nat->Nat->Int->Prop):Prop where
 lab:∀u,d u=-1\/0<=d u
 gl:d goal=0
 pre:∀u,u≠goal->0<=d u->∃t c,dn t=true/\0<=d t/\E t u c/\d t+c<=d u
 rel:∀t u c,dn t=true->E t u c->¬O t u c->0<=d u/\d u<=d t+c
 mono:∀t,dn t=true->0<=d t/\d t<=cur
 ent:∀e∈q,∃u:Nat,e.2=(u:Int)/\u<n/\0<=d u/\d u<=e.1/\cur<=e.1
 wait:∀u,0<=d u->dn u=false->(d u,(u:Int))∈q
def Cu:Nat->Nat->Int->Prop:=λ_ _ _=>False
theorem ycs(E:Nat->Nat->Int->Prop)(hg:goal<n){d:Nat->Int}(hd:∀u,d u=if u=goal then 0 else -1):DJ E n goal d (λ_=>false) [(0,(goal:Int))] 0 Cu:=by
 refine⟨λu=>?_,by simp[hd],λu hu h=>?_,λt u c h=>?_,λt h=>?_,λe he=>?_,λu h _=>?_⟩
 ·rw[hd];split<;>simp
 ·rw[hd,if_neg hu]at h;omega
 ·cases h
 ·cases h
 ·simp only[Fb1]at he
  subst he
  exact⟨goal,rfl,hg,by simp[hd],by simp[hd],by simp⟩
 ·rw[hd]at h
  split at h
  ·rename_i e;subst e;simp[hd]
  ·omega
theorem ycq{E:Nat->Nat->Int->Prop}{d:Nat->Int}{dn:Nat->Bool}{q q':List (Int×Int)}(h:DJ E n goal d dn q cur Cu){x:Int×Int}{t:Nat}(ht:x.2=(t:Int))(hp:q.Perm (x::q'))(hd:dn t=true):DJ E n goal d dn q' cur Cu:=by
 refine⟨h.lab,h.gl,h.pre,h.rel,h.mono,λe he=>h.ent e (hp.mem_iff.2 (Fa6 _ he)),λu hu hn=>?_⟩
 rcases Fat.1 (hp.mem_iff.1 (h.wait u hu hn))with he|he
 ·have:(u:Int)=t:=by rw[<-ht,<-he]
  have:u=t:=by omega
  subst this
  rw[hd]at hn;cases hn
 ·exact he
theorem ycp{E:Nat->Nat->Int->Prop}{d:Nat->Int}{dn:Nat->Bool}{q q':List (Int×Int)}(h:DJ E n goal d dn q cur Cu){x:Int×Int}{t:Nat}(ht:x.2=(t:Int))(hp:q.Perm (x::q'))(hm:∀e∈q,¬qlt e x)(hd:dn t=false):
  x.1=d t/\DJ E n goal d (zx dn t true) q' x.1 (λa _ _=>a=t):=by
 have hx:x∈q:=hp.mem_iff.2 Fbi
 obtain⟨u,hu,hun,hu0,hux,huc⟩:=h.ent x hx
 have:u=t:=by omega
 subst this
 have hk:x.1=d u:=by
  have:=nl (hm _ (h.wait u hu0 hd))
  simp only at this
  omega
 refine⟨hk,h.lab,h.gl,λv hv hl=>?_,λa b c ha hE hO=>?_,λa ha=>?_,λe he=>?_,λv hv hn=>?_⟩
 ·obtain⟨a,c,h1,h2,h3,h4⟩:=h.pre v hv hl
  exact⟨a,c,by unfold zx;split<;>simp_all,h2,h3,h4⟩
 ·rw[xf hO]at ha
  exact h.rel a b c ha hE (λh=>h)
 ·unfold zx at ha
  split at ha
  ·rename_i e;subst e;omega
  ·have:=h.mono a ha
   omega
 ·have he2:=hp.mem_iff.2 (Fa6 x he)
  obtain⟨v,h1,h2,h3,h4,h5⟩:=h.ent e he2
  exact⟨v,h1,h2,h3,h4,nl (hm e he2)⟩
 ·unfold zx at hn
  split at hn
  ·cases hn
  ·rename_i hne
   rcases Fat.1 (hp.mem_iff.1 (h.wait v hv hn))with he|he
   ·have:(v:Int)=u:=by rw[<-ht,<-he]
    omega
   ·exact he
theorem cj{E:Nat->Nat->Int->Prop}{d:Nat->Int}{dn:Nat->Bool}{q:List (Int×Int)}{O O':Nat->Nat->Int->Prop}(h:DJ E n goal d dn q cur O)
  (ho:∀t u c,O t u c->¬O' t u c->E t u c->0<=d u/\d u<=d t+c):DJ E n goal d dn q cur O':=
 ⟨h.lab,h.gl,h.pre,λt u c ht hE hO=>by
  by_cases e:O t u c
  ·exact ho t u c e hO hE
  ·exact h.rel t u c ht hE e,h.mono,h.ent,h.wait⟩
theorem u9{E:Nat->Nat->Int->Prop}(hE:∀t u c,E t u c->0<c){d:Nat->Int}{dn:Nat->Bool}{q q':List (Int×Int)}{O:Nat->Nat->Int->Prop}(h:DJ E n goal d dn q cur O){u:Nat}(ht:dn t=true)(htc:d t=cur)(hu:u<n)(hEu:E t u c)(hd:dn u=false)(hl:d u<0\/cur+c<d u)
  (hq:q'.Perm ((cur+c,(u:Int))::q)):DJ E n goal (zx d u (cur+c)) dn q' cur O:=by
 have hc:=hE _ _ _ hEu
 have hcur:0<=cur:=by have:=h.mono t ht;omega
 have htu:t≠u:=λe=>by subst e;rw[ht]at hd;cases hd
 have hdn:∀a,dn a=true->a≠u:=λa ha e=>by subst e;rw[ha]at hd;cases hd
 have hgu:goal≠u:=λe=>by subst e;have:=h.gl;omega
 refine⟨λv=>?_,by rw[xf hgu];exact h.gl,λv hv hl2=>?_,λa b k ha hE2 hO=>?_,λa ha=>?_,λe he=>?_,λv hv hn=>?_⟩
 ·unfold zx;split
  ·right;omega
  ·exact h.lab v
 ·by_cases e:v=u
  ·subst e
   exact⟨t,c,ht,by rw[xf htu];omega,hEu,by rw[xf htu,j1];omega⟩
  ·rw[xf e]at hl2⊢
   obtain⟨a,k,h1,h2,h3,h4⟩:=h.pre v hv hl2
   exact⟨a,k,h1,by rw[xf (hdn a h1)];exact h2,h3,by rw[xf (hdn a h1)];exact h4⟩
 ·rw[xf (hdn a ha)]
  obtain⟨h1,h2⟩:=h.rel a b k ha hE2 hO
  by_cases e:b=u
  ·subst e;rw[j1];omega
  ·rw[xf e];exact⟨h1,h2⟩
 ·rw[xf (hdn a ha)];exact h.mono a ha
 ·rcases Fat.1 (hq.mem_iff.1 he)with e1|e1
  ·subst e1
   exact⟨u,rfl,hu,by rw[j1];omega,by rw[j1];exact Fcn _,by omega⟩
  ·obtain⟨v,h1,h2,h3,h4,h5⟩:=h.ent e e1
   refine⟨v,h1,h2,?_⟩
   by_cases ev:v=u
   ·subst ev;rw[j1];omega
   ·rw[xf ev];exact⟨h3,h4,h5⟩
 ·by_cases e:v=u
  ·subst e;rw[j1];exact hq.mem_iff.2 Fbi
  ·rw[xf e]at hv⊢
   exact hq.mem_iff.2 (Fa6 _ (h.wait v hv hn))
theorem yct{E:Nat->Nat->Int->Prop}{d:Nat->Int}{dn:Nat->Bool}(h:DJ E n goal d dn [] cur Cu):FarOK E goal d:=by
 have hdn:∀u,0<=d u->dn u=true:=λu hu=>by
  cases hb:dn u with
  |true=>rfl
  |false=>exact absurd (h.wait u hu hb) (by simp)
 exact⟨h.lab,h.gl,λu hu hl=>by obtain⟨t,c,_,h2,h3,h4⟩:=h.pre u hu hl;exact⟨t,c,h2,h3,h4⟩,λt u c ht hE=>h.rel t u c (hdn t ht) hE (λh=>h)⟩
structure SP(E:Nat->Nat->Int->Prop)(goal:Nat)(d:Nat->Int)(W:Nat->Bool)(O:Nat->Nat->Int->Prop):Prop where
 lab:∀u,d u=-1\/0<=d u
 gl:d goal=0
 pre:∀u,u≠goal->0<=d u->∃t c,0<=d t/\E t u c/\d t+c<=d u
 rel:∀t u c,0<=d t->W t=false->E t u c->¬O t u c->0<=d u/\d u<=d t+c
 wl:∀t,W t=true->0<=d t
theorem zob(E:Nat->Nat->Int->Prop){d:Nat->Int}(hd:∀u,d u=if u=goal then 0 else -1){W:Nat->Bool}(hW:∀u,W u=decide (u=goal)):SP E goal d W Cu:=by
 refine⟨λu=>?_,by simp[hd],λu hu h=>?_,λt u c h hw=>?_,λt h=>?_⟩
 ·rw[hd];split<;>simp
 ·rw[hd,if_neg hu]at h;omega
 ·rw[hW]at hw
  rw[hd]at h
  split at h
  ·rename_i e;simp[e]at hw
  ·omega
 ·rw[hW]at h
  simp only[decide_eq_true_eq]at h
  simp[hd,h]
theorem zn9{E:Nat->Nat->Int->Prop}{d:Nat->Int}{W:Nat->Bool}(h:SP E goal d W Cu)(t:Nat):SP E goal d (zx W t false) (λa _ _=>a=t):=
 ⟨h.lab,h.gl,h.pre,λa u c ha hw hE hO=>by
  rw[xf hO]at hw
  exact h.rel a u c ha hw hE (λh=>h),λa ha=>by
  unfold zx at ha
  split at ha
  ·cases ha
  ·exact h.wl a ha⟩
theorem Vo{E:Nat->Nat->Int->Prop}{d:Nat->Int}{W:Nat->Bool}{O O':Nat->Nat->Int->Prop}(h:SP E goal d W O)(ho:∀t u c,O t u c->¬O' t u c->E t u c->0<=d u/\d u<=d t+c):SP E goal d W O':=
 ⟨h.lab,h.gl,h.pre,λt u c ht hw hE hO=>by
  by_cases e:O t u c
  ·exact ho t u c e hO hE
  ·exact h.rel t u c ht hw hE e,h.wl⟩
theorem zoa{E:Nat->Nat->Int->Prop}(hE:∀t u c,E t u c->0<c){d:Nat->Int}{W:Nat->Bool}{O:Nat->Nat->Int->Prop}(h:SP E goal d W O)(ht:0<=d t)(htu:t≠u)(hEu:E t u c)(hl:d u<0\/d t+c<d u):SP E goal (zx d u (d t+c)) (zx W u true) O:=by
 have hc:=hE _ _ _ hEu
 have hgu:goal≠u:=λe=>by subst e;have:=h.gl;omega
 have low:∀v,0<=d v->0<=zx d u (d t+c) v/\zx d u (d t+c) v<=d v:=λv hv=>by
  unfold zx;split
  ·rename_i e;subst e;omega
  ·omega
 refine⟨λv=>?_,by rw[xf hgu];exact h.gl,λv hv hl2=>?_,λa b k ha hw hE2 hO=>?_,λa ha=>?_⟩
 ·unfold zx;split
  ·right;omega
  ·exact h.lab v
 ·by_cases e:v=u
  ·subst e
   exact⟨t,c,by rw[xf htu];exact ht,hEu,by rw[xf htu,j1];exact Fcn _⟩
  ·rw[xf e]at hl2⊢
   obtain⟨a,k,h2,h3,h4⟩:=h.pre v hv hl2
   have:=low a h2
   exact⟨a,k,this.1,h3,by omega⟩
 ·by_cases e:a=u
  ·subst e;rw[j1]at hw;cases hw
  ·rw[xf e]at ha hw⊢
   obtain⟨h1,h2⟩:=h.rel a b k ha hw hE2 hO
   have:=low b h1
   omega
 ·by_cases e:a=u
  ·subst e;rw[j1];omega
  ·rw[xf e]at ha⊢;exact h.wl a ha
theorem zoc{E:Nat->Nat->Int->Prop}{d:Nat->Int}{W:Nat->Bool}(h:SP E goal d W Cu)(hw:∀u,W u=false):FarOK E goal d:=
 ⟨h.lab,h.gl,h.pre,λt u c ht hE=>h.rel t u c ht (hw t) hE (λh=>h)⟩
end
section
variable {g:Gnd} {x y:Int} {s:Nat}
def onG(g:Gnd)(x y:Int):Prop:=(0<=x/\x<g.W)/\(0<=y/\y<g.H)
instance(g:Gnd)(x y:Int):Decidable (onG g x y):=inferInstanceAs (Decidable (_/\_))
def tl(g:Gnd)(x y:Int):Nat:=(x+g.W*y).toNat
theorem Cl(hg:zr g)(h:onG g x y):((tl g x y:Nat):Int)=x+g.W*y/\tl g x y<g.T.length/\(tl g x y:Int)%g.W=x/\(tl g x y:Int)/g.W=y:=by
 obtain⟨h1,h2,h3⟩:=qe hg
 obtain⟨⟨hx,hx2⟩,hy,hy2⟩:=h
 have hW:1<=g.W:=hg.1.1
 have e0:0<=g.W*y:=Fax (by omega) hy
 have e:((tl g x y:Nat):Int)=x+g.W*y:=by unfold tl;omega
 have e1:g.W*y<=g.W*(g.H-1):=Fbg (Fcn _) (by omega) hy (by omega)
 rw[Int.mul_sub,Int.mul_one]at e1
 refine⟨e,by omega,?_,?_⟩
 ·rw[e,Fdx,Fdd hx hx2]
 ·rw[e,Fek _ _ (by omega),Fce hx hx2,Int.zero_add]
theorem Po(hg:zr g){t:Nat}(ht:t<g.T.length):onG g ((t:Int)%g.W) ((t:Int)/g.W)/\tl g ((t:Int)%g.W) ((t:Int)/g.W)=t:=by
 obtain⟨h1,h2,h3⟩:=qe hg
 have hW:1<=g.W:=hg.1.1
 have a:=Fco (t:Int) (show g.W≠0 by omega)
 have b:=Fdo (t:Int) (show 0<g.W by omega)
 have c:=Fcb (show 0<=(t:Int) by omega) (show 0<=g.W by omega)
 have d:(t:Int)/g.W<g.H:=Fej (by omega) (by rw[Fcz];omega)
 refine⟨⟨⟨a,b⟩,c,d⟩,?_⟩
 unfold tl
 rw[Fei]
 omega
def sqP(g:Gnd)(f:Nat->Bool)(s:Nat)(x y:Int):Prop:=∀a b:Int,-(s:Int)<=a->a<=s->-(s:Int)<=b->b<=s->onG g (x+a) (y+b)/\f (tl g (x+a) (y+b))=true
theorem sq_zero{f:Nat->Bool}:sqP g f 0 x y↔onG g x y/\f (tl g x y)=true:=by
 constructor
 ·intro h
  have:=h 0 0 (by decide) (by decide) (by decide) (by decide)
  simpa using this
 ·intro h a b h1 h2 h3 h4
  have ea:a=0:=by omega
  have eb:b=0:=by omega
  subst ea eb
  simpa using h
theorem sq_succ{f:Nat->Bool}:sqP g f (s+1) x y↔∀a b:Int,-1<=a->a<=1->-1<=b->b<=1->onG g (x+a) (y+b)/\sqP g f s (x+a) (y+b):=by
 constructor
 ·intro h a b h1 h2 h3 h4
  refine⟨(h a b (by omega) (by omega) (by omega) (by omega)).1,λa' b' k1 k2 k3 k4=>?_⟩
  have:=h (a+a') (b+b') (by omega) (by omega) (by omega) (by omega)
  rw[<-Int.add_assoc,<-Int.add_assoc]at this
  exact this
 ·intro h a b h1 h2 h3 h4
  obtain⟨a1,ha1,ha2,ha3,ha4⟩:∃a1:Int,-1<=a1/\a1<=1/\-(s:Int)<=a-a1/\a-a1<=s:=by
   by_cases c1:a>s
   ·exact⟨1,by omega,by omega,by omega,by omega⟩
   ·by_cases c2:a< -s
    ·exact⟨-1,by omega,by omega,by omega,by omega⟩
    ·exact⟨0,by omega,by omega,by omega,by omega⟩
  obtain⟨b1,hb1,hb2,hb3,hb4⟩:∃b1:Int,-1<=b1/\b1<=1/\-(s:Int)<=b-b1/\b-b1<=s:=by
   by_cases c1:b>s
   ·exact⟨1,by omega,by omega,by omega,by omega⟩
   ·by_cases c2:b< -s
    ·exact⟨-1,by omega,by omega,by omega,by omega⟩
    ·exact⟨0,by omega,by omega,by omega,by omega⟩
  have:=(h a1 b1 ha1 ha2 hb1 hb2).2 (a-a1) (b-b1) ha3 ha4 hb3 hb4
  rw[show x+a1+(a-a1)=x+a by omega,show y+b1+(b-b1)=y+b by omega]at this
  exact this
theorem Vl{f:Nat->Bool}{s':Nat}(hs:s'<=s)(h:sqP g f s x y):sqP g f s' x y:=λa b h1 h2 h3 h4=>h a b (by omega) (by omega) (by omega) (by omega)
theorem zny{f:Nat->Bool}(h:sqP g f s x y):2*(s:Int)+1<=g.W:=by
 have h1:=(h (-(s:Int)) 0 (by omega) (by omega) (by omega) (by omega)).1.1.1
 have h2:=(h s 0 (by omega) (by omega) (by omega) (by omega)).1.1.2
 omega
def m5(a b c d e:Int):Int:=min (min (min (min a (b+1)) (c+1)) (d+1)) (e+1)
theorem yea{f:Nat->Bool}{A B:Int->Int->Int}(oA:∀x y,¬onG g x y->A x y=0)(oB:∀x y,¬onG g x y->B x y=0)
  (hA:∀x y,onG g x y->A x y=m5 (if f (tl g x y)then 128 else 0) (A (x-1) y) (A (x-1) (y-1)) (A x (y-1)) (A (x+1) (y-1)))
  (hB:∀x y,onG g x y->B x y=m5 (A x y) (B (x+1) y) (B (x+1) (y+1)) (B x (y+1)) (B (x-1) (y+1))) (hxy:onG g x y) (s:Nat) (hs:s<=127):(s:Int)<B x y↔sqP g f s x y:=by
 -- not below 0
 have nA:∀n:Nat,∀x y,onG g x y->y*200+x<n->0<=A x y:=by
  intro n
  induction n with
  |zero=>intro x y h hn;obtain⟨⟨h1,h2⟩,h3,h4⟩:=h;omega
  |succ n ih=>
   intro x y h hn
   have any:∀x' y',y'*200+x'<y*200+x->0<=A x' y':=λx' y' hl=>by
    by_cases ho:onG g x' y'
    ·exact ih x' y' ho (by omega)
    ·rw[oA x' y' ho];decide
   rw[hA x y h]
   have a1:=any (x-1) y (by omega)
   have a2:=any (x-1) (y-1) (by omega)
   have a3:=any x (y-1) (by omega)
   have a4:=any (x+1) (y-1) (by omega)
   have a5:(0:Int)<=(if f (tl g x y)then 128 else 0):=by split<;>decide
   unfold m5
   omega
 have pA:∀x y,0<=A x y:=λx y=>by
  by_cases ho:onG g x y
  ·exact nA (y*200+x+1).toNat x y ho (by obtain⟨⟨h1,h2⟩,h3,h4⟩:=ho;omega)
  ·rw[oA x y ho];decide
 have nB:∀n:Nat,∀x y,onG g x y->(g.H-y)*200+(g.W-x)<n->0<=B x y:=by
  intro n
  induction n with
  |zero=>intro x y h hn;obtain⟨⟨h1,h2⟩,h3,h4⟩:=h;omega
  |succ n ih=>
   intro x y h hn
   have any:∀x' y',(g.H-y')*200+(g.W-x')<(g.H-y)*200+(g.W-x)->0<=B x' y':=λx' y' hl=>by
    by_cases ho:onG g x' y'
    ·exact ih x' y' ho (by omega)
    ·rw[oB x' y' ho];decide
   rw[hB x y h]
   have a1:=any (x+1) y (by omega)
   have a2:=any (x+1) (y+1) (by omega)
   have a3:=any x (y+1) (by omega)
   have a4:=any (x-1) (y+1) (by omega)
   have a5:=pA x y
   unfold m5
   omega
 have pB:∀x y,0<=B x y:=λx y=>by
  by_cases ho:onG g x y
  ·exact nB ((g.H-y)*200+(g.W-x)+1).toNat x y ho (by obtain⟨⟨h1,h2⟩,h3,h4⟩:=ho;omega)
  ·rw[oB x y ho];decide
 constructor
 ·-- what is bad is not farther than its steps
  have up1:∀d:Nat,∀x y a b,onG g x y->-(d:Int)<=a->a<=d->-(d:Int)<=b->b<=0->a<=-b->¬(onG g (x+a) (y+b)/\f (tl g (x+a) (y+b))=true)->A x y<=d:=by
   intro d
   induction d with
   |zero=>
    intro x y a b h h1 h2 h3 h4 h5 hbad
    have ea:a=0:=by omega
    have eb:b=0:=by omega
    subst ea eb
    rw[Fcd,Fcd]at hbad
    have hf:¬f (tl g x y)=true:=λhf=>hbad ⟨h,hf⟩
    rw[hA x y h,if_neg hf]
    unfold m5
    omega
   |succ d ih=>
    intro x y a b h h1 h2 h3 h4 h5 hbad
    have go:∀u v:Int,-(d:Int)<=a-u->a-u<=d->-(d:Int)<=b-v->b-v<=0->a-u<=-(b-v)->A (x+u) (y+v)<=d:=λu v g1 g2 g3 g4 g5=>by
     by_cases ho:onG g (x+u) (y+v)
     ·refine ih (x+u) (y+v) (a-u) (b-v) ho g1 g2 g3 g4 g5 ?_
      rw[show x+u+(a-u)=x+a by omega,show y+v+(b-v)=y+b by omega]
      exact hbad
     ·rw[oA _ _ ho];omega
    have hk:=hA x y h
    unfold m5 at hk
    by_cases cb:b=0
    ·by_cases ca:a=0
     ·subst ca cb
      rw[Fcd,Fcd]at hbad
      have hf:¬f (tl g x y)=true:=λhf=>hbad ⟨h,hf⟩
      rw[if_neg hf]at hk
      omega
     ·have:=go (-1) 0 (by omega) (by omega) (by omega) (by omega) (by omega)
      rw[show x+-1=x-1 by omega,Fcd]at this
      omega
    ·by_cases ca:a=0
     ·have:=go 0 (-1) (by omega) (by omega) (by omega) (by omega) (by omega)
      rw[show y+-1=y-1 by omega,Fcd]at this
      omega
     ·by_cases ca2:a<0
      ·have:=go (-1) (-1) (by omega) (by omega) (by omega) (by omega) (by omega)
       rw[show y+-1=y-1 by omega,show x+-1=x-1 by omega]at this
       omega
      ·have:=go 1 (-1) (by omega) (by omega) (by omega) (by omega) (by omega)
       rw[show y+-1=y-1 by omega]at this
       omega
  have up2:∀d:Nat,∀x y a b,onG g x y->-(d:Int)<=a->a<=d->-(d:Int)<=b->b<=d->¬(onG g (x+a) (y+b)/\f (tl g (x+a) (y+b))=true)->B x y<=d:=by
   intro d
   induction d with
   |zero=>
    intro x y a b h h1 h2 h3 h4 hbad
    have:=up1 0 x y a b h h1 h2 h3 (by omega) (by omega) hbad
    have hk:=hB x y h
    unfold m5 at hk
    omega
   |succ d ih=>
    intro x y a b h h1 h2 h3 h4 hbad
    have hk:=hB x y h
    unfold m5 at hk
    by_cases cone:b<=0/\a<=-b
    ·have:=up1 (d+1) x y a b h h1 h2 h3 cone.1 cone.2 hbad
     omega
    have go:∀u v:Int,-(d:Int)<=a-u->a-u<=d->-(d:Int)<=b-v->b-v<=d->B (x+u) (y+v)<=d:=λu v g1 g2 g3 g4=>by
     by_cases ho:onG g (x+u) (y+v)
     ·refine ih (x+u) (y+v) (a-u) (b-v) ho g1 g2 g3 g4 ?_
      rw[show x+u+(a-u)=x+a by omega,show y+v+(b-v)=y+b by omega]
      exact hbad
     ·rw[oB _ _ ho];omega
    by_cases cb:b<=0
    ·have:=go 1 0 (by omega) (by omega) (by omega) (by omega)
     rw[Fcd]at this
     omega
    ·by_cases ca:a=0
     ·have:=go 0 1 (by omega) (by omega) (by omega) (by omega)
      rw[Fcd]at this
      omega
     ·by_cases ca2:a<0
      ·have:=go (-1) 1 (by omega) (by omega) (by omega) (by omega)
       rw[show x+-1=x-1 by omega]at this
       omega
      ·have:=go 1 1 (by omega) (by omega) (by omega) (by omega)
       omega
  intro hlt a b h1 h2 h3 h4
  refine Classical.byContradiction λhbad=>?_
  have:=up2 s x y a b hxy h1 h2 h3 h4 hbad
  omega
 ·-- what is good all about is far
  have loA:∀s:Nat,s<=127->∀x y,sqP g f s x y->(s:Int)<A x y:=by
   intro s
   induction s with
   |zero=>
    intro _ x y h
    obtain⟨ho,hf⟩:=sq_zero.1 h
    rw[hA x y ho,if_pos hf]
    have a1:=pA (x-1) y
    have a2:=pA (x-1) (y-1)
    have a3:=pA x (y-1)
    have a4:=pA (x+1) (y-1)
    unfold m5
    omega
   |succ s ih=>
    intro hs x y h
    have h2:=sq_succ.1 h
    have nb:=λ(a b:Int) h3 h4 h5 h6=>ih (by omega) _ _ (h2 a b h3 h4 h5 h6).2
    obtain⟨ho,hf⟩:=sq_zero.1 (Vl (Fag _) h)
    have a1:=nb (-1) 0 (by decide) (by decide) (by decide) (by decide)
    have a2:=nb (-1) (-1) (by decide) (by decide) (by decide) (by decide)
    have a3:=nb 0 (-1) (by decide) (by decide) (by decide) (by decide)
    have a4:=nb 1 (-1) (by decide) (by decide) (by decide) (by decide)
    rw[show x+-1=x-1 by omega]at a1 a2
    rw[show y+-1=y-1 by omega]at a2 a3 a4
    rw[Fcd]at a1 a3
    rw[hA x y ho,if_pos hf]
    unfold m5
    omega
  have loB:∀s:Nat,s<=127->∀x y,sqP g f s x y->(s:Int)<B x y:=by
   intro s
   induction s with
   |zero=>
    intro hs x y h
    obtain⟨ho,hf⟩:=sq_zero.1 h
    rw[hB x y ho]
    have a1:=pB (x+1) y
    have a2:=pB (x+1) (y+1)
    have a3:=pB x (y+1)
    have a4:=pB (x-1) (y+1)
    have a5:=loA 0 hs x y h
    unfold m5
    omega
   |succ s ih=>
    intro hs x y h
    have h2:=sq_succ.1 h
    have nb:=λ(a b:Int) h3 h4 h5 h6=>ih (by omega) _ _ (h2 a b h3 h4 h5 h6).2
    obtain⟨ho,hf⟩:=sq_zero.1 (Vl (Fag _) h)
    have a1:=nb 1 0 (by decide) (by decide) (by decide) (by decide)
    have a2:=nb 1 1 (by decide) (by decide) (by decide) (by decide)
    have a3:=nb 0 1 (by decide) (by decide) (by decide) (by decide)
    have a4:=nb (-1) 1 (by decide) (by decide) (by decide) (by decide)
    rw[show x+-1=x-1 by omega]at a4
    rw[Fcd]at a1 a3
    have a5:=loA (s+1) hs x y h
    rw[hB x y ho]
    unfold m5
    omega
  exact loB s hs x y
end
theorem znq{α:Type}(L:List α)(a:α)(n:Nat):(L++[a]).take n=if L.length<n then L.take n++[a]else L.take n:=by
 split
 ·rw[Fbr (by simp;omega),Fbr (by omega)]
 ·rw[Fbl (by omega)]
theorem znr{α:Type}(L:List α)(n:Nat):(L.take n).length<n↔L.length<n:=by rw[Fao];omega
def j4(l:List Nat):List Int:=l.map λ(t:Nat)=>(t:Int)
theorem zxp(a b:List Nat):j4 (a++b)=j4 a++j4 b:=Fbk
def Ka(i j:Int):Int:=max (max i (-i)) (max j (-j))
def kj(g:Gnd)(x y k d:Int)(t:Nat):Bool:=decide (Ka ((t:Int)%g.W-x) ((t:Int)/g.W-y)=d/\((t:Int)%g.W-x).tmod k=0/\((t:Int)/g.W-y).tmod k=0)
def Pb(g:Gnd)(x y k d:Int):List Nat:=(List.range g.T.length).filter (kj g x y k d)
def Fz(g:Gnd)(f:Nat->Bool)(x y k d:Int):List Nat:=(Pb g x y k d).filter f
def vw(g:Gnd)(f:Nat->Bool)(x y k:Int):Nat->List Nat
 |0=>[]
 |d+1=>vw g f x y k d++Fz g f x y k d
def D8(g:Gnd)(f:Nat->Bool)(size goal:Int)(n:Nat):List Nat:=(vw g f (goal%g.W) (goal/g.W) (2*size+1) (g.W+g.H+1).toNat).take n
theorem lc(g:Gnd)(f:Nat->Bool)(x y k:Int)(d:Nat):∀e:Nat,∃m,vw g f x y k (d+e)=vw g f x y k d++m
 |0=>⟨[],by simp⟩
 |e+1=>by
  obtain⟨m,hm⟩:=lc g f x y k d e
  exact⟨m++Fz g f x y k ((d+e:Nat):Int),by rw[<-Fa3,<-hm];rfl⟩
theorem zon{g:Gnd}(hg:zr g){f:Nat->Bool}{x y k d:Int}(hx:0<=x/\x<g.W)(hy:0<=y/\y<g.H)(hd:max g.W g.H<=d):Fz g f x y k d=[]:=by
 unfold Fz Pb
 rw[List.filter_filter,List.filter_eq_nil_iff]
 intro t ht hh
 obtain⟨h1,h2⟩:=(Fda).1 hh
 have h3:=(of_decide_eq_true h2).1
 obtain⟨⟨o1,o2⟩,o3,o4⟩:=(Po hg (Fbc.1 ht)).1
 unfold Ka at h3
 omega
theorem zok{g:Gnd}(hg:zr g){f:Nat->Bool}{size goal:Int}(hgl:0<=goal/\goal<g.W*g.H){d n:Nat}(h:n<=(vw g f (goal%g.W) (goal/g.W) (2*size+1) d).length\/max g.W g.H<=(d:Int)):
  (vw g f (goal%g.W) (goal/g.W) (2*size+1) d).take n=D8 g f size goal n:=by
 have hW:1<=g.W/\g.W<=128:=hg.1
 have hH:1<=g.H/\g.H<=128:=hg.2.1
 have hx:0<=goal%g.W/\goal%g.W<g.W:=⟨Fco _ (by omega),Fdo _ (by omega)⟩
 have hy:0<=goal/g.W/\goal/g.W<g.H:=⟨Fcb hgl.1 (by omega),Fej (by omega) (by rw[Fcz];exact hgl.2)⟩
 unfold D8
 generalize goal%g.W=x at*
 generalize goal/g.W=y at*
 generalize 2*size+1=k at*
 generalize hm:(g.W+g.H+1).toNat=m at*
 have hmI:(m:Int)=g.W+g.H+1:=by omega
 -- from where nothing comes any more
 have flat:∀c:Nat,max g.W g.H<=(c:Int)->∀e:Nat,vw g f x y k (c+e)=vw g f x y k c:=λc hc e=>by
  induction e with
  |zero=>rfl
  |succ e ih=>
   show vw g f x y k (c+e)++Fz g f x y k ((c+e:Nat):Int)=_
   rw[ih,zon hg hx hy (by omega),Fbv]
 rcases h with h|h
 ·by_cases hdm:d<=m
  ·obtain⟨r,hr⟩:=lc g f x y k d (m-d)
   rw[show d+(m-d)=m by omega]at hr
   rw[hr,Fbl h]
  ·have:=flat m (by omega) (d-m)
   rw[show m+(d-m)=d by omega]at this
   rw[this]
 ·by_cases hdm:d<=m
  ·have:=flat d h (m-d)
   rw[show d+(m-d)=m by omega]at this
   rw[this]
  ·have:=flat m (by omega) (d-m)
   rw[show m+(d-m)=d by omega]at this
   rw[this]
section
variable {n t:Nat} {g:Gnd}
def il(n:Nat)(f:Nat->Int):List AV:=(List.range n).map λt=>int (f t)
theorem qx(n:Nat)(f:Nat->Int):(il n f).length=n:=by simp[il]
theorem Dr{f:Nat->Int}(h:t<n):(il n f)[t]?=some (int (f t)):=by simp[il,h]
theorem jx{f:Nat->Int}(h:t<n):((il n f).drop (0+t*1)).head?=some (int (f t)):=by
 rw[Fb2,show 0+t*1=t by omega,Dr h]
theorem R0{f:Nat->Bool}(h:t<n):((bl n f).drop (0+t*1)).head?=some (bool (f t)):=by
 rw[Fb2,show 0+t*1=t by omega,Gr h]
theorem Ng(n:Nat):List.replicate n (AV.s (.int .i64 0))=il n λ_=>0:=by
 unfold il
 rw[List.map_const',Fe5]
 rfl
def setI(f:Nat->Int)(t:Nat)(v:Int):Nat->Int:=λs=>if s=t then v else f s
theorem Ku(f:Nat->Int)(t:Nat)(v:Int):setI f t v t=v:=if_pos rfl
theorem Ib(f:Nat->Int){s:Nat}(v:Int)(h:s≠t):setI f t v s=f s:=if_neg h
theorem zou(f:Nat->Int)(t:Nat):setI f t (f t)=f:=funext λs=>by
 unfold setI
 split
 ·rename_i h;rw[h]
 ·rfl
theorem Vr(f:Nat->Int)(t:Nat)(v u:Int):setI (setI f t v) t u=setI f t u:=funext λs=>by
 unfold setI
 split<;>simp_all
theorem sn{f:Nat->Int}(h:t<n)(g:Nat->Int)(hg:∀s,s≠t->g s=f s):zu (il n f) t [int (g t)]=il n g:=by
 unfold zu
 apply Fck
 intro s
 by_cases h1:s<t
 ·rw[Fa3,Fam (by rw[Fao,qx];omega),Fb7 h1,Dr (by omega),Dr (by omega),hg s (by omega)]
 ·by_cases h2:s=t
  ·subst h2
   rw[Fa3,Fa1 (by rw[Fao,qx];omega),Fao,qx,show s-min s n=0 by omega,Dr h]
   rfl
  ·rw[Fa1 (by rw[Fad,Fao,qx];simp;omega),Fad,Fao,qx,Fcg]
   by_cases h3:s<n
   ·have e:t+[int (g t)].length+(s-(min t n+[int (g t)].length))=s:=by simp;omega
    rw[e,Dr h3,Dr h3,hg s h2]
   ·rw[Fbn (by rw[qx];simp;omega),Fbn (by rw[qx];omega)]
theorem Gg{f:Nat->Int}(h:t<n)(v:Int):zu (il n f) t [int v]=il n (setI f t v):=by
 have:=sn h (setI f t v) (λs hs=>Ib f v hs)
 rw[Ku]at this
 exact this
def ilL(n:Nat)(f:Nat->Int):List Int:=(List.range n).map f
theorem Ds(n:Nat)(f:Nat->Int):(ilL n f).length=n:=by simp[ilL]
theorem ss{f:Nat->Int}(h:t<n):(ilL n f)[t]'(by rw[Ds];exact h)=f t:=by simp[ilL]
theorem sq(n:Nat)(f:Nat->Int):(rws yh (ilL n f)).flatten=il n f:=by
 unfold rws ilL il
 rw[List.map_map]
 generalize List.range n=l
 induction l with
 |nil=>rfl
 |cons a l ih=>simp only[Fb9,Fcr,ih];rfl
theorem Gh{f g:Nat->Int}(h:∀t,t<n->f t=g t):il n f=il n g:=Fbu λt ht=>by rw[h t (Fbc.1 ht)]
theorem dr{f g:Nat->Bool}(h:∀t,t<n->f t=g t):bl n f=bl n g:=Fbu λt ht=>by rw[h t (Fbc.1 ht)]
theorem yew{f g:Nat->Bool}(h:∀t,t<n->f t=g t):blL n f=blL n g:=Fbu λt ht=>h t (Fbc.1 ht)
def gv(g:Gnd)(f:Nat->Int)(x y:Int):Int:=if onG g x y then f (tl g x y)else 0
def w9(g:Gnd)(f:Nat->Int)(x y:Int)(v:Int)(ws:List (Int×Int)):Int:=ws.foldl (λv d=>min v (gv g f (x+d.1) (y+d.2)+1)) v
theorem tb(hg:zr g){f:Nat->Int}(hf:∀t,t<g.T.length->0<=f t/\f t<=128)(x y:Int):0<=gv g f x y/\gv g f x y<=128:=by
 unfold gv
 split
 ·rename_i h;exact hf _ (Cl hg h).2.1
 ·omega
theorem Wh(hg:zr g){f:Nat->Int}(hf:∀t,t<g.T.length->0<=f t/\f t<=128)(x y:Int):∀(ws:List (Int×Int)) (v:Int),0<=v/\v<=128->0<=w9 g f x y v ws/\w9 g f x y v ws<=128
 |[],v,hv=>hv
 |d::r,v,hv=>by
  have:=tb hg hf (x+d.1) (y+d.2)
  exact Wh hg hf x y r (min v (gv g f (x+d.1) (y+d.2)+1)) (by omega)
theorem zwj(g:Gnd)(f:Nat->Int)(x y v:Int)(ws:List (Int×Int)){i:Nat}(hi:i<ws.length):w9 g f x y v (ws.take (i+1))=min (w9 g f x y v (ws.take i)) (gv g f (x+ws[i].1) (y+ws[i].2)+1):=by
 unfold w9
 rw[Fac hi,List.foldl_append]
 rfl
theorem zov{f:Nat->Int}(hf:∀t,t<n->0<=f t/\f t<=128){v:Int}(hv:0<=v/\v<=128):∀s,s<n->0<=setI f t v s/\setI f t v s<=128:=λs hs=>by
 unfold setI
 split
 ·exact hv
 ·exact hf s hs
theorem zz4(hg:zr g)(f:Nat->Int)(v:Int){dx dy:Int}(hd:dx≠0\/dy≠0):gv g (setI f t v) ((t:Int)%g.W+dx) ((t:Int)/g.W+dy)=gv g f ((t:Int)%g.W+dx) ((t:Int)/g.W+dy):=by
 unfold gv
 split
 ·rename_i h
  obtain⟨_,_,h3,h4⟩:=Cl hg h
  refine Ib f v λe=>?_
  rw[e]at h3 h4
  omega
 ·rfl
def Lc:List (Int×Int):=[(-1,0),(-1,-1),(0,-1),(1,-1)]
def I4:List (Int×Int):=[(1,0),(1,1),(0,1),(-1,1)]
def H1(d:Int×Int):List AV:=[int d.1,int d.2]
def Kl(g:Gnd)(f:Nat->Int)(ws:List (Int×Int))(t:Nat):Nat->Int:=setI f t (w9 g f ((t:Int)%g.W) ((t:Int)/g.W) (f t) ws)
def wx(g:Gnd)(f:Nat->Int):Nat->Nat->Int
 |0=>f
 |i+1=>Kl g (wx g f i) Lc i
def Bi(g:Gnd)(f:Nat->Int)(n:Nat):Nat->Nat->Int
 |0=>f
 |j+1=>Kl g (Bi g f n j) I4 (n-1-j)
theorem ib(hg:zr g){f:Nat->Int}(hf:∀t,t<g.T.length->0<=f t/\f t<=128){ws:List (Int×Int)}(ht:t<g.T.length):∀s,s<g.T.length->0<=Kl g f ws t s/\Kl g f ws t s<=128:=
 zov hf (Wh hg hf _ _ _ _ (hf t ht))
theorem Vi(hg:zr g){f:Nat->Int}(hf:∀t,t<g.T.length->0<=f t/\f t<=128):∀i,i<=g.T.length->∀s,s<g.T.length->0<=wx g f i s/\wx g f i s<=128
 |0,_=>hf
 |i+1,hi=>ib hg (Vi hg hf i (by omega)) (by omega)
theorem ig(hg:zr g){f:Nat->Int}(hf:∀t,t<g.T.length->0<=f t/\f t<=128):∀i,i<=g.T.length->∀s,s<g.T.length->0<=Bi g f g.T.length i s/\Bi g f g.T.length i s<=128
 |0,_=>hf
 |i+1,hi=>ib hg (ig hg hf i (by omega)) (by omega)
theorem ii(g:Gnd)(f:Nat->Int):∀i s,i<=s->wx g f i s=f s
 |0,_,_=>rfl
 |i+1,s,h=>by
  show setI _ i _ s=_
  rw[Ib _ _ (by omega),ii g f i s (by omega)]
theorem Ou(g:Gnd)(f:Nat->Int):∀i s,s<i->wx g f i s=wx g f (s+1) s
 |0,_,h=>absurd h (Fa2 _)
 |i+1,s,h=>by
  by_cases e:s=i
  ·subst e;rfl
  ·show setI _ i _ s=_
   rw[Ib _ _ e,Ou g f i s (by omega)]
theorem ic(g:Gnd)(f:Nat->Int)(n:Nat):∀j s,s+j<n->Bi g f n j s=f s
 |0,_,_=>rfl
 |j+1,s,h=>by
  show setI _ (n-1-j) _ s=_
  rw[Ib _ _ (by omega),ic g f n j s (by omega)]
theorem Ot(g:Gnd)(f:Nat->Int)(n:Nat):∀j s,s<n->j<=n->n<=s+j->Bi g f n j s=Bi g f n (n-1-s+1) s
 |0,s,h,_,h2=>absurd h2 (by omega)
 |j+1,s,h,h1,h2=>by
  by_cases e:s=n-1-j
  ·have:j+1=n-1-s+1:=by omega
   rw[this]
  ·show setI _ (n-1-j) _ s=_
   rw[Ib _ _ e,Ot g f n j s h (by omega) (by omega)]
theorem zwl(g:Gnd)(f:Nat->Int)(x y v:Int):w9 g f x y v Lc=m5 v (gv g f (x-1) y) (gv g f (x-1) (y-1)) (gv g f x (y-1)) (gv g f (x+1) (y-1)):=by
 unfold w9 Lc m5
 simp only[Fcv,List.foldl_nil,Fcd,<-Fd7]
theorem zwk(g:Gnd)(f:Nat->Int)(x y v:Int):w9 g f x y v I4=m5 v (gv g f (x+1) y) (gv g f (x+1) (y+1)) (gv g f x (y+1)) (gv g f (x-1) (y+1)):=by
 unfold w9 I4 m5
 simp only[Fcv,List.foldl_nil,Fcd,<-Fd7]
def Dg(g:Gnd)(o:Nat->Bool):Nat->Int:=Bi g (wx g (λt=>if o t then 128 else 0) g.T.length) g.T.length g.T.length
theorem zt1(hg:zr g)(o:Nat->Bool)(ht:t<g.T.length)(s:Nat)(hs:s<=127):(s:Int)<Dg g o t↔sqP g o s ((t:Int)%g.W) ((t:Int)/g.W):=by
 have hW:1<=g.W:=hg.1.1
 obtain⟨ho,he⟩:=Po hg ht
 have key:=yea (g:=g) (f:=o) (A:=gv g (wx g (λt=>if o t then 128 else 0) g.T.length)) (B:=gv g (Dg g o))
  (λx y h=>if_neg h) (λx y h=>if_neg h) (λx y h=>?_) (λx y h=>?_) ho s hs
 ·rw[<-key]
  unfold gv
  rw[if_pos ho,he]
 ·obtain⟨e1,e2,e3,e4⟩:=Cl hg h
  have nb:∀dx dy:Int,(dy=-1\/dy=0/\dx=-1)->dx<=1->gv g (wx g (λt=>if o t then 128 else 0) (tl g x y)) (x+dx) (y+dy)=gv g (wx g (λt=>if o t then 128 else 0) g.T.length) (x+dx) (y+dy):=λdx dy hd hx=>by
   unfold gv
   split
   ·rename_i h2
    obtain⟨f1,f2,f3,f4⟩:=Cl hg h2
    have hlt:tl g (x+dx) (y+dy)<tl g x y:=by
     have hb:=h.1
     have hb2:=h2.1
     rcases hd with rfl|⟨rfl,rfl⟩
     ·have:g.W*(y+-1)=g.W*y-g.W:=by rw[Int.mul_add];omega
      rw[this]at f1
      have hne:(tl g (x+dx) (y+-1):Int)≠tl g x y:=λe=>by
       rw[e,e4]at f4
       omega
      omega
     ·rw[Fcd]at f1⊢
      omega
    rw[Ou g _ _ _ hlt,Ou g _ _ _ f2]
   ·rfl
  have h1:gv g (wx g (λt=>if o t then 128 else 0) g.T.length) x y=w9 g (wx g (λt=>if o t then 128 else 0) (tl g x y)) x y (if o (tl g x y)then 128 else 0) Lc:=by
   unfold gv
   rw[if_pos h,Ou g _ _ _ e2]
   show setI _ _ _ _=_
   rw[Ku,e3,e4,ii g _ _ _ (Faj _)]
  rw[h1,zwl]
  have n1:=nb (-1) 0 (by omega) (by decide)
  have n2:=nb (-1) (-1) (by omega) (by decide)
  have n3:=nb 0 (-1) (by omega) (by decide)
  have n4:=nb 1 (-1) (by omega) (by decide)
  rw[Fcd]at n1 n3
  rw[<-Fd7]at n1 n2 n3 n4
  rw[<-Fd7]at n2
  rw[n1,n2,n3,n4]
 ·obtain⟨e1,e2,e3,e4⟩:=Cl hg h
  have hj:g.T.length-1-(g.T.length-1-tl g x y)=tl g x y:=by omega
  unfold Dg
  generalize hF:wx g (λt=>if o t then 128 else 0) g.T.length=F
  have nb:∀dx dy:Int,(dy=1\/dy=0/\dx=1)->-1<=dx->gv g (Bi g F g.T.length (g.T.length-1-tl g x y)) (x+dx) (y+dy)=gv g (Bi g F g.T.length g.T.length) (x+dx) (y+dy):=λdx dy hd hx=>by
   unfold gv
   split
   ·rename_i h2
    obtain⟨f1,f2,f3,f4⟩:=Cl hg h2
    have hlt:tl g x y<tl g (x+dx) (y+dy):=by
     have hb:=h.1
     have hb2:=h2.1
     rcases hd with rfl|⟨rfl,rfl⟩
     ·have:g.W*(y+1)=g.W*y+g.W:=by rw[Int.mul_add];omega
      rw[this]at f1
      have hne:(tl g (x+dx) (y+1):Int)≠tl g x y:=λe=>by
       rw[e,e4]at f4
       omega
      omega
     ·rw[Fcd]at f1⊢
      omega
    rw[Ot g _ _ _ _ f2 (by omega) (by omega),Ot g _ _ _ _ f2 (Faj _) (by omega)]
   ·rfl
  have h1:gv g (Bi g F g.T.length g.T.length) x y=w9 g (Bi g F g.T.length (g.T.length-1-tl g x y)) x y (gv g F x y) I4:=by
   unfold gv
   rw[if_pos h,if_pos h,Ot g _ _ _ _ e2 (Faj _) (by omega)]
   show setI _ _ _ _=_
   rw[hj,Ku,e3,e4,ic g _ _ _ _ (by omega)]
  rw[h1,zwk]
  have n1:=nb 1 0 (by omega) (by decide)
  have n2:=nb 1 1 (by omega) (by decide)
  have n3:=nb 0 1 (by omega) (by decide)
  have n4:=nb (-1) 1 (by omega) (by decide)
  rw[Fcd]at n1 n3
  rw[<-Fd7]at n4
  rw[n1,n2,n3,n4]
def sqB(g:Gnd)(f:Nat->Bool)(s:Nat)(x y:Int):Bool:=(List.range (2*s+1)).all λa=>(List.range (2*s+1)).all λb=>decide (onG g (x-s+a) (y-s+b))&&f (tl g (x-s+a) (y-s+b))
theorem iz{f:Nat->Bool}{s:Nat}{x y:Int}:sqB g f s x y=true↔sqP g f s x y:=by
 unfold sqB
 rw[Fb6]
 constructor
 ·intro h a b h1 h2 h3 h4
  have h5:=h (a+s).toNat (Fbc.2 (by omega))
  rw[Fb6]at h5
  have h6:=h5 (b+s).toNat (Fbc.2 (by omega))
  rw[show x-s+((a+s).toNat:Int)=x+a by omega,show y-s+((b+s).toNat:Int)=y+b by omega,Fda]at h6
  exact⟨of_decide_eq_true h6.1,h6.2⟩
 ·intro h a ha
  have ha:=Fbc.1 ha
  rw[Fb6]
  intro b hb
  have hb:=Fbc.1 hb
  have:=h (a-s) (b-s) (by omega) (by omega) (by omega) (by omega)
  rw[show x-s+(a:Int)=x+(a-s) by omega,show y-s+(b:Int)=y+(b-s) by omega,Fda]
  exact⟨decide_eq_true this.1,this.2⟩
def zj(g:Gnd)(l:List Bld)(c s:Int)(t:Nat):Bool:=sqB g (yi g l c) s.toNat ((t:Int)%g.W) ((t:Int)/g.W)
theorem yal(hg:zr g)(l:List Bld)(c:Int){s:Int}(hs:0<=s/\s<=3)(ht:t<g.T.length):decide (s<Dg g (yi g l c) t)=zj g l c s t:=by
 rw[Fbq,decide_eq_true_iff]
 unfold zj
 rw[iz,<-zt1 hg _ ht _ (by omega)]
 omega
def C6(g:Gnd)(l:List Bld)(c s:Int):AV:=lst 1 jt (blL g.T.length (zj g l c s))
end
section
variable {g:Gnd} {t r:Nat}
def dirL:List (Int×Int):=[(0,-1),(1,0),(0,1),(-1,0),(1,-1),(1,1),(-1,1),(-1,-1)]
def vg(g:Gnd)(x y:Int)(d:Int×Int):Int:=if onG g (x+d.1) (y+d.2)then x+d.1+g.W*(y+d.2)else -1
def jc(g:Gnd)(t:Nat):List Int:=dirL.map (vg g ((t:Int)%g.W) ((t:Int)/g.W))
theorem Ik(g:Gnd)(t:Nat):(jc g t).length=8:=by simp[jc,dirL]
theorem pk(hg:zr g)(x y:Int)(d:Int×Int):vg g x y d=-1/\¬onG g (x+d.1) (y+d.2)\/onG g (x+d.1) (y+d.2)/\vg g x y d=(tl g (x+d.1) (y+d.2):Nat)/\tl g (x+d.1) (y+d.2)<g.T.length:=by
 unfold vg
 split
 ·rename_i h
  exact .inr ⟨h,(Cl hg h).1.symm,(Cl hg h).2.1⟩
 ·rename_i h
  exact .inl ⟨rfl,h⟩
theorem pj(hg:zr g){u:Int}(h:u∈jc g t):u=-1\/∃m:Nat,u=m/\m<g.T.length:=by
 unfold jc at h
 obtain⟨d,_,rfl⟩:=Fae.1 h
 rcases pk hg ((t:Int)%g.W) ((t:Int)/g.W) d with⟨q1,_⟩|⟨_,q2,q3⟩
 ·exact .inl q1
 ·exact .inr ⟨_,q2,q3⟩
def sqT(g:Gnd)(o:Nat->Bool)(r t:Nat):Bool:=sqB g o r ((t:Int)%g.W) ((t:Int)/g.W)
theorem sqT_iff{o:Nat->Bool}:sqT g o r t=true↔sqP g o r ((t:Int)%g.W) ((t:Int)/g.W):=iz
theorem zn1(hg:zr g)(o:Nat->Bool)(ht:t<g.T.length):sqT g o 0 t=o t:=by
 rw[Fbq,sqT_iff,sq_zero]
 obtain⟨h1,h2⟩:=Po hg ht
 rw[h2]
 exact⟨λh=>h.2,λh=>⟨h1,h⟩⟩
theorem Vm{o:Nat->Bool}{s:Nat}(h:s<=r)(hi:sqT g o r t=true):sqT g o s t=true:=sqT_iff.2 (Vl h (sqT_iff.1 hi))
theorem zn2(hg:zr g){o:Nat->Bool}(h:sqT g o r t=true):r<=63:=by
 have:=zny (sqT_iff.1 h)
 have:=hg.1.2
 omega
def okB(g:Gnd)(o:Nat->Bool)(r:Nat)(u:Int):Bool:=decide (0<=u)&&sqT g o r u.toNat
theorem oz(hg:zr g){o:Nat->Bool}{x y:Int}{d:Int×Int}:okB g o r (vg g x y d)=true↔onG g (x+d.1) (y+d.2)/\sqP g o r (x+d.1) (y+d.2):=by
 unfold okB
 rw[Fda]
 rcases pk hg x y d with⟨h1,h2⟩|⟨h1,h2,h3⟩
 ·rw[h1]
  exact⟨λh=>absurd (of_decide_eq_true h.1) (by decide),λh=>absurd h.1 h2⟩
 ·obtain⟨_,_,e3,e4⟩:=Cl hg h1
  rw[h2,Fa0,sqT_iff,e3,e4]
  exact⟨λh=>⟨h1,h.2⟩,λh=>⟨decide_eq_true (by omega),h.2⟩⟩
theorem yc1{a b:Int}(h1:-1<=a)(h2:a<=1)(h3:-1<=b)(h4:b<=1):(a=0/\b=0)\/(a,b)∈dirL:=by
 have ha:a=-1\/a=0\/a=1:=by omega
 have hb:b=-1\/b=0\/b=1:=by omega
 rcases ha with rfl|rfl|rfl<;>rcases hb with rfl|rfl|rfl<;>first|exact .inl ⟨rfl,rfl⟩|exact .inr (by decide)
theorem zn3(hg:zr g){o:Nat->Bool}(ht:t<g.T.length):sqT g o (r+1) t=(sqT g o r t&&(jc g t).all (okB g o r)):=by
 rw[Fbq,Fda,sqT_iff,sqT_iff,sq_succ,Fb6]
 unfold jc
 constructor
 ·intro h
  refine⟨by have:=(h 0 0 (by decide) (by decide) (by decide) (by decide)).2;simpa using this,λu hu=>?_⟩
  obtain⟨d,hd,rfl⟩:=Fae.1 hu
  refine(oz hg).2 ?_
  have:∀d∈dirL,(-1<=d.1/\d.1<=1)/\(-1<=d.2/\d.2<=1):=by decide
  have:=this d hd
  exact h d.1 d.2 this.1.1 this.1.2 this.2.1 this.2.2
 ·rintro⟨h0,h⟩ a b h1 h2 h3 h4
  rcases yc1 h1 h2 h3 h4 with⟨rfl,rfl⟩|hd
  ·rw[Fcd,Fcd]
   exact⟨(Po hg ht).1,h0⟩
  ·exact(oz hg).1 (h _ (Fae.2 ⟨(a,b),hd,rfl⟩))
def C0(g:Gnd)(o:Nat->Bool)(r i:Nat)(f:Nat->Int):Prop:=∀t,t<g.T.length->0<=f t/\f t<=((if t<i then r+1 else r:Nat):Int)/\∀s:Nat,s<(if t<i then r+1 else r)->((s:Int)<f t↔sqT g o s t=true)
theorem yab(g:Gnd)(o:Nat->Bool):C0 g o 0 0 λ_=>0:=λt _=>⟨Fcn _,by simp,λs hs=>absurd hs (by simp)⟩
theorem yae{o:Nat->Bool}{f:Nat->Int}(h:C0 g o r g.T.length f):C0 g o (r+1) 0 f:=λt ht=>by
 have:=h t ht
 rw[if_pos ht]at this
 rw[if_neg (Fa2 t)]
 exact this
theorem yag{o:Nat->Bool}{i:Nat}{f:Nat->Int}(h:C0 g o r i f)(ht:t<g.T.length):0<=f t/\f t<=r+1:=by
 have:=h t ht
 split at this<;>omega
theorem yad{o:Nat->Bool}{f:Nat->Int}(h:C0 g o r t f)(hn:sqT g o r t=false):C0 g o r (t+1) f:=λs hs=>by
 have h1:=h s hs
 by_cases e:s=t
 ·subst e
  rw[if_neg (Fdg s)]at h1
  rw[if_pos (by omega)]
  refine⟨h1.1,by omega,λq hq=>?_⟩
  by_cases e2:q=r
  ·subst e2
   rw[hn]
   exact⟨λhh=>by omega,λhh=>by cases hh⟩
  ·exact h1.2.2 q (by omega)
 ·by_cases e2:s<t
  ·rw[if_pos e2]at h1
   rw[if_pos (by omega)]
   exact h1
  ·rw[if_neg e2]at h1
   rw[if_neg (by omega)]
   exact h1
theorem yac{o:Nat->Bool}{f:Nat->Int}(h:C0 g o r t f)(ht:t<g.T.length)(hn:sqT g o r t=true):C0 g o r (t+1) (setI f t (f t+1)):=λs hs=>by
 have h1:=h s hs
 by_cases e:s=t
 ·subst e
  rw[if_neg (Fdg s)]at h1
  rw[if_pos (by omega),Ku]
  have hr:f s=r:=by
   by_cases e0:r=0
   ·subst e0;have:=h1.1;have:=h1.2.1;omega
   ·have:=(h1.2.2 (r-1) (by omega)).2 (Vm (by omega) hn)
    have:=h1.2.1
    omega
  rw[hr]
  refine⟨by omega,by omega,λq hq=>⟨λ_=>Vm (by omega) hn,λ_=>by omega⟩⟩
 ·rw[Ib _ _ e]
  by_cases e2:s<t
  ·rw[if_pos e2]at h1
   rw[if_pos (by omega)]
   exact h1
  ·rw[if_neg e2]at h1
   rw[if_neg (by omega)]
   exact h1
def Rc(g:Gnd)(o:Nat->Bool)(f:Nat->Int):Prop:=∀t,t<g.T.length->∀s:Nat,(s:Int)<f t↔sqT g o s t=true
theorem yaf{o:Nat->Bool}{f:Nat->Int}(h:C0 g o r 0 f)(hn:∀t,t<g.T.length->sqT g o r t=false):Rc g o f:=λt ht s=>by
 have h1:=h t ht
 rw[if_neg (Fa2 t)]at h1
 by_cases e:s<r
 ·exact h1.2.2 s e
 ·constructor
  ·intro hh;have:=h1.2.1;omega
  ·intro hh
   have:=Vm (s:=r) (by omega) hh
   rw[hn t ht]at this
   cases this
theorem yaa{l:List Bld}{c:Int}{f:Nat->Int}(h:Rc g (yi g l c) f){s:Int}(hs:0<=s)(ht:t<g.T.length):decide (s<f t)=zj g l c s t:=by
 rw[Fbq,decide_eq_true_iff]
 have:=h t ht s.toNat
 rw[show((s.toNat:Nat):Int)=s by omega]at this
 exact this
def nxF(g:Gnd)(o:Nat->Bool)(r t:Nat)(v:Bool)(s:Nat):Bool:=if s<t then sqT g o (r+1) s else(decide (s=t)&&v)
def Ca(g:Gnd)(o:Nat->Bool)(r t:Nat):Bool:=(List.range t).any (sqT g o (r+1))
theorem zyv(g:Gnd)(o:Nat->Bool)(r t:Nat):Ca g o r (t+1)=(Ca g o r t||sqT g o (r+1) t):=by
 unfold Ca
 rw[Fes,List.any_append]
 simp
theorem zw4(g:Gnd)(o:Nat->Bool)(r:Nat):nxF g o r 0 false=λ_=>false:=funext λs=>by
 unfold nxF
 rw[if_neg (Fa2 s),Fe2]
theorem o7(g:Gnd)(o:Nat->Bool)(r t:Nat):nxF g o r t (sqT g o (r+1) t)=nxF g o r (t+1) false:=funext λs=>by
 unfold nxF
 by_cases h:s<t
 ·rw[if_pos h,if_pos (by omega)]
 ·rw[if_neg h]
  by_cases e:s=t
  ·subst e
   rw[if_pos (by omega)];simp
  ·rw[if_neg (by omega)];simp[e]
theorem zw6(g:Gnd)(o:Nat->Bool)(r n:Nat):∀t,t<n->nxF g o r n false t=sqT g o (r+1) t:=λt ht=>if_pos ht
theorem o8(g:Gnd)(o:Nat->Bool)(r t:Nat)(v:Bool):nxF g o r t v t=v:=by
 unfold nxF
 rw[if_neg (Fdg t)];simp
theorem zw5(g:Gnd)(o:Nat->Bool)(r t:Nat)(v u:Bool){s:Nat}(h:s≠t):nxF g o r t v s=nxF g o r t u s:=by
 unfold nxF
 split
 ·rfl
 ·simp[h]
end
end Go.V
