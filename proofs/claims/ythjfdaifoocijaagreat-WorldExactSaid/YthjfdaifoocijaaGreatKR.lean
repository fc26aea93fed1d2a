/- Ground of laws of thronglaw25: contracts and plain lemmas; no condition beyond the row's own. -/
import Derived.Test.YthjfdaifoocijaaGreatKM
import Derived.Test.YthjfdaifoocijaaGreatKQ
set_option linter.unusedSimpArgs false
set_option linter.unusedVariables false
set_option linter.defProp false
namespace Go.Proofs
open Go Go.V
set_option maxRecDepth 20000
set_option maxHeartbeats 4000000
def Qag{p:Prop}(h:p:=by rw[q2];omega):p:=h
def yfo(g:Gnd)(hg:zw g)(t:Nat)(ht:(t:Int)<g.W*g.H)(st:Store)(R:Ja)(h:R (.agg (zu (tx g t+32768,ty g t+32768))) st):Jb 229 [.agg (zq g),int (t:Nat)] st R:=by have htb:=Ck hg ht;have hq:=D6 (t:=t) hg.1.1;have hq2:=D7 (t:=t) hg.1.1;have hg1:=hg.1;have hg2:=hg.2.1;unfold tx ty at h;refine Qy 18 Tryz.func229 ?_;refine Qc zb zxl ?_;refine⟨θ,ze (by rw[hq];omega) (ze (by rw[hq];omega) ⟨θ,ze θl (ze θl (ze θl (Qbq ?_)))⟩)⟩;rw[<-hq,<-hq2]at h;exact ret h
def Si(g:Gnd)(hg:zw g)(t:Nat)(ht:(t:Int)<g.W*g.H)(x:Int)(hx:x=(t:Int))(st:Store)(R:Ja)(h:R (.agg (zu (tx g t+32768,ty g t+32768))) st):Jb 229 [.agg (zq g),int x] st R:=by subst hx;exact yfo g hg t ht st R h
def Sj(g:Gnd)(hg:zw g)(t:Nat)(ht:t<g.T.length)(x:Int)(hx:x=(t:Int))(st:Store)(R:Ja)(h:R (.agg (zu (yf g t))) st):Jb 229 [.agg (zq g),int x] st R:=
 Si g hg t (by have:=qg hg;omega) x hx st R h
def I6(g:Gnd)(hg:zw g)(t:Nat)(ht:t<g.T.length)(tI:Int)(htI:tI=(t:Int))(st:Store)(R:Ja)(h:R (.agg (zu (yf g t))) st):Jb 7 [.agg (zq g),int tI] st R:=by subst htI;have ha:=qg hg;have htb:=Ck hg (t:=t) θ;have hq:=D6 (t:=t) hg.1.1;have hq2:=D7 (t:=t) hg.1.1;have hg1:=hg.1;have hg2:=hg.2.1;unfold yf tx ty at h;rw[<-hq,<-hq2]at h;refine Qy 18 Tryz.func7 ?_;refine Qc zb zvl ?_;exact⟨θ,Qd (Qd ⟨θ,Qd (Qd (Qd (Qbq (ret h))))⟩)⟩
def ycw(g:Gnd)(hg:zw g)(p:Vc)(h0:(0<=p.1/\p.1<g.W*65536)/\(0<=p.2/\p.2<g.H*65536))(st:Store)(R:Ja)(h:R (int (vm g p:Nat)) st):Jb 184 [.agg (zq g),.agg (zu p)] st R:=by
 have hs:=hg.1;have hs2:=hg.2.1;obtain⟨e1,e2,_⟩:=bf hg h0;have ha:=qg hg;refine Qy 39 Tryz.func184 ?_;refine bcd (λc1=>absurd c1 θ) λc1=>?_;refine Qd (bcd (λc1=>absurd c1 θ) λc1=>bcd (λc1=>absurd c1 θ) λc1=>?_);refine Qd (bcd (λc1=>absurd c1 θ) λc1=>?_);have q1:p.1.tdiv 65536=p.1/65536:=Faz θ;have q2:p.2.tdiv 65536=p.2/65536:=Faz θ;have hx:0<=p.1/65536/\p.1/65536<=128:=θ;have hy:0<=p.2/65536/\p.2/65536<=128:=θ;have hm:0<=g.W*(p.2/65536)/\g.W*(p.2/65536)<=128*128:=⟨Fav θ hy.1,Fa9 hs.2 hy.2 hy.1 ψ⟩
 refine⟨ψ,ze (by rw[q1];omega) ⟨ψ,ze Qag (ze Qag (ze (by rw[q1,q2];omega) ?_))⟩⟩;rw[q1,q2,<-e1];exact ret h
def zgf(g:Gnd)(hg:zw g)(p:Vc)(h0:(0<=p.1/\p.1<g.W*65536)/\(0<=p.2/\p.2<g.H*65536))(st:Store)(R:Ja)(h:R (int (vm g p:Nat)) st):Jb 231 [.agg (zq g),.agg (zu p)] st R:=by
 have hs:=hg.1;have hs2:=hg.2.1;obtain⟨e1,e2,_⟩:=bf hg h0;have ha:=qg hg;refine Qy 39 Tryz.func231 ?_;refine bcd (λc1=>absurd c1 θ) λc1=>?_;refine Qd (bcd (λc1=>absurd c1 θ) λc1=>bcd (λc1=>absurd c1 θ) λc1=>?_);refine Qd (bcd (λc1=>absurd c1 θ) λc1=>?_);have q1:p.1.tdiv 65536=p.1/65536:=Faz θ;have q2:p.2.tdiv 65536=p.2/65536:=Faz θ;have hx:0<=p.1/65536/\p.1/65536<=128:=θ;have hy:0<=p.2/65536/\p.2/65536<=128:=θ;have hm:0<=g.W*(p.2/65536)/\g.W*(p.2/65536)<=128*128:=⟨Fav θ hy.1,Fa9 hs.2 hy.2 hy.1 ψ⟩
 refine⟨ψ,ze (by rw[q1];omega) ⟨ψ,ze Qag (ze Qag (ze (by rw[q1,q2];omega) ?_))⟩⟩;rw[q1,q2,<-e1];exact ret h
section
variable {F G:Store} {s p i:Nat} {w:Wld} {v o0 o1 o2:AV}
def dm{L:List Ent}(hS:StandR F G s p w v L o0 o1 o2)(hos:xz v s)(hr:yr w.U)(hU:w.U.length<=1000000)(hL:L.length<=1000000)(hok:∀e∈L,e.2.ok)(hi:i<w.U.length)(u:Unt)(hid:w.U[i].id=u.id)(hp:u.pos.ok)(R:Ja)
  (h:∀F' G',StandR F' G' s p {w with U:=w.U.set i u} v (D2 L u) o0 o1 o2->(∀q,xz v q->G'.obj q=G.obj q)->R (.tup []) (F'.un (svS G' s {w with U:=w.U.set i u} v o0 o1 o2 p))):
  Jb 95 [ptr s,.agg (zf u)] (F.un (svS G s w v o0 o1 o2 p)) R:=by
 have hrow:RowsQ 10 zf (F.un (svS G s w v o0 o1 o2 p)) v w.U:=(H2 hS.hs hS.hu).un;have hs0:(F.un (svS G s w v o0 o1 o2 p)).obj s=some (.cells (svC w v o0 o1 o2 p)):=zg (Bd _ _ _ _ _ _ _ _);rcases hS.hu with(⟨_,hl0⟩|⟨b,cap,J,rfl,ho,hc1,hc2,hc3⟩)|⟨_,_,_,hl0⟩
 ·rw[hl0]at hi;exact absurd hi (Fau i)
 rotate_left
 ·rw[hl0]at hi;exact absurd hi (Fau i)
 have hbs:b≠s:=hos b _ _ rfl θ;have hob:(F.un (svS G s w (.s (.slice (some ⟨b,0,none⟩) w.U.length cap)) o0 o1 o2 p)).obj b=some (.cells ((rws zf w.U).flatten++J)):=zg (by show(G.sO s _).obj b=_;rw[zj hbs];exact ho);refine Qy 44 Tryz.func95 ?_;refine Qc zb zvf (zoo hs0 ?_);refine⟨Wc hrow θ hr u.id _ λk hk z hz=>⟨Qe,?_⟩,Tv⟩;have hki:k=i:=by
  by_cases h1:k<i
  ·have:=hk.2.2 k θ (Fal _);have:=Rx hr h1 hi;omega
  ·by_cases h2:i<k
   ·have:=hk.2.1 i hi h2;omega
   ·omega
 subst hki;refine Qbr (Qbr (Qc zb zve (zoo hs0 ⟨k,rfl,hi,⟨za _ rfl (j3 rfl (ju (v:=.agg (zf u)) rfl rfl rfl rfl (jq (i:=ti36) (v:=.agg (zf u)) (xs:=zf u) (b:=b) (o:=0+k*10) (l:=(rws zf w.U).flatten++J) rfl rfl rfl hob (by rw[Fae,qr yn,yn];omega) ?_))),Tv⟩⟩)));have e0:(F.un (svS G s w (.s (.slice (some ⟨b,0,none⟩) w.U.length cap)) o0 o1 o2 p)).sO b (.cells (zv ((rws zf w.U).flatten++J) (0+k*10) (zf u)))=F.un (svS (G.sO b (.cells ((rws zf (w.U.set k u)).flatten++J))) s {w with U:=w.U.set k u} (.s (.slice (some ⟨b,0,none⟩) w.U.length cap)) o0 o1 o2 p):=by rw[Fbg,ya1 yn hi u J,yd];unfold svS;rw[F7 hbs];rfl
 rw[e0];have hG:∀q,q≠b->(G.sO b (.cells ((rws zf (w.U.set k u)).flatten++J))).obj q=G.obj q:=λq hq=>zj hq;have hS':StandR F (G.sO b (.cells ((rws zf (w.U.set k u)).flatten++J))) s p {w with U:=w.U.set k u} (.s (.slice (some ⟨b,0,none⟩) w.U.length cap)) L o0 o1 o2:=by
  refine⟨hS.hc,λj h1 h2=>hS.hd j h1 (svS_has.2 ?_),?_,.inl (.inr ⟨b,cap,J,by rw[Faf],zd _ _ _,by rw[Faf];exact hc1,by rw[Faf];exact hc2,hc3⟩),hS.h0,hS.h1,hS.h2⟩
  ·rcases svS_has.1 h2 with h2|h2
   ·exact .inl h2
   ·rcases has_setObj_iff.1 h2 with rfl|h2
    ·exact .inr (xf ho)
    ·exact .inr h2
  ·rw[hG s (Ne.symm hbs)];exact hS.hs
 have hoffG:∀q,xz (.s (.slice (some ⟨b,0,none⟩) w.U.length cap)) q->(G.sO b (.cells ((rws zf (w.U.set k u)).flatten++J))).obj q=G.obj q:=λq hq=>hG q (Ne.symm (hq b _ _ rfl θ));generalize G.sO b _=G1 at hS' hoffG⊢;have hs1:(F.un (svS G1 s {w with U:=w.U.set k u} (.s (.slice (some ⟨b,0,none⟩) w.U.length cap)) o0 o1 o2 p)).obj s=some (.cells (svC w (.s (.slice (some ⟨b,0,none⟩) w.U.length cap)) o0 o1 o2 p)):=zg (Bd _ _ _ _ _ _ _ _);refine⟨Tv,zt (λc1=>?_) λc1=>?_⟩
 ·refine Qc zb zvd (zoo hs1 ⟨i9 hS'.hc hS'.hd θ hok u.id u.pos hp _ λF2 h2 h3=>⟨Tv,?_⟩,Tv⟩);have e9:D2 L u=qx L u.id++[(u.id,u.pos)]:=if_pos c1;exact ret (h F2 G1 ⟨by rw[e9];exact h2,h3,hS'.hs,hS'.hu,hS'.h0,hS'.h1,hS'.h2⟩ hoffG)
 ·refine Qc zb zvc (zoo hs1 ⟨ymw hS'.hc hS'.hd θ hok u.id _ λF2 h2 h3=>⟨Tv,?_⟩,Tv⟩);have e9:D2 L u=qx L u.id:=if_neg c1;exact ret (h F2 G1 ⟨by rw[e9];exact h2,h3,hS'.hs,hS'.hu,hS'.h0,hS'.h1,hS'.h2⟩ hoffG)
def R4{L:List Ent}(hS:StandR F G s p w v L o0 o1 o2)(hos:xz v s)(hr:yr w.U)(hU:w.U.length<=1000000)(hL:L.length<=1000000)(hok:∀e∈L,e.2.ok)(hi:i<w.U.length)(u:Unt)(hid:w.U[i].id=u.id)(hp:u.pos.ok)(R:Ja)
  (h:∀F' G' L',StandR F' G' s p {w with U:=w.U.set i u} v L' o0 o1 o2->(∀q,xz v q->G'.obj q=G.obj q)->L'.length<=L.length+1->(∀e∈L',e.2.ok)->R (.tup []) (F'.un (svS G' s {w with U:=w.U.set i u} v o0 o1 o2 p))):
  Jb 95 [ptr s,.agg (zf u)] (F.un (svS G s w v o0 o1 o2 p)) R:=
 dm hS hos hr hU hL hok hi u hid hp R λF' G' h1 h2=>h F' G' _ h1 h2 (ykh L u) (ykg hok hp)
end
def ya7(m:Int)(hm:0<=m)(st:Store)(R:Ja)(h:∀r,Cq m r->R (int r) st):Jb 339 [.agg (jc m)] st R:=by
 refine Qy 22 Tryz.func339 ?_
 refine AWp.loop (σ:=Nat×Int) ⟨λx=>[(1,.bx 1 0),(3,.av (u64 x.2)),(4,.av (int ((x.1:Int)-1)))],λ_=>[(1,jc m)],
  λx st'=>x.1<=63/\st'=st/\H8 m x.2 x.1,λx=>x.1⟩ zb ?_ ?_
 ·exact⟨(63,0),Tv,⟨Fal _,rfl,yba hm⟩,Qbn,⟨rfl,Tv⟩⟩
 rintro⟨k,r⟩ st' ⟨hk,rfl,hr⟩;dsimp only at hk hr⊢;refine bcd (λh1=>?_) λh1=>?_;rotate_left
 ·have:k=0:=θ;subst this;have hi:=ybc hr;have h2:=h r hi;have hi0:=hi.1;exact⟨⟨θ,hi.2.1⟩,ret h2⟩
 cases k with
 |zero=>omega
 |succ k=>
  obtain⟨e1,e2,e3,e4⟩:=ybd hr;have e5:((k+1:Nat):Int)-1=(k:Int):=θ;refine⟨θ,?_⟩;have e7:jj .or .u64 r (IntKind.u64.wrap (1*2^(min (((k+1:Nat):Int)-1).toNat IntKind.u64.bits)))=r+2^k:=by rw[e5,zu4 θ,e1]
  have e8:∀X,X=r+2^k->0<=X/\X<18446744073709551616/\0<=X*X:=λX hX=>by subst hX;exact⟨θ,θ,Fav θ θ⟩
  have e8:=e8 _ e7;refine Qc zb zwi ⟨Ve _ e8.1 e8.2.1 _ _ ⟨Qe,⟨zd8 m _ hm e8.2.2 _ _ ⟨Qe,?_⟩,Tv⟩⟩,Tv⟩;have no:=λhh=>ybb hr hh;have yes:=λhh=>ya9 hr hh;rw[<-e7]at no yes;generalize jj .or .u64 r (IntKind.u64.wrap (1*2^(min (((k+1:Nat):Int)-1).toNat IntKind.u64.bits)))=X at*;refine ye (bcd (λc1=>?_) λc1=>?_)
  ·refine⟨by unfold ym;omega,⟨(k,r),?_,⟨ζ,rfl,no c1⟩,⟨Tq,Tq,?_,Tv⟩,⟨rfl,Tv⟩⟩⟩
   ·show k<k+1;omega
   ·rw[e5];exact Tq
  ·refine⟨by unfold ym;omega,⟨(k,X),?_,⟨ζ,rfl,yes θ⟩,⟨Tq,Tq,?_,Tv⟩,⟨rfl,Tv⟩⟩⟩
   ·show k<k+1;omega
   ·rw[e5];exact Tq
def yav(m:Int)(hm:0<=m)(st:Store)(R:Ja)(h:∀r,Cq m r->R (u64 r) st):Jb 311 [.agg (jc m),u64 9223372036854775807] st R:=by
 refine Qy 28 Tryz.func311 ?_
 refine AWp.loop (σ:=Int×Int) ⟨λx=>[(2,.bx 2 0),(5,.av (u64 x.1)),(6,.av (u64 x.2))],λ_=>[(2,jc m)],
  λx st'=>st'=st/\Ku m x.1 x.2,λx=>(x.2-x.1).toNat⟩ zb ?_ ?_
 ·exact⟨(0,9223372036854775807),Tv,⟨rfl,ybe hm⟩,Qbn,⟨rfl,Tv⟩⟩
 rintro⟨l,u⟩ st' ⟨rfl,hr⟩;dsimp only at hr⊢;refine bcd (λh1=>?_) λh1=>?_;rotate_left
 ·exact ret (h l (ybh hr h1))
 have b1:=hr.1;have b2:=hr.2.2.1;have w1:IntKind.u64.wrap (u-l)=u-l:=j6 θ θ;have w2:IntKind.u64.wrap (u-l+1)=u-l+1:=j6 θ θ;have hd:0<=(u-l+1)/2/\(u-l+1)/2<=u-l/\1<=(u-l+1)/2:=θ;have w3:IntKind.u64.wrap ((u-l+1)/2)=(u-l+1)/2:=j6 θ θ;have w4:IntKind.u64.wrap (l+(u-l+1)/2)=l+(u-l+1)/2:=j6 θ θ;have wX:IntKind.u64.wrap (l+IntKind.u64.wrap ((IntKind.u64.wrap (IntKind.u64.wrap (u-l)+1)).tdiv 2))=l+(u-l+1)/2:=by rw[w1,w2,show(u-l+1).tdiv 2=(u-l+1)/2 from Faz θ,w3,w4]
 have e8:∀X,X=l+(u-l+1)/2->0<=X/\X<18446744073709551616/\0<=X*X/\l<X/\X<=u:=λX hX=>by have h0:0<=X:=θ;exact⟨h0,θ,Fav h0 h0,θ,θ⟩
 have e8:=e8 _ wX;refine⟨ψ,Qc zb zwp ⟨Nq _ _ e8.1 e8.2.1 e8.1 e8.2.1 _ _ ⟨Qe,⟨zas m _ hm e8.2.2.1 _ _ ⟨Qe,?_⟩,Tv⟩⟩,Tv⟩⟩;generalize IntKind.u64.wrap (l+IntKind.u64.wrap ((IntKind.u64.wrap (IntKind.u64.wrap (u-l)+1)).tdiv 2))=X at*;refine bcd (λc1=>?_) λc1=>?_
 ·have w5:IntKind.u64.wrap (X-1)=X-1:=j6 θ θ;refine⟨(l,X-1),?_,⟨rfl,ybg hr e8.2.2.2.1 e8.2.2.2.2 c1⟩,⟨Tq,Tq,?_,Tv⟩,⟨rfl,Tv⟩⟩
  ·show(X-1-l).toNat<(u-l).toNat;omega
  ·show LV.le (.av (u64 (IntKind.u64.wrap (X-1)))) (.av (u64 (X-1)));rw[w5];exact Tq
 ·refine⟨(X,u),?_,⟨rfl,ybf hr e8.2.2.2.1 e8.2.2.2.2 (Int.not_lt.1 c1)⟩,Qbn,⟨rfl,Tv⟩⟩;show(u-X).toNat<(u-l).toNat;omega
def fg(v:Vc)(hv:v.ok)(st:Store)(R:Ja)(h:∀r,Cq (sqr v) r->R (int r) st):Jb 296 [.agg (zu v)] st R:=by have hb:=L8 hv;refine Qy 6 Tryz.func296 ?_;exact ou v hv _ _ (ya7 (sqr v) (by unfold sqr;omega) _ _ λr hr=>ret (h r hr))
def Rv(v:Vc)(hv:v.ok)(st:Store)(R:Ja)(h:∀r,Cq (sqr v) r->R (int r) st):Jb 257 [.agg (zu v)] st R:=by have hb:=L8 hv;refine Qy 7 Tryz.func257 ?_;refine rn v hv _ _ (yav (sqr v) (by unfold sqr;omega) _ _ λr hr=>?_);have h0:=hr.1;exact⟨⟨θ,hr.2.1⟩,ret (h r hr)⟩
def zcd(p q:Vc)(hp:p.ok)(hq:q.ok)(st:Store)(R:Ja)(h:R (V.bool (decide (Dz p q))) st):Jb 246 [.agg (zu p),.agg (zu q)] st R:=by refine Qy 10 Tryz.func246 ?_;refine Py p q hp hq _ _ (fg _ (Hw p q) _ _ λr hr=>ret ?_);rw[show decide (Dz p q)=decide (131072<r)from by rw[Fbq];simp only[decide_eq_true_eq];exact(ry hr).symm]at h;exact h
def cw(p q:Vc)(hp:p.ok)(hq:q.ok)(st:Store)(R:Ja)(h:R (V.bool (decide (Dz p q))) st):Jb 180 [.agg (zu p),.agg (zu q)] st R:=by refine Qy 10 Tryz.func180 ?_;refine Oa p q hp hq _ _ (Rv _ (Hw p q) _ _ λr hr=>ret ?_);rw[show decide (Dz p q)=decide (131072<r)from by rw[Fbq];simp only[decide_eq_true_eq];exact(ry hr).symm]at h;exact h
def mo(v:Vc)(st:Store)(R:Ja)(h:R (.agg (zu (qu v))) st):Jb 93 [.agg (zu v)] st R:=by refine Qy 10 Tryz.func93 ?_;refine Qc zb zvh ?_;exact⟨Kz v.1 _ _ ⟨Qe,⟨Kz v.2 _ _ ⟨Qe,Qbq (ret h)⟩,Tv⟩⟩,Tv⟩
def my(a b:Vc)(ha:a.ok)(hb:b.ok)(st:Store)(R:Ja)(h:R (.agg (zu (xn a b))) st):Jb 94 [.agg (zu a),.agg (zu b)] st R:=by refine Qy 16 Tryz.func94 ?_;refine Qc zb zvg ?_;exact⟨Kd a.1 b.1 ha.1 hb.1 _ _ ⟨Qe,⟨Kd a.2 b.2 ha.2 hb.2 _ _ ⟨Qe,Qbq (ret h)⟩,Tv⟩⟩,Tv⟩
def Ob(a b:Vc)(ha:a.ok)(hb:b.ok)(st:Store)(R:Ja)(h:R (.agg (zu (xn a b))) st):Jb 57 [.agg (zu a),.agg (zu b)] st R:=by refine Qy 16 Tryz.func57 ?_;refine Qc zb zvt ?_;exact⟨df a.1 b.1 ha.1 hb.1 _ _ ⟨Qe,⟨df a.2 b.2 ha.2 hb.2 _ _ ⟨Qe,Qbq (ret h)⟩,Tv⟩⟩,Tv⟩
def yk3(lo y:Int)(h0:0<=lo)(h1:lo<18446744073709551616)(h2:0<y)(h3:y<18446744073709551616)(st:Store)(R:Ja)(h:R (.tup [u64 (lo/y),u64 (lo%y)]) st):Jb 340 [u64 0,u64 lo,u64 y] st R:=by
 have e1:lo.tdiv y=lo/y:=Faz h0;have e2:lo.tmod y=lo%y:=Fcl h0;have b1:lo/y<=lo:=Fc0 _ h0;have b0:0<=lo/y:=Fb2 h0 θ;have w:IntKind.u64.wrap (lo.tdiv y)=lo/y:=by rw[e1];exact j6 b0 θ
 refine Qy 135 Tryz.func340 ?_;refine zt (λc1=>absurd c1 θ) λc1=>bcd (λc2=>absurd c2 θ) λc2=>?_;refine Qc zb zwg ?_;refine⟨θ,⟨θ,⟨⟨Qe,⟨⟨Tv,?_⟩,Tv⟩⟩,Tv⟩⟩⟩;rw[w,e2];exact ret h
def nrm_lt{n:Int}:nrm n<0↔n<0:=by unfold nrm;split<;>omega
def zee{c:Int}(h:-4611686018427387904<=c/\c<=4611686018427387904):asz c=if c<0 then -c else c:=by unfold asz;rw[Ff θ]
def tf(c most long:Int)(hc:-1099511627776<=c/\c<=1099511627776)(hm:0<=most/\most<=1048576)(hl:0<long/\long<9223372036854775808)(st:Store)(R:Ja)(h:R (int (Ft c most long)) st):
  Jb 297 [int c,int most,int long] st R:=by
 have hasz:=zee (c:=c) θ;obtain⟨x,hx⟩:∃x,x=asz c:=⟨_,rfl⟩
 have hx0:0<=x/\x<=1099511627776:=by rw[hx,hasz];split<;>omega
 have hp0:0<=x*most:=Fav hx0.1 hm.1;have hp1:x*most<=1099511627776*1048576:=Fa9 hx0.2 hm.2 hm.1 θ;have hq1:x*most/long<=x*most:=Fc0 _ hp0;have hq0:0<=x*most/long:=Fb2 hp0 θ;have w1:IntKind.u64.wrap most=most:=j6 θ θ;have w2:IntKind.u64.wrap long=long:=j6 θ θ;refine Qy 39 Tryz.func297 ?_;refine ls c ⟨θ,θ⟩ _ _ ?_;rw[<-hx];show ACalls _ _ [u64 x,u64 (IntKind.u64.wrap most)] _ _;rw[w1];refine ep x most hx0.1 θ hm.1 θ _ _ ?_;have e2:jc (x*most)=[u64 0,u64 (x*most)]:=by unfold jc;rw[Fb8 hp0 θ,Fc8 hp0 θ]
 rw[e2];show ACalls _ _ [u64 0,u64 (x*most),u64 (IntKind.u64.wrap long)] _ _;rw[w2];refine yk3 _ _ hp0 θ hl.1 θ _ _ ?_;unfold Ft at h;refine bcd (λc1=>?_) λc1=>?_
 ·have c1:=nrm_lt.1 c1;rw[if_pos c1]at h;rw[if_pos c1]at hasz;refine Qd (Qd ?_);have e:0-x*most/long=-(-c*most/long):=by rw[hx,hasz];omega
  rw[e];exact ret h
 ·have c1:¬c<0:=λhh=>c1 (nrm_lt.2 hh);rw[if_neg c1]at h;rw[if_neg c1]at hasz;refine Qd ?_;rw[hx,hasz];exact ret h
def mm{v:Vc}(h:wo v):qu v=v:=(F6 (Dj h)).2.1
def V3(v:Vc)(most:Int)(hv:wo v)(hm:-9223372036854775808<=most/\most<=1048576)(st:Store)(R:Ja)(h:R (.agg (zu (xy v most))) st):
  Jb 228 [.agg (zu v),int most] st R:=by
 have hn:=mm hv;have hsq:=(F6 (Dj hv)).2.2.1;have hri:=G8 hsq;unfold xy at h;rw[<-max2_eq]at h;have hmx:0<=max2 most 0/\max2 most 0<=1048576:=by rw[max2_eq];omega
 obtain⟨r0,r1,_,_⟩:=hri;refine Qy 27 Tryz.func228 ?_;refine mo v _ _ ?_;rw[hn]at h⊢;refine fg v (W8 hv) _ _ λr hr=>?_;have hr:=Od hsq hr;subst hr;generalize max2 most 0=m at*;generalize jx (sqr v)=L at*;refine bcd (λc1=>?_) λc1=>?_
 ·rw[if_pos c1]at h;exact ret h
 rw[if_neg c1]at h;have e1:nrm v.1=v.1:=congrArg Prod.fst hn;have e2:nrm v.2=v.2:=congrArg Prod.snd hn;rw[e1,e2]at h;exact Qc zb zxm ⟨tf v.1 m L hv.1 hmx θ _ _ ⟨Qe,⟨tf v.2 m L hv.2 hmx θ _ _ ⟨Qe,Qbq (ret h)⟩,Tv⟩⟩,Tv⟩
def zg0(p q:Vc)(s:Int)(hp:xq p)(hq:xq q)(hs:0<=s/\s<=1048576)(st:Store)(R:Ja)(h:R (.agg (zu (Bi p q s))) st):Jb 234 [.agg (zu p),.agg (zu q),int s] st R:=by
 have hp':p.ok:=by unfold xq at hp;exact⟨⟨θ,θ⟩,⟨θ,θ⟩⟩
 have hq':q.ok:=by unfold xq at hq;exact⟨⟨θ,θ⟩,⟨θ,θ⟩⟩
 refine Qy 12 Tryz.func234 ?_;exact Py q p hq' hp' _ _ (V3 _ s (Kg hp hq) θ _ _ (ret h))
def Ok(a b:Int×Int)(st:Store)(R:Ja)(h:∀z:Bool,(z=true↔qlt a b)->R (bool z) st):Jb 437 [.agg (itC a),.agg (itC b)] st R:=by
 refine Qy 24 Tryz.func437 ?_;repeat' (first|refine bcd (λ_=>?_) (λ_=>?_)|refine zh (λ_=>?_) (λ_=>?_)|refine Qd ?_|fail)
 all_goals
  refine ret (h _ ?_);unfold qlt;simp at*;omega
def ydl(S:Store)(R:Ja)(h:∀p,Fresh S p->R (ptr p) (S.sO p (.cells [.s (.slice none 0 0)]))):Jb 433 [] S R:=by refine Qa (c:=cfg 3 [2] []) zb Tryz.func433 ?_;intro p hp;exact ret (h p hp)
def ydd{F:Store}{p:Nat}{l:List (Int×Int)}(hq:QOf F p l)(hl:l.length<=1000000)(hh:wx l)(x:Int×Int)(R:Ja)
  (h:∀F' l',QOf F' p l'->wx l'->l'.Perm (x::l)->R (.tup []) F'):Jb 434 [ptr p,int x.1,int x.2] F R:=by
 obtain⟨v,hp,hr,hne⟩:=hq.rows;refine Qy 74 Tryz.func434 ?_;refine Qbs ?_;refine⟨ψ,Ni (ie:=ti490) rfl K8 ψ hr x rfl θ λb cap L q1 q2 q3 q4=>?_⟩;have hbp:b≠p:=by
  rcases q1 with q1|⟨c0,q1⟩
  ·exact λe=>by have:=q1.1;rw[e,hp]at this;cases this
  ·exact hne b c0 q1
 have hp2:(F.sO b (.cells ((rws itC (l++[x])).flatten++L))).obj p=some (.cells [v]):=by rw[zj (Ne.symm hbp)];exact hp
 refine xo (i:=ti487) (v:=.s (.slice (some ⟨b,0,none⟩) (l++[x]).length cap)) (b:=p) (o:=0) (l:=[v]) rfl rfl rfl hp2 (Fal 1) ?_
 have hQ:QAt ((F.sO b (.cells ((rws itC (l++[x])).flatten++L))).sO p (.cells (zv [v] 0 [.s (.slice (some ⟨b,0,none⟩) (l++[x]).length cap)]))) p b cap (l++[x]) L:=
  ⟨zd _ _ _,by rw[zj hbp];exact zd _ _ _,hbp,q2,q3,q4⟩
 have hU:=ydf hh x;have hP:=yde l x;have hlen:(l++[x]).length=l.length+1:=φ;generalize hm:l++[x]=m at hQ hU hP hlen⊢;generalize(F.sO b (.cells ((rws itC m).flatten++L))).sO p _=F1 at hQ⊢;refine zoo hQ.hp (Qd ?_)
 refine AWp.loop (σ:=Nat×Store×List (Int×Int)) ⟨λq=>[(0,.av (ptr p)),(6,.av (int (q.1:Nat)))],λ_=>[],
  λq st'=>st'=q.2.1/\QAt q.2.1 p b cap q.2.2 L/\UpF (qat q.2.2) q.2.2.length q.1/\q.2.2.Perm (x::l)/\q.2.2.length=l.length+1/\q.1<q.2.2.length,λq=>q.1⟩ zb ?_ ?_
 ·refine⟨(l.length,F1,m),Tv,⟨rfl,hQ,hU,hP,hlen,ζ⟩,⟨Tq,?_,Tv⟩,Tv⟩;show LV.le (.av (int ((m.length:Int)-1))) (.av (int (l.length:Nat)));rw[show(m.length:Int)-1=(l.length:Nat) by omega];exact Tq
 rintro⟨i,F2',m2⟩ F2 ⟨rfl,hQ,hU,hP,hlen,hi⟩;dsimp only at hQ hU hP hlen hi⊢;refine bcd (λc1=>?_) λc1=>?_;rotate_left
 ·have:i=0:=θ;subst this;exact ret (h F2 m2 (.inr ⟨b,cap,L,hQ⟩) (ss hU (.inl rfl)) hP)
 have hpar:((i:Int)-1).tdiv 2=(par i:Nat):=by unfold par;rw[Faz θ];omega
 have hpl:par i<m2.length:=by have:=C0 (show 0<i by omega);omega
 refine Qd ⟨ψ,ze (by rw[hpar];omega) (Qc zb zv7 (zoo hQ.hp ⟨i,rfl,hi,zoo hQ.hb (yq (i:=ti490) (row:=itC (qat m2 i)) rfl rfl (wv hi) (zoo hQ.hp ⟨par i,hpar,hpl,zoo hQ.hb (yq (i:=ti490) (row:=itC (qat m2 (par i))) rfl rfl (wv hpl) ⟨Ok _ _ _ _ λz hz=>⟨Tv,ye (zh (λc2=>?_) λc2=>?_)⟩,Tv⟩)⟩))⟩))⟩;rotate_left
 ·exact ret (h F2 m2 (.inr ⟨b,cap,L,hQ⟩) (ss hU (.inr λhh=>ψk)) hP)
 obtain⟨hU2,hP2⟩:=ydc hU θ hi (hz.1 c2);have hS1:=hQ.set hi (qat m2 (par i));have hpl2:par i<(m2.set i (qat m2 (par i))).length:=by rw[Faf];exact hpl
 have hS2:=hS1.set hpl2 (qat m2 i);refine Qc zb zv6 (zoo hQ.hp (zoo hQ.hp (zoo hQ.hp ⟨par i,hpar,hpl,zoo hQ.hb (yq (i:=ti490) (row:=itC (qat m2 (par i))) rfl rfl (wv hpl) (zoo hQ.hp ⟨i,rfl,hi,zoo hQ.hb (yq (i:=ti490) (row:=itC (qat m2 i)) rfl rfl (wv hi) ⟨i,rfl,hi,⟨za _ rfl (j3 rfl (ju (v:=.agg (itC (qat m2 (par i)))) rfl rfl rfl rfl (jq (i:=ti490) (xs:=itC (qat m2 (par i))) rfl rfl rfl hQ.hb (Hg hi _) ⟨Tv,⟨par i,hpar,hpl,⟨za _ rfl (j3 rfl (ju (v:=.agg (itC (qat m2 i))) rfl rfl rfl rfl (jq (i:=ti490) (xs:=itC (qat m2 i)) rfl rfl rfl hS1.hb (Hg hpl2 _) ⟨Tv,?_⟩))),Tv⟩⟩⟩))),Tv⟩⟩)⟩))⟩)));have hlen2:(wq m2 i (par i)).length=m2.length:=L6 _ _ _;refine⟨(par i,_,wq m2 i (par i)),?_,⟨rfl,hS2,hU2,hP2.trans hP,ζ,ζ⟩,⟨Tq,?_,Tv⟩,Tv⟩
 ·show par i<i;exact C0 θ
 ·rw[hpar];exact Tq
def LV.le_int{a b:Int}(h:a=b):LV.le (.av (int a)) (.av (int b)):=by subst h;exact Tq
def ydg{F:Store}{p:Nat}{l:List (Int×Int)}(hq:QOf F p l)(hl:l.length<=1000000)(hh:wx l)(R:Ja)
  (h0:l=[]->R (.tup [int 0,int 0,V.bool false]) F)
  (h1:0<l.length->∀F' l',QOf F' p l'->wx l'->l.Perm (qat l 0::l')->R (.tup [int (qat l 0).1,int (qat l 0).2,V.bool true]) F'):Jb 435 [ptr p] F R:=by
 by_cases hz:l.length=0
 ·have hnil:l=[]:=Fa4 hz;obtain⟨v,hp,hr,hne⟩:=hq.rows;have hv:∃a c,v=.s (.slice a 0 c):=by
   rcases hr with⟨rfl,_⟩|⟨b,cap,L,rfl,_⟩
   ·exact⟨_,_,rfl⟩
   ·exact⟨_,_,by rw[hz]⟩
  obtain⟨a,c,rfl⟩:=hv;refine Qy 121 Tryz.func435 ?_;refine Qbs ?_;exact Qd (ret (h0 hnil))
 obtain⟨b,cap,L,hQ⟩:=hq.pos θ;obtain⟨n,hn⟩:∃n,l.length=n+1:=⟨l.length-1,θ⟩
 have hc1:=hQ.h1;have h0l:0<l.length:=θ;have hnl:n<l.length:=θ;have hnI:(l.length:Int)-1=(n:Nat):=θ;refine Qy 121 Tryz.func435 ?_;refine zoo hQ.hp ?_;refine Qd (bcd (λc1=>absurd c1 θ) λc1=>zoo hQ.hp ?_);refine⟨0,rfl,h0l,zoo hQ.hb (yq (i:=ti490) (row:=itC (qat l 0)) rfl rfl (wv h0l) (Qc zb zv4 (zoo hQ.hp (zoo hQ.hp ⟨n,hnI,hnl,zoo hQ.hb (yq (i:=ti490) (row:=itC (qat l n)) rfl rfl (wv hnl) ⟨0,rfl,h0l,⟨za _ rfl (j3 rfl (ju (v:=.agg (itC (qat l n))) rfl rfl rfl rfl (jq (i:=ti490) (xs:=itC (qat l n)) rfl rfl rfl hQ.hb (Hg h0l _) ⟨Tv,?_⟩))),Tv⟩⟩)⟩))))⟩;have hQ1:=hQ.set h0l (qat l n);have hls:(l.set 0 (qat l n)).length=n+1:=by rw[Faf];exact hn
 refine za _ hQ1.hp ⟨0,n,rfl,hnI,Fad _,θ,.inl ⟨θ,xo (i:=ti487) (v:=.s (.slice (some ⟨b,0,none⟩) n cap)) (b:=p) (o:=0) (l:=[.s (.slice (some ⟨b,0,none⟩) (l.set 0 (qat l n)).length cap)]) rfl rfl rfl hQ1.hp (Fal 1) ?_⟩⟩;have hQ2:=hQ1.cut (n:=n) θ;have hD:=ydj hn hh;have hpm:=ydh hn;have hln:((l.set 0 (qat l n)).take n).length=n:=θe;have hfin:∀F' l',QOf F' p l'->wx l'->l'.Perm ((l.set 0 (qat l n)).take n)->R (.tup [int (qat l 0).1,int (qat l 0).2,V.bool true]) F':=λF' l' g1 g2 g3=>h1 h0l F' l' g1 g2 (hpm.trans (List.Perm.cons _ g3.symm));generalize(rws itC ((l.set 0 (qat l n)).drop n)).flatten++L=L2 at hQ2;generalize((l.set 0 (qat l n)).take n)=m0 at hQ2 hD hln hfin
 refine AWp.loop (σ:=Nat×Store×List (Int×Int)) ⟨λq=>[(0,.av (ptr p)),(5,.av (int (n:Nat))),(6,.bx 6 0),(7,.av (int (q.1:Nat)))],λ_=>[(6,itC (qat l 0))],
  λq st'=>st'=q.2.1/\QAt q.2.1 p b cap q.2.2 L2/\Hu (qat q.2.2) q.2.2.length q.1/\q.2.2.Perm m0/\q.2.2.length=n/\q.1<=n,λq=>n-q.1⟩ zb ?_ ?_
 ·exact⟨(0,_,m0),Tv,⟨rfl,hQ2,hD,List.Perm.refl _,hln,Fad _⟩,⟨Tq,LV.le_int hnI,Tq,Tq,Tv⟩,⟨rfl,Tv⟩⟩
 rintro⟨i,F2',m⟩ F2 ⟨rfl,hQ,hD,hP,hlen,hin⟩;dsimp only at hQ hD hP hlen hin⊢;refine Qd (Qd (bcd (λc1=>?_) λc1=>?_))
 ·have hF:=hfin F2 m (.inr ⟨b,cap,_,hQ⟩) (ydk hD θ) hP;exact Qc zb Rp ⟨⟨⟨rfl,Tv⟩,⟨⟨Tv,⟨⟨Tv,ret hF⟩,Tv⟩⟩,Tv⟩⟩,Tv⟩
 have hil:i<m.length:=θ;refine Qc zb zv5 (Qd (bcd (λc3=>?_) λc3=>?_));rotate_left
 ·refine Qbr ?_;have hkl:2*i+1<m.length:=θ;have hki:par (2*i+1)=i:=(Oo θ).2 (.inl rfl);have hmin:=iw (f:=qat m) (n:=m.length) (i:=i) (k:=2*i+1) (.inl ⟨rfl,λhx=>θ⟩);refine Qc zb cg (zoo hQ.hp ⟨2*i+1,θ,hkl,zoo hQ.hb (yq (i:=ti490) (row:=itC (qat m (2*i+1))) rfl rfl (wv hkl) (zoo hQ.hp ⟨i,rfl,hil,zoo hQ.hb (yq (i:=ti490) (row:=itC (qat m i)) rfl rfl (wv hil) ⟨Ok _ _ _ _ λz hz=>⟨Tv,ye (zh (λc2=>?_) λc2=>?_)⟩,Tv⟩)⟩))⟩);rotate_left
  ·have hF:=hfin F2 m (.inr ⟨b,cap,_,hQ⟩) (dh hD hmin λhh=>ψk) hP;exact Qc zb Rp ⟨⟨⟨rfl,Tv⟩,⟨⟨Tv,⟨⟨Tv,ret hF⟩,Tv⟩⟩,Tv⟩⟩,Tv⟩
  obtain⟨hD2,hP2⟩:=di hD θ hkl hki hmin (hz.1 c2);have hS1:=hQ.set hil (qat m (2*i+1));have hkl2:2*i+1<(m.set i (qat m (2*i+1))).length:=by rw[Faf];exact hkl
  have hS2:=hS1.set hkl2 (qat m i);refine Qc zb cf (zoo hQ.hp (zoo hQ.hp (zoo hQ.hp ⟨2*i+1,θ,hkl,zoo hQ.hb (yq (i:=ti490) (row:=itC (qat m (2*i+1))) rfl rfl (wv hkl) (zoo hQ.hp ⟨i,rfl,hil,zoo hQ.hb (yq (i:=ti490) (row:=itC (qat m i)) rfl rfl (wv hil) ⟨i,rfl,hil,⟨za _ rfl (j3 rfl (ju (v:=.agg (itC (qat m (2*i+1)))) rfl rfl rfl rfl (jq (i:=ti490) (xs:=itC (qat m (2*i+1))) rfl rfl rfl hQ.hb (Hg hil _) ⟨Tv,⟨2*i+1,θ,hkl,⟨za _ rfl (j3 rfl (ju (v:=.agg (itC (qat m i))) rfl rfl rfl rfl (jq (i:=ti490) (xs:=itC (qat m i)) rfl rfl rfl hS1.hb (Hg hkl2 _) ⟨Tv,?_⟩))),Tv⟩⟩⟩))),Tv⟩⟩)⟩))⟩)));have hlen2:(wq m i (2*i+1)).length=m.length:=L6 _ _ _;refine⟨(2*i+1,_,wq m i (2*i+1)),?_,⟨rfl,hS2,hD2,hP2.trans hP,ζ,ζ⟩,⟨Tq,Tq,Tq,?_,Tv⟩,⟨rfl,Tv⟩⟩
  ·show n-(2*i+1)<n-i;omega
  ·exact LV.le_int θ
 refine zoo hQ.hp (Qd ?_);have hkl1:2*i+2<m.length:=θ;have hkl0:2*i+1<m.length:=θ;refine⟨2*i+2,θ,hkl1,zoo hQ.hb (yq (i:=ti490) (row:=itC (qat m (2*i+2))) rfl rfl (wv hkl1) (zoo hQ.hp ⟨2*i+1,θ,hkl0,zoo hQ.hb (yq (i:=ti490) (row:=itC (qat m (2*i+1))) rfl rfl (wv hkl0) ⟨Ok _ _ _ _ λz hz1=>⟨Tv,zh (λc4=>?_) λc4=>?_⟩,Tv⟩)⟩))⟩
 ·refine Qd ?_;have hkl:2*i+2<m.length:=hkl1;have hki:par (2*i+2)=i:=(Oo θ).2 (.inr rfl);have hmin:=iw (f:=qat m) (n:=m.length) (i:=i) (k:=2*i+2) (.inr ⟨rfl,hz1.1 c4⟩);refine Qc zb cg (zoo hQ.hp ⟨2*i+2,θ,hkl,zoo hQ.hb (yq (i:=ti490) (row:=itC (qat m (2*i+2))) rfl rfl (wv hkl) (zoo hQ.hp ⟨i,rfl,hil,zoo hQ.hb (yq (i:=ti490) (row:=itC (qat m i)) rfl rfl (wv hil) ⟨Ok _ _ _ _ λz hz=>⟨Tv,ye (zh (λc2=>?_) λc2=>?_)⟩,Tv⟩)⟩))⟩);rotate_left
  ·have hF:=hfin F2 m (.inr ⟨b,cap,_,hQ⟩) (dh hD hmin λhh=>ψk) hP;exact Qc zb Rp ⟨⟨⟨rfl,Tv⟩,⟨⟨Tv,⟨⟨Tv,ret hF⟩,Tv⟩⟩,Tv⟩⟩,Tv⟩
  obtain⟨hD2,hP2⟩:=di hD θ hkl hki hmin (hz.1 c2);have hS1:=hQ.set hil (qat m (2*i+2));have hkl2:2*i+2<(m.set i (qat m (2*i+2))).length:=by rw[Faf];exact hkl
  have hS2:=hS1.set hkl2 (qat m i);refine Qc zb cf (zoo hQ.hp (zoo hQ.hp (zoo hQ.hp ⟨2*i+2,θ,hkl,zoo hQ.hb (yq (i:=ti490) (row:=itC (qat m (2*i+2))) rfl rfl (wv hkl) (zoo hQ.hp ⟨i,rfl,hil,zoo hQ.hb (yq (i:=ti490) (row:=itC (qat m i)) rfl rfl (wv hil) ⟨i,rfl,hil,⟨za _ rfl (j3 rfl (ju (v:=.agg (itC (qat m (2*i+2)))) rfl rfl rfl rfl (jq (i:=ti490) (xs:=itC (qat m (2*i+2))) rfl rfl rfl hQ.hb (Hg hil _) ⟨Tv,⟨2*i+2,θ,hkl,⟨za _ rfl (j3 rfl (ju (v:=.agg (itC (qat m i))) rfl rfl rfl rfl (jq (i:=ti490) (xs:=itC (qat m i)) rfl rfl rfl hS1.hb (Hg hkl2 _) ⟨Tv,?_⟩))),Tv⟩⟩⟩))),Tv⟩⟩)⟩))⟩)));have hlen2:(wq m i (2*i+2)).length=m.length:=L6 _ _ _;refine⟨(2*i+2,_,wq m i (2*i+2)),?_,⟨rfl,hS2,hD2,hP2.trans hP,ζ,ζ⟩,⟨Tq,Tq,Tq,?_,Tv⟩,⟨rfl,Tv⟩⟩
  ·show n-(2*i+2)<n-i;omega
  ·exact LV.le_int θ
 ·have hkl:2*i+1<m.length:=hkl0;have hki:par (2*i+1)=i:=(Oo θ).2 (.inl rfl);have hmin:=iw (f:=qat m) (n:=m.length) (i:=i) (k:=2*i+1) (.inl ⟨rfl,λhx hh=>by rw[hz1.2 hh]at c4;cases c4⟩);refine Qc zb cg (zoo hQ.hp ⟨2*i+1,θ,hkl,zoo hQ.hb (yq (i:=ti490) (row:=itC (qat m (2*i+1))) rfl rfl (wv hkl) (zoo hQ.hp ⟨i,rfl,hil,zoo hQ.hb (yq (i:=ti490) (row:=itC (qat m i)) rfl rfl (wv hil) ⟨Ok _ _ _ _ λz hz=>⟨Tv,ye (zh (λc2=>?_) λc2=>?_)⟩,Tv⟩)⟩))⟩);rotate_left
  ·have hF:=hfin F2 m (.inr ⟨b,cap,_,hQ⟩) (dh hD hmin λhh=>ψk) hP;exact Qc zb Rp ⟨⟨⟨rfl,Tv⟩,⟨⟨Tv,⟨⟨Tv,ret hF⟩,Tv⟩⟩,Tv⟩⟩,Tv⟩
  obtain⟨hD2,hP2⟩:=di hD θ hkl hki hmin (hz.1 c2);have hS1:=hQ.set hil (qat m (2*i+1));have hkl2:2*i+1<(m.set i (qat m (2*i+1))).length:=by rw[Faf];exact hkl
  have hS2:=hS1.set hkl2 (qat m i);refine Qc zb cf (zoo hQ.hp (zoo hQ.hp (zoo hQ.hp ⟨2*i+1,θ,hkl,zoo hQ.hb (yq (i:=ti490) (row:=itC (qat m (2*i+1))) rfl rfl (wv hkl) (zoo hQ.hp ⟨i,rfl,hil,zoo hQ.hb (yq (i:=ti490) (row:=itC (qat m i)) rfl rfl (wv hil) ⟨i,rfl,hil,⟨za _ rfl (j3 rfl (ju (v:=.agg (itC (qat m (2*i+1)))) rfl rfl rfl rfl (jq (i:=ti490) (xs:=itC (qat m (2*i+1))) rfl rfl rfl hQ.hb (Hg hil _) ⟨Tv,⟨2*i+1,θ,hkl,⟨za _ rfl (j3 rfl (ju (v:=.agg (itC (qat m i))) rfl rfl rfl rfl (jq (i:=ti490) (xs:=itC (qat m i)) rfl rfl rfl hS1.hb (Hg hkl2 _) ⟨Tv,?_⟩))),Tv⟩⟩⟩))),Tv⟩⟩)⟩))⟩)));have hlen2:(wq m i (2*i+1)).length=m.length:=L6 _ _ _;refine⟨(2*i+1,_,wq m i (2*i+1)),?_,⟨rfl,hS2,hD2,hP2.trans hP,ζ,ζ⟩,⟨Tq,Tq,Tq,?_,Tv⟩,⟨rfl,Tv⟩⟩
  ·show n-(2*i+1)<n-i;omega
  ·exact LV.le_int θ
section
variable {m x:Int} {i:Nat}
def Ah{p:Vc}(h:xq p):p.ok:=by unfold xq at h;exact⟨⟨θ,θ⟩,⟨θ,θ⟩⟩
def ta{p q:Vc}(hp:xq p)(hq:xq q):wo (if qy p q=(0,0)then(65536,0)else qy p q):=by
 split
 ·unfold wo;decide
 ·exact Kg hq hp
def rx{v:Vc}(h:wo v):0<=jx (sqr v):=(G8 (F6 (Dj h)).2.2.1).1
def zu5(p:Vc)(r:Int)(q:Vc)(hp:xq p)(hq:xq q)(hr:0<=r/\r<=1048576)(st:Store)(R:Ja)(h:R (.agg (zu (ky p r q))) st):
  Jb 227 [.agg (zu p),int r,.agg (zu q)] st R:=by
 have ht:=Kg hq hp;have hsq:=(F6 (Dj ht)).2.2.1;have hr0:=rx ht;have harg:=ta hp hq;have hri:=G8 hsq;unfold ky at h;refine Qy 29 Tryz.func227 ?_;refine Pw p q r (Ah hp) (Ah hq) θ _ _ (ye (zh (λc1=>?_) λc1=>?_));rotate_left
 ·rw[if_neg (by rw[c1];decide)]at h;exact ret h
 rw[if_pos c1]at h;refine Py p q (Ah hp) (Ah hq) _ _ (fg _ (Hw p q) _ _ λL hL=>?_);have hL2:=Od hsq hL;subst hL2;have hLb:jx (sqr (qy p q))<=1099511627776*2:=by
  obtain⟨_,_,h3,_⟩:=hri;have e:=(F6 (Dj ht)).1;unfold wo at ht;generalize jx (sqr (qy p q))=L at*;by_cases hh:L<=1099511627776*2
  ·exact hh
  ·exfalso;have h4:(1099511627776*2+1)*(1099511627776*2+1)<=L*L:=Fa9 θ θ θ θ;have h5:(qy p q).1*(qy p q).1<=1099511627776*1099511627776:=by
    rw[Ke];exact Fa9 θ θ θ θ
   have h6:(qy p q).2*(qy p q).2<=1099511627776*1099511627776:=by rw[Ke];exact Fa9 θ θ θ θ
   omega
 have hfs:qf r (jx (sqr (qy p q)))=r-jx (sqr (qy p q)):=by unfold qf;rw[Ff θ,Ld θ θ];omega
 refine H4 _ _ ⟨θ,θ⟩ ⟨θ,θ⟩ _ _ ?_;rw[hfs];generalize jx (sqr (qy p q))=L at*;generalize qy p q=d at*;refine zh (λc2=>?_) λc2=>?_
 ·have c2:d=(0,0):=by
   simp only[Fay,beq_iff_eq]at c2;exact Prod.ext c2.1 c2.2.1
  rw[if_pos c2]at h harg;subst c2;exact V3 (65536,0) (r-L) harg θ _ _ (ret h)
 ·have c2:¬d=(0,0):=λe=>by
   rw[e]at c2;exact absurd c2 ψ
  rw[if_neg c2]at h harg;exact V3 d (r-L) harg θ _ _ (ret h)
def yne(h0:0<=m)(h1:m<18446744073709551616)(hi:i<64):jj .and .u64 (m.fdiv (2^(min ((i:Int).tmod 64).toNat IntKind.u64.bits))) 1=(m/2^i)%2:=by
 have e:min ((i:Int).tmod 64).toNat IntKind.u64.bits=i:=by
  have:(i:Int).tmod 64=i:=by rw[Fcl θ];omega
  rw[this];show min ((i:Int)).toNat 64=i;omega
 have hp:(0:Int)<2^i:=Fek ψ;rw[e,Fcz _ θ];exact yn7 (Fb2 h0 θ) (by have:=Fc0 (2^i) h0;omega)
theorem zd5(h0:0<=m)(h1:m<18446744073709551616)(hi:64<=i):m/2^i=0:=by
 have h2:(2:Int)^64<=2^i:=by exact_mod_cast Nat.pow_le_pow_right ψ hi
 have h3:(2:Int)^64=18446744073709551616:=ψ;exact Fb8 h0 θ
def yhr(i:Nat):m/2^i=2*(m/2^(i+1))+(m/2^i)%2:=by
 have h:m/2^(i+1)=m/2^i/2:=by have hp:(0:Int)<2^i:=Fek ψ;rw[Int.pow_succ,Int.ediv_ediv,if_neg λhh=>θ,Int.sub_zero]
 rw[h];have:=Fdz (m/2^i) 2;omega
def tp{b:Int}(h0:0<=x)(h1:2*x+1<18446744073709551616)(hb:b=0\/b=1):jj .or .u64 (IntKind.u64.wrap (x*2^(min (1:Int).toNat IntKind.u64.bits))) b=2*x+b:=by obtain⟨n,rfl⟩:=Fbx h0;have e:min (1:Int).toNat IntKind.u64.bits=1:=rfl;rw[e,j6 θ θ];have:=tq (n:=b) (q:=n) (m:=1) θ θ θ;rw[this];omega
def nw(h0:0<=x)(h1:x<9223372036854775808):x.fdiv (2^(min (63:Int).toNat IntKind.u64.bits))=0:=by have e:min (63:Int).toNat IntKind.u64.bits=63:=rfl;rw[e,Fcz _ ψ];exact Fb8 h0 θ
def yei(m b:Int)(h0:0<=m)(h1:m<9223372036854775808)(hb:0<b)(hb2:b<9223372036854775808)(st:Store)(R:Ja)(h:∀z,R (.tup [u64 (m/b),V.bool z]) st):
  Jb 312 [.agg (jc m),u64 b] st R:=by
 have hw:jc m=[u64 0,u64 m]:=by unfold jc;rw[Fb8 h0 θ,Fc8 h0 θ]
 rw[hw];refine Qy 59 Tryz.func312 ?_
 refine AWp.loop (σ:=Nat×Int) ⟨λk=>[(1,.av (u64 b)),(2,.bx 2 0),(6,.av (u64 (m/2^k.1/b))),(7,.av (u64 (m/2^k.1%b))),(8,.av (V.bool false)),(9,.av (int ((k.1:Int)-1)))],λ_=>[(2,[u64 0,u64 m])],
  λk st'=>k.1<=128/\st'=st,λk=>k.1⟩ zb ?_ ?_
 ·have e:m/2^128=0:=zd5 h0 θ ψ;refine⟨(128,0),Tv,⟨Fal _,rfl⟩,⟨Tq,Tq,?_,?_,Tq,Tq,Tv⟩,⟨rfl,Tv⟩⟩
  ·show LV.le (.av (u64 0)) (.av (u64 (m/2^128/b)));rw[e,Int.zero_ediv];exact Tq
  ·show LV.le (.av (u64 0)) (.av (u64 (m/2^128%b)));rw[e,Int.zero_emod];exact Tq
 rintro⟨k,_⟩ st' ⟨hk,rfl⟩;dsimp only at hk⊢;cases k with
 |zero=>
  have e:m/2^0=m:=by rw[Int.pow_zero,Int.ediv_one]
  have h2:=h (decide (m/2^0%b>0));rw[show m/b=m/2^0/b by rw[e]]at h2;exact ret h2
 |succ i=>
 have hi:i<128:=θ;have hk0:((i+1:Nat):Int)-1=i:=θ;have hA:=yhr (m:=m) i;have ht:(m/2^i)%2=0\/(m/2^i)%2=1:=θ;have hp:(0:Int)<2^(i+1):=Fek ψ;have hp0:(0:Int)<2^i:=Fek ψ;have hA0:0<=m/2^(i+1):=Fb2 h0 θ;have hA1:m/2^(i+1)<4611686018427387904:=by have h2:m/2^i<=m:=Fc0 _ h0;omega
 have hq0:0<=m/2^(i+1)/b:=Fb2 hA0 θ;have hq1:m/2^(i+1)/b<=m/2^(i+1):=Fc0 _ hA0;have hr0:0<=m/2^(i+1)%b:=Fcf _ θ;have hr1:m/2^(i+1)%b<b:=Fcs _ hb;have hr2:m/2^(i+1)%b<=m/2^(i+1):=by have h2:=Fdz (m/2^(i+1)) b;have h3:=Fav (show 0<=b by omega) hq0;omega
 have hlo:=λ(t:Int) (x:0<=t)=>yk1 (A:=m/2^(i+1)) (b:=b) (t:=t) hb x;have hhi:=λ(t:Int) (x:0<=t) (y:t<=1)=>yk2 (A:=m/2^(i+1)) (b:=b) (t:=t) hb x y;have hbl:i<64->jj .and .u64 (m.fdiv (2^(min ((((i+1:Nat):Int)-1).tmod 64).toNat IntKind.u64.bits))) 1=(m/2^i)%2:=λh=>by rw[hk0];exact yne h0 θ h
 have hbh:64<=i->(m/2^i)%2=0:=λh=>by rw[zd5 h0 θ h];rfl
 have hz:∀y:Int,jj .and .u64 ((0:Int).fdiv y) 1=0:=λy=>by rw[Int.zero_fdiv];rfl
 have hmod:0<=(((i+1:Nat):Int)-1).tmod 64:=by rw[hk0];exact Int.tmod_nonneg _ θ
 have hone:jj .or .u64 (IntKind.u64.wrap (m/2^(i+1)/b*2^(min (1:Int).toNat IntKind.u64.bits))) 1=2*(m/2^(i+1)/b)+1:=tp hq0 θ (.inr rfl);have hdbl:IntKind.u64.wrap (m/2^(i+1)/b*2^(min (1:Int).toNat IntKind.u64.bits))=2*(m/2^(i+1)/b):=by have e:min (1:Int).toNat IntKind.u64.bits=1:=rfl;rw[e,j6 θ θ];omega
 have hor:∀t:Int,t=0\/t=1->jj .or .u64 (IntKind.u64.wrap (m/2^(i+1)%b*2^(min (1:Int).toNat IntKind.u64.bits))) t=2*(m/2^(i+1)%b)+t:=λt ht=>tp hr0 θ ht;have htq:(m/2^(i+1)/b).fdiv (2^(min (63:Int).toNat IntKind.u64.bits))=0:=nw hq0 θ;have htr:(m/2^(i+1)%b).fdiv (2^(min (63:Int).toNat IntKind.u64.bits))=0:=nw hr0 θ;have fin:∀t,t=(m/2^i)%2->∀(q' r':Int),(b<=2*(m/2^(i+1)%b)+t->q'=2*(m/2^(i+1)/b)+1/\r'=2*(m/2^(i+1)%b)+t-b)->(¬b<=2*(m/2^(i+1)%b)+t->q'=2*(m/2^(i+1)/b)/\r'=2*(m/2^(i+1)%b)+t)->q'=m/2^i/b/\r'=m/2^i%b:=λt e q' r' k1 k2=>by
  subst e;by_cases hc:b<=2*(m/2^(i+1)%b)+(m/2^i)%2
  ·obtain⟨e1,e2⟩:=k1 hc;obtain⟨e3,e4⟩:=hhi ((m/2^i)%2) θ θ hc;rw[<-hA]at e3 e4;exact⟨by rw[e1,e3],by rw[e2,e4]⟩
  ·obtain⟨e1,e2⟩:=k2 hc;obtain⟨e3,e4⟩:=hlo ((m/2^i)%2) θ θ;rw[<-hA]at e3 e4;exact⟨by rw[e1,e3],by rw[e2,e4]⟩
 refine bcd (λc1=>⟨ψ,⟨hmod,?_⟩⟩) (λc1=>absurd θ c1)
 -- the rest of the round,for the bit t
 refine bcd (λc2=>?_) λc2=>?_
 ·refine⟨ψ,⟨hmod,?_⟩⟩;have ht0:(m/2^i)%2=0:=hbh θ;refine⟨ψ,⟨ψ,⟨ψ,zt (λc3=>absurd (htq.symm.trans c3) ψ) λc3=>⟨ψ,zt (λc4=>absurd (htr.symm.trans c4) ψ) λc4=>?_⟩⟩⟩⟩;rw[hz,hor 0 (.inl rfl)];refine bcd (λc5=>?_) λc5=>?_
  ·have wr:IntKind.u64.wrap ((2*(m/2^(i+1)%b)+(0))-b)=(2*(m/2^(i+1)%b)+(0))-b:=j6 θ θ;refine Qd ⟨(i,0),Fct i,⟨ζ,rfl⟩,⟨Tq,Tq,?_,?_,Tq,?_,Tv⟩,⟨rfl,Tv⟩⟩
   ·show LV.le (.av (u64 (jj .or .u64 (IntKind.u64.wrap (m/2^(i+1)/b*2^(min (1:Int).toNat IntKind.u64.bits))) 1))) (.av (u64 (m/2^i/b)));rw[hone,(fin (0) θ _ _ (λhh=>⟨rfl,rfl⟩) λhh=>absurd c5 hh).1];exact Tq
   ·show LV.le (.av (u64 (IntKind.u64.wrap ((2*(m/2^(i+1)%b)+(0))-b)))) (.av (u64 (m/2^i%b)));rw[wr,(fin (0) θ _ _ (λhh=>⟨rfl,rfl⟩) λhh=>absurd c5 hh).2];exact Tq
   ·exact LV.le_int θ
  ·skip;refine Qd ⟨(i,0),Fct i,⟨ζ,rfl⟩,⟨Tq,Tq,?_,?_,Tq,?_,Tv⟩,⟨rfl,Tv⟩⟩
   ·show LV.le (.av (u64 (IntKind.u64.wrap (m/2^(i+1)/b*2^(min (1:Int).toNat IntKind.u64.bits))))) (.av (u64 (m/2^i/b)));rw[hdbl,(fin (0) θ _ _ (λhh=>absurd hh θ) λhh=>⟨rfl,rfl⟩).1];exact Tq
   ·show LV.le (.av (u64 (2*(m/2^(i+1)%b)+(0)))) (.av (u64 (m/2^i%b)));rw[(fin (0) θ _ _ (λhh=>absurd hh θ) λhh=>⟨rfl,rfl⟩).2];exact Tq
   ·exact LV.le_int θ
 ·refine⟨ψ,⟨ψ,⟨ψ,zt (λc3=>absurd (htq.symm.trans c3) ψ) λc3=>⟨ψ,zt (λc4=>absurd (htr.symm.trans c4) ψ) λc4=>?_⟩⟩⟩⟩;rw[hbl θ,hor _ ht];refine bcd (λc5=>?_) λc5=>?_
  ·have wr:IntKind.u64.wrap ((2*(m/2^(i+1)%b)+((m/2^i)%2))-b)=(2*(m/2^(i+1)%b)+((m/2^i)%2))-b:=j6 θ θ;refine Qd ⟨(i,0),Fct i,⟨ζ,rfl⟩,⟨Tq,Tq,?_,?_,Tq,?_,Tv⟩,⟨rfl,Tv⟩⟩
   ·show LV.le (.av (u64 (jj .or .u64 (IntKind.u64.wrap (m/2^(i+1)/b*2^(min (1:Int).toNat IntKind.u64.bits))) 1))) (.av (u64 (m/2^i/b)));rw[hone,(fin ((m/2^i)%2) (rfl) _ _ (λhh=>⟨rfl,rfl⟩) λhh=>absurd c5 hh).1];exact Tq
   ·show LV.le (.av (u64 (IntKind.u64.wrap ((2*(m/2^(i+1)%b)+((m/2^i)%2))-b)))) (.av (u64 (m/2^i%b)));rw[wr,(fin ((m/2^i)%2) (rfl) _ _ (λhh=>⟨rfl,rfl⟩) λhh=>absurd c5 hh).2];exact Tq
   ·exact LV.le_int θ
  ·skip;refine Qd ⟨(i,0),Fct i,⟨ζ,rfl⟩,⟨Tq,Tq,?_,?_,Tq,?_,Tv⟩,⟨rfl,Tv⟩⟩
   ·show LV.le (.av (u64 (IntKind.u64.wrap (m/2^(i+1)/b*2^(min (1:Int).toNat IntKind.u64.bits))))) (.av (u64 (m/2^i/b)));rw[hdbl,(fin ((m/2^i)%2) (rfl) _ _ (λhh=>absurd hh θ) λhh=>⟨rfl,rfl⟩).1];exact Tq
   ·show LV.le (.av (u64 (2*(m/2^(i+1)%b)+((m/2^i)%2)))) (.av (u64 (m/2^i%b)));rw[(fin ((m/2^i)%2) (rfl) _ _ (λhh=>absurd hh θ) λhh=>⟨rfl,rfl⟩).2];exact Tq
   ·exact LV.le_int θ
end
def zu2(q:Int)(h0:0<=q)(h1:q<9223372036854775808)(neg:Bool)(st:Store)(R:Ja)(h:R (int (if neg=true then -q else q)) st):Jb 313 [u64 q,V.bool neg,V.bool false] st R:=by
 refine Qy 25 Tryz.func313 ?_;refine zh (λc1=>?_) λc1=>?_
 ·subst c1;refine bcd (λc2=>absurd c2 θ) λc2=>Qd (Qd ?_);have e:0-q=-q:=θ;rw[e];exact ret h
 ·subst c1;exact bcd (λc2=>absurd c2 θ) λc2=>Qd (ret h)
def Rs(c most long:Int)(hc:-1099511627776<=c/\c<=1099511627776)(hm:0<=most/\most<=1048576)(hl:0<long/\long<9223372036854775808)(st:Store)(R:Ja)(h:R (int (Ft c most long)) st):
  Jb 258 [int c,int most,int long] st R:=by
 have hasz:=zee (c:=c) θ;obtain⟨x,hx⟩:∃x,x=asz c:=⟨_,rfl⟩
 have hx0:0<=x/\x<=1099511627776:=by rw[hx,hasz];split<;>omega
 have hp0:0<=x*most:=Fav hx0.1 hm.1;have hp1:x*most<=1099511627776*1048576:=Fa9 hx0.2 hm.2 hm.1 θ;have hq1:x*most/long<=x*most:=Fc0 _ hp0;have hq0:0<=x*most/long:=Fb2 hp0 θ;have w1:IntKind.u64.wrap most=most:=j6 θ θ;have w2:IntKind.u64.wrap long=long:=j6 θ θ;refine Qy 24 Tryz.func258 ?_;refine cn c θ _ _ ?_;rw[<-hx];show ACalls _ _ [u64 x,u64 (IntKind.u64.wrap most)] _ _;rw[w1];refine Nq x most hx0.1 θ hm.1 θ _ _ ?_;show ACalls _ _ [.agg (jc (x*most)),u64 (IntKind.u64.wrap long)] _ _;rw[w2];refine yei _ _ hp0 θ hl.1 hl.2 _ _ λz=>zu2 _ hq0 θ (decide (c<0)) _ _ ?_;unfold Ft at h;by_cases c1:c<0
 ·rw[if_pos (decide_eq_true c1)];rw[if_pos c1]at h hasz;rw[<-hasz,<-hx]at h;exact ret h
 ·rw[if_neg (by rw[decide_eq_false c1];decide)];rw[if_neg c1]at h hasz;rw[hx,hasz];exact ret h
def Oi(v:Vc)(most:Int)(hv:wo v)(hm:-9223372036854775808<=most/\most<=1048576)(st:Store)(R:Ja)(h:R (.agg (zu (xy v most))) st):
  Jb 181 [.agg (zu v),int most] st R:=by
 have hn:=mm hv;have hsq:=(F6 (Dj hv)).2.2.1;have hri:=G8 hsq;have e1:nrm v.1=v.1:=congrArg Prod.fst hn;have e2:nrm v.2=v.2:=congrArg Prod.snd hn;unfold xy at h;rw[hn,e1,e2]at h;obtain⟨r0,r1,_,_⟩:=hri;have key:∀m:Int,m=max most 0->0<=m/\m<=1048576:=λm e=>θ;refine Qy 32 Tryz.func181 ?_;refine Qc zb zx1 ?_;refine⟨F9 v.1 _ _ ⟨Qe,⟨F9 v.2 _ _ ⟨Qe,Qbq ?_⟩,Tv⟩⟩,Tv⟩;rw[e1,e2];have rest:=λ(m:Int) (hm:m=max most 0)=>key m hm;refine bcd (λc0=>?_) λc0=>?_
 ·have hm0:(0:Int)=max most 0:=θ;have hmx:=rest 0 hm0;rw[<-hm0]at h;refine Rv v (W8 hv) _ _ λr hr=>?_;have hr:=Od hsq hr;subst hr;generalize jx (sqr v)=L at*;refine bcd (λc1=>?_) λc1=>?_
  ·rw[if_pos c1]at h;exact ret h
  rw[if_neg c1]at h;exact Qc zb pw ⟨Rs v.1 0 L hv.1 hmx θ _ _ ⟨Qe,⟨Rs v.2 0 L hv.2 hmx θ _ _ ⟨Qe,Qbq (ret h)⟩,Tv⟩⟩,Tv⟩
 ·have hm0:most=max most 0:=θ;have hmx:=rest most hm0;rw[<-hm0]at h;refine Rv v (W8 hv) _ _ λr hr=>?_;have hr:=Od hsq hr;subst hr;generalize jx (sqr v)=L at*;refine bcd (λc1=>?_) λc1=>?_
  ·rw[if_pos c1]at h;exact ret h
  rw[if_neg c1]at h;exact Qc zb pw ⟨Rs v.1 most L hv.1 hmx θ _ _ ⟨Qe,⟨Rs v.2 most L hv.2 hmx θ _ _ ⟨Qe,Qbq (ret h)⟩,Tv⟩⟩,Tv⟩
def cm(p q:Vc)(s:Int)(hp:xq p)(hq:xq q)(hs:0<=s/\s<=1048576)(st:Store)(R:Ja)(h:R (.agg (zu (Bi p q s))) st):Jb 189 [.agg (zu p),.agg (zu q),int s] st R:=by refine Qy 12 Tryz.func189 ?_;exact Oa q p (Ah hq) (Ah hp) _ _ (Oi _ s (Kg hp hq) θ _ _ (ret h))
def Ki{v:Vc}{m:Int}(hs:wo v):(xy v m).ok:=by
 by_cases hm:0<=m
 ·have:=(V4 (Dj hs) hm).1;unfold v8 at this;exact⟨⟨θ,θ⟩,⟨θ,θ⟩⟩
 ·have e:xy v m=xy v 0:=by
   unfold xy;rw[show max m 0=max 0 0 by omega]
  rw[e];have:=(V4 (Dj hs) (Fcu 0)).1;unfold v8 at this;exact⟨⟨θ,θ⟩,⟨θ,θ⟩⟩
def Qah{p:Prop}(h:p:=by repeat(first|exact Tv|refine⟨rfl,?_⟩|refine⟨⟨0,rfl,za _ rfl rfl⟩,?_⟩)):p:=h
def Wy{x:Vc}(h:v8 x):xn (0,0) x=x:=by unfold v8 at h;unfold xn;rw[Ld θ θ,Ld θ θ];simp
def Wu{v:Vc}{m:Int}(hs:wo v):v8 (xy v m):=by
 by_cases hm:0<=m
 ·exact(V4 (Dj hs) hm).1
 ·have e:xy v m=xy v 0:=by
   unfold xy;rw[show max m 0=max 0 0 by omega]
  rw[e];exact(V4 (Dj hs) (Fcu 0)).1
def tb(p:Vc)(r:Int)(q:Vc):Nat->Vc
 |0=>(0,0)
 |_=>ky p r q
def yax(p:Vc)(r:Int)(q:Vc)(hp:xq p)(hq:xq q)(hr:0<=r/\r<=1048576)(st:Store)(R:Ja)(h:R (.agg (zu (ky p r q))) st):
  Jb 259 [.agg (zu p),int r,lst 2 zu [q]] st R:=by
 have ht:=Kg hq hp;have hsq:=(F6 (Dj ht)).2.2.1;have hr0:=rx ht;have harg:=ta hp hq;have hri:=G8 hsq;refine Qy 50 Tryz.func259 ?_
 refine AWp.loop (σ:=Nat) ⟨λi=>[(1,.av (int r)),(2,.av (lst 2 zu [q])),(3,.bx 3 0),(6,.bx 6 0),(7,.bx 7 0),(8,.av (int (i:Nat)))],λi=>[(3,zu p),(6,[int 0,int 0]),(7,zu (tb p r q i))],
  λi st'=>i<=1/\st'=st,λi=>1-i⟩ zb ?_ ?_
 ·exact⟨0,Tv,⟨Fad _,rfl⟩,Qbn,⟨rfl,rfl,rfl,Tv⟩⟩
 rintro i st' ⟨hi,rfl⟩;have hi2:i=0\/i=1:=θ;rcases hi2 with rfl|rfl;rotate_left
 ·exact ret h
 have next:∀x:Vc,x=ky p r q->∃k:Nat,1-k<1-0/\(k<=1/\st'=st')/\k=1/\zu (tb p r q k)=zu x:=λx e=>⟨1,ψ,⟨Fal _,rfl⟩,rfl,by rw[e];rfl⟩
 unfold ky at next
 refine Qc zb zwy ⟨0,rfl,za _ rfl ⟨ri p q r (Ah hp) (Ah hq) ⟨θ,θ⟩ _ _ ⟨Qe,ye (zh (λc1=>?_) λc1=>?_)⟩,Tv⟩⟩;rotate_left
 ·rw[if_neg (by rw[c1];decide)]at next
  obtain⟨k,f1,f2,rfl,f3⟩:=next _ rfl
  exact Qd ⟨1,f1,f2,Qbn,⟨rfl,rfl,congrArg some f3.symm,Tv⟩⟩
 rw[if_pos c1]at next
 refine Qc zb zwx ⟨0,rfl,za _ rfl ⟨Oa p q (Ah hp) (Ah hq) _ _ ⟨Tv,⟨⟨Qah,⟨⟨Tv,?_⟩,Tv⟩⟩,Tv⟩⟩,⟨⟨Qah,⟨Oa p q (Ah hp) (Ah hq) _ _ ⟨Tv,⟨⟨Tv,?_⟩,Tv⟩⟩,Tv⟩⟩,Tv⟩⟩⟩
 all_goals
  refine Rv _ (Hw p q) _ _ λL hL=>?_;have hL2:=Od hsq hL;subst hL2;have hLb:jx (sqr (qy p q))<=9223372036854775807-1048576-1048576:=by
   have h3:=ya8 (Dj ht) (m:=4398046511104) ψ (by
    unfold wo at ht;have h5:(qy p q).1*(qy p q).1<=1099511627776*1099511627776:=by rw[Ke];exact Fa9 θ θ θ θ
    have h6:(qy p q).2*(qy p q).2<=1099511627776*1099511627776:=by rw[Ke];exact Fa9 θ θ θ θ
    omega)
   omega
  generalize jx (sqr (qy p q))=L at*;generalize qy p q=d at*;refine zt (λc2=>?_) λc2=>?_
  ·refine zt (λc3=>?_) λc3=>?_
   ·have e:d=(0,0):=Prod.ext c2 c3;rw[if_pos e]at next harg
    refine Qc zb ci (Qd ⟨Oi (65536,0) (r-L) harg θ _ _ ⟨Qe,⟨Ob (0,0) _ ⟨⟨ψ,ψ⟩,⟨ψ,ψ⟩⟩ (Ki harg) _ _ ⟨Qe,Qbq ?_⟩,Tv⟩⟩,Tv⟩);obtain⟨k,f1,f2,rfl,f3⟩:=next _ (Wy (Wu harg))
    exact Qd ⟨1,f1,f2,Qbn,⟨rfl,rfl,congrArg some f3.symm,Tv⟩⟩
   ·have e:¬d=(0,0):=λe=>c3 (by rw[e]);rw[if_neg e]at next harg
    refine Qc zb ci (Qd ⟨Oi d (r-L) harg θ _ _ ⟨Qe,⟨Ob (0,0) _ ⟨⟨ψ,ψ⟩,⟨ψ,ψ⟩⟩ (Ki harg) _ _ ⟨Qe,Qbq ?_⟩,Tv⟩⟩,Tv⟩);obtain⟨k,f1,f2,rfl,f3⟩:=next _ (Wy (Wu harg))
    exact Qd ⟨1,f1,f2,Qbn,⟨rfl,rfl,congrArg some f3.symm,Tv⟩⟩
  ·have e:¬d=(0,0):=λe=>c2 (by rw[e]);rw[if_neg e]at next harg
   refine Qc zb ci (Qd ⟨Oi d (r-L) harg θ _ _ ⟨Qe,⟨Ob (0,0) _ ⟨⟨ψ,ψ⟩,⟨ψ,ψ⟩⟩ (Ki harg) _ _ ⟨Qe,Qbq ?_⟩,Tv⟩⟩,Tv⟩);obtain⟨k,f1,f2,rfl,f3⟩:=next _ (Wy (Wu harg))
   exact Qd ⟨1,f1,f2,Qbn,⟨rfl,rfl,congrArg some f3.symm,Tv⟩⟩
end Go.Proofs
