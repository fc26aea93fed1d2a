/- Ground of laws of thronglaw24: contracts and plain lemmas; no condition beyond the row's own. -/
import Derived.Test.YtbemejeejgpkaaaGreatKT
set_option linter.unusedSimpArgs false
set_option linter.unusedVariables false
namespace Go.Proofs
open Go Go.V
set_option maxRecDepth 20000
set_option maxHeartbeats 4000000
section
variable {n:Nat}
theorem Wm(e:Int)(st:Store)(R:Ja)(h:R (int e) st):Jb 16 [int e] st R:=by
 refine Qa (c:=cfg 4) zb Tryz.func16 ?_
 exact ret h
theorem Sh(hn:n<6):∃h0:0<(wkS n).U.length,(wkS n).U[0]=Bz (wkS n):=by
 have e:=(Gt n hn).1
 have h0:0<(wkS n).U.length:=by rw[e];exact Nat.zero_lt_one
 refine⟨h0,?_⟩
 simp only[e]
 rfl
theorem zcj(hn:n<6):vl (wkS n) 1=0:=by
 obtain⟨h0,e⟩:=Sh hn
 obtain⟨_,h1,h2,_⟩:=Gt n hn
 have:=dt (Od n hn) h0
 rw[e,h1,if_pos h2]at this
 exact this
theorem zcf(hn:n<5):Fw (wkS n) 1=wkS (n+1):=by
 obtain⟨h0,e⟩:=Sh (n:=n) (by omega)
 obtain⟨_,h1,_⟩:=Gt n (by omega)
 have:=gb (Od n (by omega)).1.2.1 h0
 rw[e,h1,zcd hn]at this
 exact this
theorem zce(hn:n<6):∀u∈(wkS n).U,u.pos.ok:=λu hu=>by
 obtain⟨_,h1,h2,h3,_⟩:=Gt n hn
 have hu2:u.inn=0:=by
  rw[(Gt n hn).1]at hu
  simp at hu
  rw[hu]
  exact h2
 exact vy (Dm (Od n hn) hu hu2)
theorem zav(g:Gnd)(hg:zr g)(t:Nat)(ht:t<g.T.length)(tI:Int)(htI:tI=(t:Int)){x:Vc}(hx:ya g t=x)(st:Store)(R:Ja)(h:R (.agg (zo x)) st):Jb 28 [.agg (zp g),int tI] st R:=
 Gp g hg t ht tI htI st R (hx▸h)
def Sg(w:Wld)(b:AV):List AV:=[int w.tick,int w.players,int w.next,int w.G.W,int w.G.H,xu w.G.T,b,lst 10 zf w.U]
theorem zcc{w:Wld}{b:AV}(hb:AV.le b (lst 6 zk w.B)):AV.le (.agg (Sg w b)) (.agg (zt w)):=
 AV.le_aggL ⟨Tt,Tt,Tt,Tt,Tt,Tt,hb,Tt,Tv⟩
theorem ff(st:Store)(R:Ja)(h:R (V.bool true) st):Jb 19 [] st R:=by
 refine Qb (c:=cfg 50) zb Tryz.func19 ?_
 refine AWp.seq (AWp.of_vc zb ?_)
 refine AWp.seq (AWp.of_vc zb ?_)
 refine Bt rfl (it:=ti22) (ie:=ti5) rfl rfl rfl rfl rfl (n:=2) (by decide) (by decide) (λb hf=>?_)
 refine AWp.freezeBx (d:=1) (j:=5) (b:=b) (n:=2) (cap:=2) (k:=1) (rows:=rws u8C wkG.T) (pad:=[]) rfl rfl (zd _ _ _) hf.2 rfl (Faj _) ?_ ?_ ?_
 ·intro row hr
  obtain⟨x,_,rfl⟩:=Fae.1 hr
  rfl
 ·intro row hr y hy
  obtain⟨x,_,rfl⟩:=Fae.1 hr
  simp[u8C,u8]at hy
  exact⟨_,hy,rfl⟩
 rw[Hp hf.1]
 refine AWp.of_vc zb ?_
 refine zav wkG er 0 (by decide) 0 rfl zci _ _ ?_
 refine⟨by decide,?_⟩
 refine AWp.loop (σ:=Nat×AV) ⟨λx=>[(1,.bx 1 0),(2,.av (int (x.1:Nat)))],λx=>[(1,Sg (wkS x.1) x.2)],
  λx st'=>x.1<=5/\st'=st/\AV.le x.2 (lst 6 zk (wkS x.1).B),λx=>5-x.1⟩ zb ?_ ?_
 ·exact⟨(0,nil),Tv,⟨Fag _,rfl,AV.le_nil 6⟩,⟨Tq,Tq,Tv⟩,⟨rfl,Tv⟩⟩
 rintro⟨i,bv⟩ st' ⟨hi,rfl,hb⟩
 dsimp only at hi hb⊢
 refine bcd (λc1=>?_) (λc1=>?_)
 ·have hi5:i<5:=by omega
  obtain⟨u1,u2,u3,u4,u5⟩:=Gt i (by omega)
  obtain⟨v1,v2,v3,v4,v5⟩:=Gt (i+1) (by omega)
  refine ACalls.le (show leL [.agg (Sg (wkS i) bv),int 1] [.agg (zt (wkS i)),int 1]from⟨zcc hb,Tt,Tv⟩) (zxw (wkS i) (jd (Od i (by omega))).fits (zce (by omega)) (by rw[u4];decide) (by rw[u5];decide) (by rw[u1];exact(by decide:1<=1000000)) 1 _ _ (λhe=>absurd (zcj (by omega)) he) (λ_=>?_))
  rw[zcf hi5]
  refine Wm _ _ _ ?_
  refine qj (λc2=>absurd (show((rws zf (wkS (i+1)).U).length:Int)=1 by rw[zn,v1];rfl) c2) (λc2=>?_)
  refine Qd ?_
  refine⟨(i+1,lst 6 zk (wkS (i+1)).B),?_,⟨by dsimp only;omega,rfl,Tt⟩,⟨Tq,Tq,Tv⟩,⟨rfl,Tv⟩⟩
  show 5-(i+1)<5-i
  omega
 have:i=5:=by omega
 subst this
 obtain⟨h0,e0⟩:=Sh (n:=5) (by decide)
 obtain⟨e1,e2⟩:=zch
 obtain⟨u1,u2,u3,u4,u5⟩:=Gt 5 (by omega)
 refine Qc zb zrb ?_
 refine⟨0,rfl,za _ (zm h0) ?_⟩
 refine⟨zav (wkS 5).G (u4▸er) 1 (by rw[u4];decide) 1 rfl rfl _ _ ⟨Qe,?_⟩,Tv⟩
 have hp:(wkS 5).U[0].pos=ya (wkS 5).G 1:=by rw[e0,u4];exact e1
 have hs:(wkS 5).U[0].state=2:=by rw[e0];exact e2
 refine⟨0,rfl,za _ (zm h0) ?_⟩
 exact⟨⟨Tv,ret h⟩,Tv⟩
end
end Go.Proofs
namespace Go.Proofs
open Go Go.V
set_option maxRecDepth 20000
set_option maxHeartbeats 4000000
theorem ztf(w:Wld)(hw:playW w)(id k:Int)(hk:jv k)(q:Vc)(hq:q.ok)(st:Store)(R:Ja)
  (h:∀z:Bool,(z=true↔qa w id k q)->R (V.bool z) st):Jb 33 [.agg (zt w),int id,int k,.agg (zo q)] st R:=by
 have f:=jd hw.1
 have hB:=f.hB
 have hU:=f.hU
 refine Qa (c:=cfg 14) zb Tryz.func33 ?_
 exact V7 w f.hg (by omega) f.hb (by omega) hw.2 f.hk id k hk q hq _ _ λz hz=>ret (h z hz)
theorem zug(w:Wld)(hU:w.U.length<=1000000)(id:Int)(st:Store)(R:Ja)(h:R (int (Ay (yx w.U id))) st):Jb 29 [.agg (zt w),int id] st R:=V2 w hU id st R h
theorem zuf(w:Wld)(hw:playW w){i:Nat}(hi:i<w.U.length)(id:Int)(hid:w.U[i].id=id)(st:Store)(R:Ja)(h:R (int (i:Nat)) st):Jb 29 [.agg (zt w),int id] st R:=
 zug w hw.sizes.2.2 id st R (by rw[Lk hw.1.1.2.1 hi hid];exact h)
end Go.Proofs
