/- Ground of laws of thronglaw25: contracts and plain lemmas; no condition beyond the row's own. -/
import Derived.Test.YtdfpifbbcigelaaGreatKF
set_option linter.unusedSimpArgs false
set_option linter.unusedVariables false
namespace Go.V
section
variable {g:Gnd} {c:Int} {goal:Nat}
def atD(d:List Int)(u:Nat):Int:=d.getD u (-1)
def L9(g:Gnd)(ok:Nat->Bool)(c:Int)(goal:Nat)(d:List Int):Bool:=
 decide (d.length=g.T.length)&&d.all (λx=>decide (x=-1\/0<=x))&&decide (atD d goal=0)&&
 (List.range g.T.length).all (λu=>decide (u=goal)||decide (atD d u<0)||(ok u&&(List.range g.T.length).any λt=>ok t&&decide (0<=atD d t)&&(List.range 8).any λway=>
  decide (yd g t way=u)&&decide (0<qe g ok c t way)&&decide (atD d t+qe g ok c t way<=atD d u)))&&
 (List.range g.T.length).all (λt=>decide (atD d t<0)|| !ok t||(List.range 8).all λway=>decide (qe g ok c t way<=0)||
  (decide (0<=atD d (yd g t way).toNat)&&decide (atD d (yd g t way).toNat<=atD d t+qe g ok c t way)))
theorem ydd{ok:Nat->Bool}{d:List Int}(h:L9 g ok c goal d=true):FarOK (wk g ok c) goal (atD d):=by
 unfold L9 at h
 simp only[Fax,decide_eq_true_eq,Fb5,Fcl,Feh,Fby,Fa4]at h
 obtain⟨⟨⟨⟨h1,h2⟩,h3⟩,h4⟩,h5⟩:=h
 have out:∀u,g.T.length<=u->atD d u=-1:=λu hu=>by
  unfold atD
  rw[Fa6,Fbn (by omega)]
  rfl
 refine⟨λu=>?_,h3,λu hu hl=>?_,λt u k ht hE=>?_⟩
 ·by_cases hu:u<g.T.length
  ·have hd:u<d.length:=by omega
   have:atD d u=d[u]:=by unfold atD;rw[Fa6,Fab hd];rfl
   rw[this]
   exact h2 _ (Faa hd)
  ·exact .inl (out u (by omega))
 ·have hun:u<g.T.length:=by
   apply Decidable.byContradiction
   intro hx
   rw[out u (by omega)]at hl
   omega
  rcases h4 u hun with(h6|h6)|⟨h6,t,htn,⟨h7,h8⟩,way,hw,⟨h9,h10⟩,h11⟩
  ·exact absurd h6 hu
  ·omega
  ·exact⟨t,qe g ok c t way,h8,⟨h7,htn,way,hw,h9,h6,rfl,h10⟩,h11⟩
 ·obtain⟨hok,htn,way,hw,hb,hok2,hk,hp⟩:=hE
  rcases h5 t htn with(h6|h6)|h6
  ·omega
  ·rw[hok]at h6;cases h6
  ·rcases h6 way hw with h7|⟨h7,h8⟩
   ·omega
   ·rw[hb,Fa9]at h7 h8
    rw[hk]
    exact⟨h7,h8⟩
theorem p9{ok:Nat->Bool}(hok:ok goal=true){d:List Int}(h:L9 g ok c goal d=true):jj g ok c goal=atD d:=p8 hok (ydd h)
def Oj(w:Wld)(u:Unt)(own:Nat)(d:Nat->Int):Int:=
 if u.pos≠ye w.G own then own else
  (let way:=if d own<=0 then -1 else match(List.range 8).find? λway=>decide (0<qe w.G (okU w u) (yu u.kind) own way/\0<=d (yd w.G own way).toNat/\qe w.G (okU w u) (yu u.kind) own way+d (yd w.G own way).toNat=d own)with
   |some way=>(way:Int)
   |none=>-1
   if way<0 then -1 else yd w.G own way.toNat)
def o8(w:Wld)(u:Unt)(d:Nat->Int):Wld:=
 if u.pos=ye w.G u.goal.toNat then yj w (k8 2 u)
 else if Fc w u (jg w.G u.pos)then
  (if Oj w u (jg w.G u.pos) d<0 then yj w (k8 3 u)else vh w {u with next:=Oj w u (jg w.G u.pos) d})
 else vh w u
def Df(w:Wld)(u:Unt)(d:Nat->Int):Wld:=if u.goal=-1 then C6 w u else o8 w u d
theorem du{w:Wld}{u:Unt}{d:Nat->Int}(h:jj w.G (okU w u) (yu u.kind) u.goal.toNat=d):xl w u=Df w u d:=by
 subst h
 rfl
end
end Go.V
namespace Go.V
def Sh(w:Wld)(c:Cmd):Int:=if Ds w then 4 else if qf w 0 c.N (c.X,c.Y)then 0 else 5
theorem zrl(w:Wld)(c:Cmd):spE w c=Sh w c:=by
 unfold spE Sh
 by_cases h1:Ds w
 ·rw[if_pos h1,if_pos h1]
 rw[if_neg h1,if_neg h1]
 by_cases h2:qf w 0 c.N (c.X,c.Y)
 ·rw[if_pos h2,if_pos h2]
 ·rw[if_neg h2,if_neg h2]
def Vq(w:Wld)(b:Bld):Bool:=(List.range (w.G.W*w.G.H).toNat).any λt=>decide (jt w.G b t)&&w.U.any λu=>decide (u.inn=0)&&decide (xm w.G t u.pos (zp u.kind))
theorem m6(w:Wld)(b:Bld):Dr w b↔Vq w b=true:=by
 unfold Dr Vq
 rw[Fcl]
 constructor
 ·rintro⟨t,⟨h1,h2⟩,u,hu,h3,h4⟩
  refine⟨t,Fa4.2 (by omega),?_⟩
  rw[Fbc,Fcl]
  exact⟨decide_eq_true h2,u,hu,by rw[Fbc];exact⟨decide_eq_true h3,decide_eq_true h4⟩⟩
 ·rintro⟨t,ht,h⟩
  have ht:=Fa4.1 ht
  rw[Fbc,Fcl]at h
  obtain⟨h1,u,hu,h2⟩:=h
  rw[Fbc]at h2
  exact⟨t,⟨by omega,of_decide_eq_true h1⟩,u,hu,of_decide_eq_true h2.1,of_decide_eq_true h2.2⟩
def Lk(g:Gnd)(l:List Bld)(b:Bld):Int:=if¬onP g b then 3 else if∃x∈l,xu x b then 12 else if¬Az g b then 5 else if 256<=l.length then 4 else 0
theorem zxo(g:Gnd)(l:List Bld)(b:Bld):qs g l b=Lk g l b:=by
 unfold qs Lk
 by_cases h1:¬onP g b
 ·rw[if_pos h1,if_pos h1]
 rw[if_neg h1,if_neg h1]
 by_cases h2:∃x∈l,xu x b
 ·rw[if_pos h2,if_pos h2]
 rw[if_neg h2,if_neg h2]
 by_cases h3:¬Az g b
 ·rw[if_pos h3,if_pos h3]
 ·rw[if_neg h3,if_neg h3]
def bo(w:Wld)(c:Cmd):Int:=if¬(0<=c.T/\c.T<w.G.W*w.G.H)then 3 else if 1099511627776<=w.next then 4 else if Lk w.G w.B (bdB w c)=0 then(if Vq w (bdB w c)then 5 else 0)else Lk w.G w.B (bdB w c)
theorem ygc(w:Wld)(c:Cmd):bdE w c=bo w c:=by
 unfold bdE bo
 rw[zxo]
 by_cases h1:¬(0<=c.T/\c.T<w.G.W*w.G.H)
 ·rw[if_pos h1,if_pos h1]
 rw[if_neg h1,if_neg h1]
 by_cases h2:1099511627776<=w.next
 ·rw[if_pos h2,if_pos h2]
 rw[if_neg h2,if_neg h2]
 by_cases h3:Lk w.G w.B (bdB w c)=0
 ·rw[if_pos h3,if_pos h3]
  by_cases h4:Dr w (bdB w c)
  ·rw[if_pos h4,if_pos ((m6 _ _).1 h4)]
  ·rw[if_neg h4,if_neg (λh=>h4 ((m6 _ _).2 h))]
 ·rw[if_neg h3,if_neg h3]
def Og(w:Wld)(u:Unt)(tile:Int):Option Nat:=(qh w u.kind tile 64).find? λt=>decide (qf w u.id u.kind (ye w.G t))
theorem zx3(w:Wld)(u:Unt)(tile:Int):Ab w u tile=Og w u tile:=by
 unfold Ab Og
 congr
 funext t
 congr
def M6(tile:Int):List Int->Wld->Option Wld
 |[],w=>some w
 |id::l,w=>match yw w.U id with
  |none=>none
  |some i=>match Og w (w.U.getD i unt0) tile with
   |none=>none
   |some t=>M6 tile l {w with U:=w.U.set i (wo (w.U.getD i unt0) (ye w.G t))}
theorem Rw(tile:Int):∀(l:List Int) (w:Wld),unl tile l w=M6 tile l w
 |[],_=>rfl
 |id::l,w=>by
  show(match yw w.U id with|none=>none|some i=>_)=(match yw w.U id with|none=>none|some i=>_)
  cases yw w.U id with
  |none=>rfl
  |some i=>
   dsimp only
   rw[zx3]
   cases Og w (w.U.getD i unt0) tile with
   |none=>rfl
   |some t=>exact Rw tile l _
def Rz(w:Wld)(c:Cmd):Int:=
 if jv w c.P c.N=0 then
  (if 0<=c.T/\c.T<w.G.W*w.G.H then
   (if Ce (ye w.G c.T.toNat) (uAt w c.N).pos then 8 else(match M6 c.T (zv w.U c.N) w with|none=>5|some _=>0))
  else 3)
 else jv w c.P c.N
theorem zce(w:Wld)(c:Cmd):ulE w c=Rz w c:=by
 unfold ulE Rz
 rw[Rw]
 all_goals
  by_cases h1:jv w c.P c.N=0
  ·rw[if_pos h1,if_pos h1]
   by_cases h2:0<=c.T/\c.T<w.G.W*w.G.H
   ·rw[if_pos h2,if_pos h2]
    by_cases h3:Ce (ye w.G c.T.toNat) (uAt w c.N).pos
    ·rw[if_pos h3,if_pos h3]
    ·rw[if_neg h3,if_neg h3]
     try rfl
   ·rw[if_neg h2,if_neg h2]
  ·rw[if_neg h1,if_neg h1]
def Ry(w:Wld)(c:Cmd):Wld:=(M6 c.T (zv w.U c.N) w).getD w
theorem zcd(w:Wld)(c:Cmd):ulW w c=Ry w c:=by unfold ulW Ry;rw[Rw]
def aEc(w:Wld)(c:Cmd):Int:=if c.K=1 then Sh w c else if c.K=2 then mvE w c else if c.K=3 then stE w c else if c.K=4 then bo w c else if c.K=5 then drE w c else if c.K=6 then ldE w c else Rz w c
def aWc(w:Wld)(c:Cmd):Wld:=if c.K=1 then spW w c else if c.K=2 then mvW w c else if c.K=3 then stW w c else if c.K=4 then bdW w c else if c.K=5 then drW w c else if c.K=6 then ldW w c else Ry w c
instance(c:Cmd):Decidable c.okP:=by unfold Cmd.okP;infer_instance
instance:DecidableEq Cmd:=λa b=>decidable_of_iff (a.P=b.P/\a.S=b.S/\a.K=b.K/\a.N=b.N/\a.U=b.U/\a.T=b.T/\a.W=b.W/\a.H=b.H/\a.X=b.X/\a.Y=b.Y) (by
 cases a;cases b
 simp)
instance(c:Cmd):Decidable (vn c):=by unfold vn;infer_instance
def Me(w:Wld)(c:Cmd):Int:=if¬z7 w\/¬vn c\/w.players<c.P then 1 else aEc w c
def Md(w:Wld)(c:Cmd):Wld:=if Me w c=0 then aWc w c else w
theorem rv(w:Wld)(c:Cmd):doE aE w c=Me w c:=by
 have e:aE w c=aEc w c:=by
  unfold aE aEc
  rw[zrl,ygc,zce]
 unfold doE Me
 by_cases h:¬z7 w\/¬vn c\/w.players<c.P
 ·rw[if_pos h,if_pos h]
 ·rw[if_neg h,if_neg h,e]
theorem yd0(w:Wld)(c:Cmd):doW aE aW w c=Md w c:=by
 have e:aW w c=aWc w c:=by
  unfold aW aWc
  rw[zcd]
 unfold doW Md
 rw[rv,e]
def wlG:Gnd:=⟨12,9,List.replicate 108 0⟩
def wlC(n:Nat):List Cmd:=[⟨1,1,1,0,[],0,0,0,32768,32768⟩,⟨2,1,1,1,[],0,0,0,32768,557056⟩,⟨1,2,2,0,[1],(n:Nat),0,0,0,0⟩,⟨2,2,2,0,[2],107,0,0,0,0⟩]
def wlD(goal:Nat):List Int:=(List.range 108).map λt=>
 let dx:Int:=((t%12:Nat):Int)-(goal%12:Nat)
 let dy:Int:=((t/12:Nat):Int)-(goal/12:Nat)
 let x:=dx.natAbs
 let y:=dy.natAbs
 ((20*(max x y)+8*(min x y):Nat):Int)
def wlA(n i:Nat):Unt:=if i<=4*n then⟨1,1,0,(32768+16384*(i:Nat),32768),(n:Nat),if i=0 then -1 else(((i-1)/4+1:Nat):Int),0,0,1⟩else⟨1,1,0,(32768+65536*(n:Nat),32768),-1,-1,0,0,2⟩
def wlB(i:Nat):Unt:=if i<=33 then⟨2,2,1,(32768+65536*((i/3:Nat):Int)+24576*((i%3:Nat):Int),557056),107,if i=0 then -1 else(((i-1)/3+97:Nat):Int),0,0,1⟩else⟨2,2,1,(753664,557056),-1,-1,0,0,2⟩
def wlW(t:Int)(u v:Unt):Wld:=⟨t,2,3,wlG,[],[u,v]⟩
def wlF(n i:Nat):Wld:=wlW (i:Nat) (wlA n i) (wlB i)
def wlN:Wld:=⟨0,2,1,wlG,[],[]⟩
instance:DecidableEq Unt:=inferInstance
def cmC:Wld->List Cmd->Wld×List Int
 |w,[]=>(w,[])
 |w,c::l=>let r:=cmC (Md w c) l;(r.1,Me w c::r.2)
theorem sr:∀(l:List Cmd) (w:Wld),xy w l=(cmC w l).1/\k9 w l=(cmC w l).2
 |[],_=>⟨rfl,rfl⟩
 |c::l,w=>by
  obtain⟨h1,h2⟩:=sr l (doW aE aW w c)
  show xy (doW aE aW w c) l=(cmC (Md w c) l).1/\doE aE w c::k9 (doW aE aW w c) l=Me w c::(cmC (Md w c) l).2
  rw[h1,h2,yd0,rv]
  exact⟨rfl,rfl⟩
theorem za6:ye wlG 0=(32768,32768)/\ye wlG 96=(32768,557056):=by decide+kernel
theorem za5:∀n,n<8->cmC wlN (wlC (n+2))=(wlF (n+2) 0,[0,0,0,0]):=by decide+kernel
theorem cr:∀n,n<8->zx wlG [] 0 0 (n+2)=true/\L9 wlG (zx wlG [] 0 0) 0 (n+2) (wlD (n+2))=true:=by decide+kernel
theorem wl_farB:zx wlG [] 1 0 107=true/\L9 wlG (zx wlG [] 1 0) 1 107 (wlD 107)=true:=by decide+kernel
theorem za8:∀n,n<8->∀i,i<4*(n+2)+1->Df (wlW 0 (wlA (n+2) i) (wlB i)) (wlA (n+2) i) (atD (wlD (n+2)))=wlW 0 (wlA (n+2) (i+1)) (wlB i):=by decide+kernel
theorem za7:∀n,n<8->∀i,i<4*(n+2)+1->Df (wlW 0 (wlA (n+2) (i+1)) (wlB i)) (wlB i) (atD (wlD 107))=wlW 0 (wlA (n+2) (i+1)) (wlB (i+1)):=by decide+kernel
theorem el(w:Wld)(t:Int)(u:Unt)(v:Vc):∀n k,kj {w with tick:=t} u v n k=kj w u v n k
 |0,_=>rfl
 |n+1,k=>by
  show(if _ then none else if qf {w with tick:=t} u.id u.kind _ then _ else kj {w with tick:=t} u v n (k+1))=_
  rw[el w t u v n]
  rfl
theorem ek(w:Wld)(t:Int)(u:Unt)(v:Vc):jy {w with tick:=t} u v={jy w u v with tick:=t}/\Dh {w with tick:=t} u v=Dh w u v:=by
 unfold jy Dh
 rw[el]
 split<;>exact⟨rfl,rfl⟩
theorem fm(w:Wld)(t:Int)(u:Unt):vh {w with tick:=t} u={vh w u with tick:=t}:=by
 have e:∀x,yj {w with tick:=t} x={yj w x with tick:=t}:=λ_=>rfl
 unfold vh
 rw[e]
 obtain⟨h1,h2⟩:=ek (yj w {u with stuck:=0}) t {u with stuck:=0} (G6 u.pos (ye w.G u.next.toNat) (j5 u.kind))
 rw[show(({w with tick:=t}:Wld).G)=w.G from rfl,h1,h2]
 split
 ·rfl
 ·split<;>rfl
theorem dv(w:Wld)(t:Int)(u:Unt)(d:Nat->Int):Df {w with tick:=t} u d={Df w u d with tick:=t}:=by
 unfold Df
 split
 ·exact(ek w t u _).1
 ·unfold o8
  show(if u.pos=ye w.G u.goal.toNat then yj {w with tick:=t} (k8 2 u)else if Fc w u (jg w.G u.pos)then(if Oj w u (jg w.G u.pos) d<0 then yj {w with tick:=t} (k8 3 u)else vh {w with tick:=t} {u with next:=Oj w u (jg w.G u.pos) d})else vh {w with tick:=t} u)=_
  split
  ·rfl
  ·split
   ·split
    ·rfl
    ·exact fm w t _
   ·exact fm w t u
theorem zb7{w:Wld}{u:Unt}(h:u.goal=-1)(d:Nat->Int):xl w u=Df w u d:=by
 unfold xl Df
 rw[if_pos h,if_pos h]
theorem za4{n i:Nat}(hn:n<8)(hi:i<4*(n+2)+1)(t:Int):xl (wlW t (wlA (n+2) i) (wlB i)) (wlA (n+2) i)=wlW t (wlA (n+2) (i+1)) (wlB i):=by
 have e:xl (wlW t (wlA (n+2) i) (wlB i)) (wlA (n+2) i)=Df (wlW t (wlA (n+2) i) (wlB i)) (wlA (n+2) i) (atD (wlD (n+2))):=by
  refine du ?_
  have e1:(wlA (n+2) i).goal.toNat=n+2/\(wlA (n+2) i).kind=0:=by
   unfold wlA
   rw[if_pos (by omega)]
   exact⟨rfl,rfl⟩
  show jj wlG (zx wlG [] (yu (wlA (n+2) i).kind) (xx (wlA (n+2) i).kind)) (yu (wlA (n+2) i).kind) (wlA (n+2) i).goal.toNat=_
  rw[e1.1,e1.2]
  exact p9 (cr n hn).1 (cr n hn).2
 rw[e]
 have:=dv (wlW 0 (wlA (n+2) i) (wlB i)) t (wlA (n+2) i) (atD (wlD (n+2)))
 rw[za8 n hn i hi]at this
 exact this
theorem za3{n i:Nat}(hn:n<8)(hi:i<4*(n+2)+1)(t:Int):xl (wlW t (wlA (n+2) (i+1)) (wlB i)) (wlB i)=wlW t (wlA (n+2) (i+1)) (wlB (i+1)):=by
 have e:xl (wlW t (wlA (n+2) (i+1)) (wlB i)) (wlB i)=Df (wlW t (wlA (n+2) (i+1)) (wlB i)) (wlB i) (atD (wlD 107)):=by
  by_cases h:i<=33
  ·refine du ?_
   have e1:(wlB i).goal.toNat=107/\(wlB i).kind=1:=by
    unfold wlB
    rw[if_pos h]
    exact⟨rfl,rfl⟩
   show jj wlG (zx wlG [] (yu (wlB i).kind) (xx (wlB i).kind)) (yu (wlB i).kind) (wlB i).goal.toNat=_
   rw[e1.1,e1.2]
   exact p9 wl_farB.1 wl_farB.2
  ·refine zb7 ?_ _
   unfold wlB
   rw[if_neg h]
 rw[e]
 have:=dv (wlW 0 (wlA (n+2) (i+1)) (wlB i)) t (wlB i) (atD (wlD 107))
 rw[za7 n hn i hi]at this
 exact this
theorem zba(n i:Nat):(wlA n i).inn=0:=by unfold wlA;split<;>rfl
theorem za9(i:Nat):(wlB i).inn=0:=by unfold wlB;split<;>rfl
theorem Mv{n i:Nat}(hn:n<8)(hi:i<4*(n+2)+1):Fz (wlF (n+2) i)=wlF (n+2) (i+1):=by
 have h2:jc (wlF (n+2) i)=wlW (i:Nat) (wlA (n+2) (i+1)) (wlB (i+1)):=by
  show goN (wlF (n+2) i) 2=_
  have g1:goN (wlF (n+2) i) 1=wlW (i:Nat) (wlA (n+2) (i+1)) (wlB i):=by
   show(if h:0<(goN (wlF (n+2) i) 0).U.length then _ else _)=_
   rw[dif_pos (show 0<(goN (wlF (n+2) i) 0).U.length from Nat.zero_lt_two)]
   show(if(wlA (n+2) i).inn=0 then xl (wlW (i:Nat) (wlA (n+2) i) (wlB i)) (wlA (n+2) i)else _)=_
   rw[if_pos (zba _ _)]
   exact za4 hn hi _
  show(if h:1<(goN (wlF (n+2) i) 1).U.length then(if(goN (wlF (n+2) i) 1).U[1].inn=0 then xl (goN (wlF (n+2) i) 1) (goN (wlF (n+2) i) 1).U[1]else goN (wlF (n+2) i) 1)else _)=_
  simp only[g1]
  rw[dif_pos (show 1<(wlW (i:Nat) (wlA (n+2) (i+1)) (wlB i)).U.length from Nat.one_lt_two)]
  show(if(wlB i).inn=0 then xl (wlW (i:Nat) (wlA (n+2) (i+1)) (wlB i)) (wlB i)else _)=_
  rw[if_pos (za9 _)]
  exact za3 hn hi _
 unfold Fz
 rw[h2]
 rfl
theorem AWp.freezeBx{P:Program}{c:Cfg}{code:Code}{Q:Exit->Fr->Store->Prop}{A:Fr}{st:Store}{d j b n cap k:Nat}{l:List AV}{rows:List (List AV)}{pad:List AV}
    (hA:A.bx d=some l) (hl:l[j]?=some (.s (.slice (some ⟨b,0,none⟩) n cap))) (ho:st.obj b=some (.cells (rows.flatten++pad))) (ht:st.tok b=none) (hn:rows.length=n) (hcap:n<=cap)
    (hk:∀row∈rows,row.length=k) (hall:∀row∈rows,∀x∈row,∃v,x=AV.s v/\qo v=true)
    (h:AWp P c code Q (A.setBx d (l.set j (.lst k rows none))) (st.dO b)):AWp P c code Q A st:=by
  refine⟨λOth M a w ⟨β,sim⟩=>?_⟩
  have hs:∀b' o,((M b' o/\b'≠b)\/Oth b' o)->(M b' o\/Oth b' o):=λ_ _ h=>h.imp (·.1) id
  have hbd:β d≠b:=sim.sep d b (λe=>by rw[hA]at e;cases e) (.inl (by rw[ho];simp))
  obtain⟨hcell,hM⟩:=sim.sto.obj b _ ho
  have sim':SimB c.N Oth β (A.setBx d (l.set j (.lst k rows none))) (st.dO b) (λb' o=>M b' o/\b'≠b) a w:=by
    refine{tsz:=sim.tsz,dfr:=sim.dfr.sub λ_ _ h=>h.1,tm:=λi=>?_,bx:=λq l' hq=>?_,inj:=λq q' h1 h2=>?_,sep:=λq b' hq hb'=>?_,sto:=?_}
    · have h1:=sim.tm i
      show LRel w _ β (A.t i) _
      generalize A.t i=x at h1
      cases x with
      |any=>trivial
      |und=>exact h1
      |av x=>exact VRel.mono hs h1
      |bx k off=>exact h1
    · have hq2:(bif Nat.beq q d then some (l.set j (.lst k rows none))else A.bx q)=some l':=hq
      clear hq
      cases hb:Nat.beq q d with
      | true=>
        rw[hb]at hq2
        have hqd:=(xe _ _).1 hb
        subst hqd
        have hq3:l.set j (.lst k rows none)=l':=Option.some.inj hq2
        subst hq3
        obtain⟨⟨cs,e,fr,h1,h2,h3,h4⟩,h5⟩:=sim.bx q l hA
        refine⟨⟨cs,e,fr,h1,h2,by rw[Fa8];exact h3,λi x y hx hy=>?_⟩,λo=>⟨h5 o,hbd⟩⟩
        rw[Fdl]at hx
        by_cases e9:j=i
        · subst e9
          rw[if_pos rfl]at hx
          have hjl:=(Faf.1 hl).1
          rw[if_pos hjl]at hx
          have hx:=Option.some.inj hx
          subst hx
          have h6:=h4 j _ y hl hy
          cases h6
          exact tu hcell (λo hT=>hT.elim (λq=>q.2 rfl) (λq=>sim.sto.dis _ _ q (hM o))) hn hcap hk hall
        · rw[if_neg e9]at hx
          exact(h4 i x y hx hy).mono hs
      | false=>
        rw[hb]at hq2
        have hqb:β q≠b:=sim.sep q b (λe=>by rw[show A.bx q=some l' from hq2]at e;cases e) (.inl (by rw[ho];simp))
        obtain⟨⟨cs,e,fr,h1,h2,h3,h4⟩,h5⟩:=sim.bx q l' hq2
        exact⟨⟨cs,e,fr,h1,h2,h3,λi x y hx hy=>(h4 i x y hx hy).mono hs⟩,λo=>⟨h5 o,hqb⟩⟩
    · refine sim.inj q q' (λe=>?_) (λe=>?_)
      · refine h1 ?_
        show(bif Nat.beq q d then some (l.set j (.lst k rows none))else A.bx q)=none
        cases hb:Nat.beq q d with
        | true=>
          have:=(xe _ _).1 hb
          subst this
          rw[hA]at e;cases e
        |false=>exact e
      · refine h2 ?_
        show(bif Nat.beq q' d then some (l.set j (.lst k rows none))else A.bx q')=none
        cases hb:Nat.beq q' d with
        | true=>
          have:=(xe _ _).1 hb
          subst this
          rw[hA]at e;cases e
        |false=>exact e
    · refine sim.sep q b' (λe=>?_) ?_
      · refine hq ?_
        show(bif Nat.beq q d then some (l.set j (.lst k rows none))else A.bx q)=none
        cases hb:Nat.beq q d with
        | true=>
          have:=(xe _ _).1 hb
          subst this
          rw[hA]at e;cases e
        |false=>exact e
      · rcases hb' with hb'|hb'
        · cases hx:(st.dO b).obj b' with
          |none=>exact absurd hx hb'
          |some y=>exact .inl (by rw[(Dw hx).2];simp)
        · exact .inr hb'
    · exact { obj:=λb' y hy=>⟨(sim.sto.obj b' y (Dw hy).2).1.mono hs,λo=>⟨(sim.sto.obj b' y (Dw hy).2).2 o,(Dw hy).1⟩⟩
              tok:=λb' top htk=>by
                obtain⟨c,e,fr,h1,h2,h3,h4⟩:=sim.sto.tok b' top htk
                exact⟨c,e,fr,h1,h2,h3,λo ho=>⟨h4 o ho,λe=>by subst e;rw[show st.tok b'=some top from htk]at ht;cases ht⟩⟩
              mlt:=λb' o hm=>sim.sto.mlt b' o hm.1,olt:=sim.sto.olt,dis:=λb' o ho hm=>sim.sto.dis b' o ho hm.1}
  refine Code.wpF_mono ?_ (h.out Oth _ a w ⟨β,sim'⟩)
  rintro e a' w' ⟨A',st',M',h1,h2,h3⟩
  exact⟨A',st',M',h1,h2,{size:=h3.size,keep:=λb' o hb hm=>h3.keep b' o hb λh=>hm h.1,blk:=λb' hb hm=>h3.blk b' hb λo h=>hm o h.1,shp:=h3.shp,sub:=λb' o hm hb=>(h3.sub b' o hm hb).1,tape:=h3.tape,os:=h3.os,output:=h3.output}⟩
theorem ACalls.frozenLe{P:Program}{f:FuncId}{xs:List AV}{st0:Store}{Q:Ja}{R:Ja}(h:ACalls P f xs st0 Q)
  (hQ:∀r S,Q r S->∃r2 S2,R r2 S2/\(∀b x,S2.obj b=some x->S.obj b≠none)/\(∀b x,S2.tok b≠some x)∧
   ∀(Oth M:Nat->Nat->Prop) (w:World),StoreOK S Oth M w->(∀b x,S2.obj b=some x->ObjRel w (λb o=>(M b o\/Oth b o)/\(S.obj b=none\/S2.obj b≠none)) x b)∧
    ∀v,VRel w (λb o=>M b o\/Oth b o) r v->VRel w (λb o=>(M b o\/Oth b o)/\(S.obj b=none\/S2.obj b≠none)) r2 v):
  ACalls P f xs st0 R:=by
 refine⟨λOth M w vs sto hr=>?_⟩
 have h1:=h.out Oth M w vs sto hr
 have key:∀v w',qn st0 Q Oth M w v w'->qn st0 R Oth M w v w':=by
  rintro v w' ⟨r,S,M',hq,hv,hs,hc⟩
  obtain⟨r2,S2,hr2,hsub,htok,hk⟩:=hQ r S hq
  obtain⟨hk1,hk2⟩:=hk Oth M' w' hs
  have hT:∀b o,((M' b o/\(S.obj b=none\/S2.obj b≠none))\/Oth b o)->((M' b o\/Oth b o)/\(S.obj b=none\/S2.obj b≠none)):=λb o h=>by
   rcases h with⟨h1,h2⟩|h1
   ·exact⟨.inl h1,h2⟩
   ·refine⟨.inr h1,?_⟩
    cases hb:S.obj b with
    |none=>exact .inl rfl
    |some y=>exact absurd ((hs.obj b y hb).2 o) (hs.dis b o h1)
  refine⟨r2,S2,λb o=>M' b o/\(S.obj b=none\/S2.obj b≠none),hr2,(hk2 v hv).mono hT,?_,?_⟩
  ·refine{obj:=λb x hx=>⟨(hk1 b x hx).mono hT,λo=>⟨?_,.inr (by rw[hx];simp)⟩⟩,tok:=λb x hx=>absurd hx (htok b x),mlt:=λb o hm=>hs.mlt b o hm.1,olt:=hs.olt,dis:=λb o ho hm=>hs.dis b o ho hm.1}
   cases hb:S.obj b with
   |none=>exact absurd hb (hsub b x hx)
   |some y=>exact(hs.obj b y hb).2 o
  ·exact{size:=hc.size,keep:=hc.keep,blk:=hc.blk,shp:=hc.shp,sub:=λb o hm hb=>hc.sub b o hm.1 hb,tape:=hc.tape,os:=hc.os,output:=hc.output}
 generalize(callFunc f vs).run P w=res at h1
 cases res with
 |ok n w'=>
  cases n with
  |enter g args=>exact Calls.mono h1 λe w'' ⟨v,he,hv⟩=>⟨v,he,key _ _ hv⟩
  |value v=>exact key _ _ h1
  |_=>exact h1
 |_=>exact h1
def Wj(x:AObj):Prop:=∀w T T' b,ObjRel w T x b->ObjRel w T' x b
theorem ycz{l:List AV}(h:∀y∈l,flat y):Wj (.cells l):=by
 rintro w T T' b ⟨c,e,fr,h1,h2,h3,h4⟩
 exact⟨c,e,fr,h1,h2,h3,λi x y hx hy=>h x (Fau hx) _ _ _ _ _ (h4 i x y hx hy)⟩
theorem ycy:flat .any:=λ_ _ _ _ _ _=>.any _
theorem Sk{st:Store}{p b:Nat}{x y:AObj}(h:(st.sO p x).obj b=some y):(b=p/\y=x)\/(b≠p/\st.obj b=some y):=by
 by_cases e:b=p
 ·subst e;rw[zd]at h;exact .inl ⟨rfl,(Option.some.inj h).symm⟩
 ·rw[zg e]at h;exact .inr ⟨e,h⟩
theorem RowsQ.flatten{α:Type}{k:Nat}{f:α->List AV}{N:Store}{v:AV}{l:List α}(hs:∀x,∀y∈f x,∃u,y=AV.s u/\qo u=true)(h:RowsQ k f N v l):
  ∃N2,N.Le N2/\RowsQ k f N2 v l/\flat v/\∀b x,N2.obj b=some x->Wj x:=by
 have none:v=.s (.slice none 0 0)/\l=[]\/(∃a,Il a/\v=.s (.slice a 0 0)/\l=[])->∃N2,N.Le N2/\RowsQ k f N2 v l/\flat v/\∀b x,N2.obj b=some x->Wj x:=λhh=>⟨Store.empty,⟨λb y hy=>(by cases hy),λb x hx=>(by cases hx)⟩,hh.elim (λe=>.inl (.inl e)) .inr,(by rcases hh with⟨rfl,_⟩|⟨a,_,rfl,_⟩<;>exact Pm _),λb x hx=>(by cases hx)⟩
 rcases h with(h|⟨b,cap,L,rfl,ho,h1,h2,h3⟩)|h
 ·exact none (.inl h)
 ·refine⟨Store.empty.sO b (.cells ((rws f l).flatten++List.replicate L.length .any)),⟨λb' y hy=>?_,λb x hx=>(by cases hx)⟩,.inl (.inr ⟨b,cap,List.replicate L.length .any,rfl,zd _ _ _,h1,by rw[Fbm];exact h2,h3⟩),Pm _,λb' x hx=>?_⟩
  ·rcases Sk hy with⟨rfl,rfl⟩|⟨_,hy⟩
   ·refine⟨_,ho,AObj.le_cells (by simp) λi x y hx hy=>?_⟩
    by_cases hi:i<(rws f l).flatten.length
    ·rw[Fam hi]at hx hy
     rw[hx]at hy;cases hy;exact Tt
    ·rw[Faw (Nat.le_of_not_lt hi)]at hy
     have:=(List.mem_replicate.1 (Fau hy)).2
     rw[this];exact AV.le_any _
   ·cases hy
  ·rcases Sk hx with⟨rfl,rfl⟩|⟨_,hx⟩
   ·refine ycz λy hy=>?_
    rcases Fal.1 hy with hy|hy
    ·obtain⟨r,hr,hy⟩:=List.mem_flatten.1 hy
     obtain⟨a,_,rfl⟩:=Fac.1 hr
     obtain⟨u,rfl,_⟩:=hs a y hy
     exact Pm _
    ·rw[(List.mem_replicate.1 hy).2];exact ycy
   ·cases hx
 ·exact none (.inr h)
theorem VRel.tup2{w:World}{T T':Nat->Nat->Prop}{a b a' b':AV}{v:Value}(h:VRel w T (.tup [a,b]) v)(ha:∀x,VRel w T a x->VRel w T' a' x)(hb:∀x,VRel w T b x->VRel w T' b' x):VRel w T' (.tup [a',b']) v:=by
 cases h with
 |tup _ c hl hc=>
  refine .tup _ c hl λi x y hx hy=>?_
  match i with
  |0=>cases hx;exact ha _ (hc 0 _ y rfl hy)
  |1=>cases hx;exact hb _ (hc 1 _ y rfl hy)
  |i+2=>cases hx
theorem yfm{W:World}{T T':Nat->Nat->Prop}{l l' r:List AV}{b:Nat}(hl:l.length=l'.length)(h:∀x,VRel W T (.agg l) x->VRel W T' (.agg l') x)(hr:∀y∈r,flat y)(hc:CellsRel W T (l++r) b):CellsRel W T' (l'++r) b:=by
 obtain⟨c,e,fr,h1,h2,h3,h4⟩:=hc
 rw[Fag]at h3
 have hx:=h (.agg (c.extract 0 l.length)) (.agg _ _ (by simp;omega) λi x y hx hy=>by
  have hi:=(Faf.1 hx).1
  refine h4 i x y (by rw[Fam hi];exact hx) ?_
  rw[Array.getElem?_extract]at hy
  split at hy
  ·simpa using hy
  ·cases hy)
 cases hx with
 |agg _ _ hl2 hc2=>
  refine⟨c,e,fr,h1,h2,by rw[Fag];omega,λi x y hx hy=>?_⟩
  by_cases hi:i<l'.length
  ·rw[Fam hi]at hx
   refine hc2 i x y hx ?_
   rw[Array.getElem?_extract,if_pos (by omega)]
   simpa using hy
  ·rw[Faw (by omega)]at hx
   refine hr x (Fau hx) _ _ _ _ _ (h4 i x y ?_ hy)
   rw[Faw (by omega),hl]
   exact hx
theorem RowsQ.has{α:Type}{k:Nat}{f:α->List AV}{S:Store}{v:AV}{l:List α}(h:RowsQ k f S v l){b n c:Nat}(hv:v=.s (.slice (some ⟨b,0,none⟩) n c))(hc:0<c):S.has b:=by
 rcases h with(⟨rfl,_⟩|⟨b',cap,L,rfl,ho,_⟩)|⟨a,_,rfl,_⟩
 ·cases hv
 ·cases hv;exact jb ho
 ·cases hv;omega
def Store.objs0(S:Store):Store:=⟨S.obj,λ_=>none⟩
theorem ACalls.frozenEng{P:Program}{f:FuncId}{xs:List AV}{st0:Store}{Q:Ja}{R:Ja}(h:ACalls P f xs st0 Q)
  (hQ:∀r S,Q r S->R r Store.empty\/∃r2 X N eb raw plain p,zh X N/\¬X.has eb/\¬N.has eb/\S=(X.un N).sO eb (.cells (raw++[.s p]))/\raw.length=plain.length/\R r2 (N.objs0.sO eb (.cells (plain++[.s p])))∧
   ∀(Oth M:Nat->Nat->Prop) (W:World),StoreOK X Oth M W->(∀x,VRel W (λb o=>M b o\/Oth b o) (.agg raw) x->VRel W (λb o=>(M b o\/Oth b o)/\X.obj b=none) (.agg plain) x)∧
    ∀x,VRel W (λb o=>M b o\/Oth b o) r x->VRel W (λb o=>(M b o\/Oth b o)/\X.obj b=none) r2 x):ACalls P f xs st0 R:=by
 refine h.frozenLe ?_
 intro r S hq
 rcases hQ r S hq with hR|⟨r2,X,N,eb,raw,plain,p,hd,hx,hn,rfl,hl,hR,hb⟩
 ·exact⟨r,Store.empty,hR,λb x hx=>(by cases hx),λb x hx=>(by cases hx),λOth M w sto=>⟨λb x hx=>(by cases hx),λv hv=>hv.mono λb o h=>h.1⟩⟩
 have hS2:∀b x,(N.objs0.sO eb (.cells (plain++[.s p]))).obj b=some x->(b=eb/\x=.cells (plain++[.s p]))\/(b≠eb/\N.obj b=some x):=λb x hx=>Sk hx
 refine⟨r2,_,hR,λb x hx=>?_,λb x hx=>(by cases hx),λOth M w sto=>?_⟩
 ·rcases hS2 b x hx with⟨rfl,rfl⟩|⟨h1,h2⟩
  ·rw[zd];simp
  ·rw[zg h1,zf h2];simp
 have sX:StoreOK X Oth M w:=sto.weaken ⟨λb y hy=>by
  have e:b≠eb:=λe=>hx (by rw[<-e];exact jb hy)
  rw[zg e];exact z8 hd hy,λb y hy=>K1 hd hy⟩
 obtain⟨k1,k2⟩:=hb Oth M w sX
 have hT:∀b o,((M b o\/Oth b o)/\(((X.un N).sO eb (.cells (raw++[.s p]))).obj b=none\/(N.objs0.sO eb (.cells (plain++[.s p]))).obj b≠none))->(M b o\/Oth b o)/\X.obj b=none:=λb o ⟨h1,h2⟩=>by
  refine⟨h1,?_⟩
  by_cases e:b=eb
  ·subst e;exact(ww hx).1
  ·rw[zg e,zg e]at h2
   cases hxb:X.obj b with
   |none=>rfl
   |some y=>
    rcases h2 with h2|h2
    ·rw[z8 hd hxb]at h2;cases h2
    ·exact absurd (ww (hd b (jb hxb))).1 h2
 refine⟨λb x hx2=>?_,λv hv=>(k2 v hv).mono hT⟩
 rcases hS2 b x hx2 with⟨rfl,rfl⟩|⟨h1,h2⟩
 ·have ho:=(sto.obj b _ (zd _ _ _)).1
  have:=yfm hl k1 (λy hy=>by rw[Fcb.1 hy];exact Pm p) ho
  exact ObjRel.mono hT (show ObjRel w (λb o=>(M b o\/Oth b o)/\X.obj b=none) (.cells (plain++[.s p])) b from this)
 ·exact(sto.obj b x (by rw[zg h1];exact zf h2)).1.mono λb o h=>h.1
section
variable {P:Program} {c:Cfg} {w:World} {st:Store} {Oth M:Nat->Nat->Prop}
theorem yg9{o:Oper}{t:TypeId}{x:Operand}(ho:o.op=.makeInterface t x){d:TypeDesc}(hd:yp P c.I->P.underlying t=some d)(hn:∀m,d≠.interface m){y:AV}{u:Value}
    (hy:∀(w:World) (T:Nat->Nat->Prop) (v:Value),VRel w T y v->v=u) {R:Ja} (h:R (.s (.iface t u)) st):AEff P c o [y] st R:=by
  refine⟨λOth M w ρ hI sto hr=>?_⟩
  rw[ho]at hr
  have hr:Reads w (λb o=>M b o\/Oth b o) [y] [ρ x]:=by simpa [Op.operands]using hr
  obtain⟨v,he,h1⟩:=Iz hr
  simp only[Fcr,and_true]at he
  rw[<-he]at h1
  have h1:=hy _ _ _ h1
  have hund:=yf (P:=P) (hd hI)
  have hrun:(execOp ρ o).run P w=.ok (.value (.iface t u)) w:=by
    simp only[execOp,ho,Instr.makeInterface,Sem.run_bind,hund,Result.andThen_ok,h1]
    cases d<;>simp at hn⊢
  rw[hrun]
  exact⟨_,_,_,h,.s _,sto,Chg.refl M w⟩
theorem yg8{o:Oper}{t:TypeId}{x:Operand}(ho:o.op=.makeInterface t x){it:TI}{e:TypeId}(hit:c.I t=some it)(hty:it.ty=.ptr e){u:Value}{R:Ja}(h:R (.s (.iface t u)) st):AEff P c o [.s u] st R:=
  yg9 ho (λhI=>M9 (hI _ _ hit) hty) (λm h=>by cases h) (λw T v hv=>VRel.eq_s hv) h
end
section
variable {P:Program} {v:Value} {x:AV}
theorem ib{t:TypeId}{inf:TypeInfo}(h:P.info? t=some inf)(w:World):(typeInfo t).run P w=.ok inf w:=by
  simp[typeInfo,run_program,h]
theorem Meets.val{t:TypeId}{m:String}{g:FuncId}{inf:TypeInfo}{row:Method}{d:TypeDesc}(hi:P.info? t=some inf)(hf:inf.methods.find? (·.name==m)=some row)(hp:row.path=#[])
    (hr:row.func=some (g,false)) (hu:P.underlying t=some d) (hd:∀e,d≠.pointer e) (hx:∀w T,VRel w T x v):Meets P t v m g x:=by
  refine⟨v,λw=>?_,hx⟩
  have hdep:P.types.size+Made.depth=(P.types.size+99)+1:=rfl
  rw[hdep]
  generalize P.types.size+99=n
  have e:row.path.toList=[]:=by rw[hp]
  unfold method
  rw[Sem.run_bind,ib hi,Result.andThen_ok,hf]
  dsimp only
  rw[e]
  unfold follow
  rw[Sem.run_bind,Sem.run_pure,Result.andThen_ok]
  dsimp only
  rw[hr]
  dsimp only
  unfold receiverAt
  cases d<;>simp[yf hu,Place.get]at hd⊢
theorem Meets.ptr{t:TypeId}{m:String}{g:FuncId}{inf:TypeInfo}{row:Method}{e:TypeId}(hi:P.info? t=some inf)(hf:inf.methods.find? (·.name==m)=some row)(hp:row.path=#[])
    (hr:row.func=some (g,true)) (hu:P.underlying t=some (.pointer e)) (hx:∀w T,VRel w T x v):Meets P t v m g x:=by
  refine⟨v,λw=>?_,hx⟩
  have hdep:P.types.size+Made.depth=(P.types.size+99)+1:=rfl
  rw[hdep]
  generalize P.types.size+99=n
  have e:row.path.toList=[]:=by rw[hp]
  unfold method
  rw[Sem.run_bind,ib hi,Result.andThen_ok,hf]
  dsimp only
  rw[e]
  unfold follow
  rw[Sem.run_bind,Sem.run_pure,Result.andThen_ok]
  dsimp only
  rw[hr]
  dsimp only
  unfold receiverAt
  simp[yf hu,Place.get]
def Lp(P:Program)(t:TypeId)(m:String)(g:FuncId)(ptr:Bool):Bool:=
  match P.info? t,P.underlying t with
  | some inf,some d=>(match inf.methods.find? (·.name==m)with
    |some row=>row.path.isEmpty&&(match row.func with|some (f,b)=>Nat.beq f g&&(b==ptr)|none=>false)
    |none=>false)&&(match d with|.pointer _=>ptr|_=> !ptr)
  |_,_=>false
theorem zy9{t:TypeId}{m:String}{g:FuncId}{ptr:Bool}(h:Lp P t m g ptr=true):∃inf row d,P.info? t=some inf/\inf.methods.find? (·.name==m)=some row/\row.path=#[]/\row.func=some (g,ptr)/\P.underlying t=some d/\(match d with|.pointer _=>ptr|_=> !ptr)=true:=by
  unfold Lp at h
  split at h
  · rename_i inf d h1 h2
    rw[Fax]at h
    obtain⟨h3,h4⟩:=h
    split at h3
    · rename_i row h5
      rw[Fax]at h3
      obtain⟨h6,h7⟩:=h3
      split at h7
      · rename_i f b h8
        rw[Fax]at h7
        obtain⟨h9,h10⟩:=h7
        have e1:f=g:=Nat.eq_of_beq_eq_true h9
        have e2:b=ptr:=eq_of_beq h10
        subst e1 e2
        exact⟨inf,row,d,h1,h5,Array.isEmpty_iff.1 h6,h8,h2,h4⟩
      · cases h7
    · cases h3
  · cases h
theorem Meets.ptrB{t:TypeId}{m:String}{g:FuncId}(h:Lp P t m g true=true)(hx:∀w T,VRel w T x v):Meets P t v m g x:=by
  obtain⟨inf,row,d,h1,h2,h3,h4,h5,h6⟩:=zy9 h
  cases d with
  |pointer e=>exact Meets.ptr h1 h2 h3 h4 h5 hx
  |_=>cases h6
end
def wq(v:Vc):Prop:=(-1099511627776<=v.1/\v.1<=1099511627776)/\(-1099511627776<=v.2/\v.2<=1099511627776)
theorem G7{v:Vc}(h:wq v):wh v:=by unfold wq at h;unfold wh;omega
theorem zc1{v:Vc}(h:wq v):v.ok:=by
 unfold wq at h
 exact⟨⟨by omega,by omega⟩,⟨by omega,by omega⟩⟩
theorem My{p q:Vc}(hp:qw p)(hq:qw q):wq (qq q p):=by
 rw[(Rl hp hq).1]
 unfold qw at hp hq
 unfold wq
 dsimp only
 omega
theorem ya4{w:Wld}{u:Unt}(hu:qw u.pos)(h:∀x∈w.U,x.inn=0->qw x.pos)(hl:w.U.length<=4096):wq (Gh w u):=by
 have key:∀(l:List Unt) (v:Vc) (B:Nat),(∀x∈l,x.inn=0->qw x.pos)->B+l.length<=4096->(v.1.natAbs<=B*16777216/\v.2.natAbs<=B*16777216)->
   wq (l.foldl (λv x=>if x.inn=0/\x.id≠u.id then jf v (wi u.pos (zp u.kind+zp x.kind+16384) x.pos)else v) v):=by
  intro l
  induction l with
  |nil=>
   intro v B _ hB hv
   unfold wq
   simp only[List.length_nil]at hB
   simp only[List.foldl_nil]
   omega
  |cons x l ih=>
   intro v B hx hB hv
   simp only[Fbi]at hB
   rw[Fcq]
   refine ih _ (B+1) (λy hy=>hx y (Fa3 _ hy)) (by omega) ?_
   split
   ·rename_i hc
    have r1:=He u.kind
    have r2:=He x.kind
    have:=S0 hu (hx x Fbj hc.1) (r:=zp u.kind+zp x.kind+16384) (by omega)
    generalize wi u.pos (zp u.kind+zp x.kind+16384) x.pos=z at*
    have e:jf v z=(v.1+z.1,v.2+z.2):=by
     unfold jf
     rw[Ma (by omega) (by omega),Ma (by omega) (by omega)]
    rw[e]
    dsimp only
    omega
   ·exact⟨Fda hv.1 (Fa7 _ (Fd4 B)),Fda hv.2 (Fa7 _ (Fd4 B))⟩
 unfold Gh
 refine key w.U (0,0) 0 h (by omega) ⟨?_,?_⟩
 ·show(0:Int).natAbs<=_;simp
 ·show(0:Int).natAbs<=_;simp
section
variable {u:Unt} {w:Wld} {n k:Nat}
theorem rk:∀{a b:List Unt},(a.map (·.id)).Pairwise (·<·)->(b.map (·.id)).Pairwise (·<·)->(∀u,u∈a↔u∈b)->a=b
 |[],[],_,_,_=>rfl
 |[],y::b,_,_,h=>absurd ((h y).2 Fbj) (by simp)
 |x::a,[],_,_,h=>absurd ((h x).1 Fbj) (by simp)
 |x::a,y::b,ha,hb,h=>by
  rw[Fb6,Fc4]at ha hb
  have hx:=(h x).1 Fbj
  have hy:=(h y).2 Fbj
  have e:x=y:=by
   rcases Fat.1 hx with e|hx
   ·exact e
   ·rcases Fat.1 hy with e|hy
    ·exact e.symm
    ·have h1:=hb.1 _ (Fac.2 ⟨x,hx,rfl⟩)
     have h2:=ha.1 _ (Fac.2 ⟨y,hy,rfl⟩)
     omega
  subst e
  refine congrArg _ (rk ha.2 hb.2 λu=>⟨λhu=>?_,λhu=>?_⟩)
  ·rcases Fat.1 ((h u).1 (Fa3 _ hu))with e|e
   ·have:=ha.1 _ (Fac.2 ⟨u,hu,rfl⟩)
    rw[e]at this
    omega
   ·exact e
  ·rcases Fat.1 ((h u).2 (Fa3 _ hu))with e|e
   ·have:=hb.1 _ (Fac.2 ⟨u,hu,rfl⟩)
    rw[e]at this
    omega
   ·exact e
def nV(v:Vc):Prop:=(-9223372036854775807<=v.1/\v.1<=9223372036854775807)/\(-9223372036854775807<=v.2/\v.2<=9223372036854775807)
theorem mm(a b:Vc):nV (jf a b):=⟨Hx _ _,Hx _ _⟩
theorem Vk{v:Vc}(h:nV v):v.ok:=by
 unfold nV at h
 exact⟨⟨by omega,by omega⟩,⟨by omega,by omega⟩⟩
theorem ra{a:Int}(h:-9223372036854775807<=a/\a<=9223372036854775807):yy a 0=a:=by
 unfold yy
 rw[ji (by omega),ji (by omega)]
 unfold xo
 split
 ·omega
 ·split<;>omega
theorem zby{v:Vc}(h:nV v):jf v (0,0)=v:=by
 unfold jf
 rw[ra h.1,ra h.2]
def vw(u:Unt)(v:Vc)(x:Unt):Vc:=if x.id≠u.id then jf v (wi u.pos (zp u.kind+zp x.kind+16384) x.pos)else v
theorem ml{x:Unt}{v:Vc}(h:nV v):nV (vw u v x):=by
 unfold vw
 split
 ·exact mm _ _
 ·exact h
theorem mj:∀(l:List Unt) {v:Vc},nV v->nV (l.foldl (vw u) v)
 |[],_,h=>h
 |x::l,_,h=>mj l (ml h)
theorem zxp{p q:Vc}{r:Int}(h:near p q r=false):wi p r q=(0,0):=by
 unfold wi
 rw[h]
 simp
theorem O9(u:Unt)(r:Int)(hr:∀k,zp u.kind+zp k+16384<=r):∀(l:List Unt) (v:Vc),nV v->
  l.foldl (λv x=>if x.inn=0/\x.id≠u.id then jf v (wi u.pos (zp u.kind+zp x.kind+16384) x.pos)else v) v=(l.filter λx=>decide (x.inn=0)&&near u.pos x.pos r).foldl (vw u) v
 |[],v,_=>rfl
 |x::l,v,h=>by
  rw[Fcq,Fcw]
  by_cases h0:x.inn=0
  ·cases hn:near u.pos x.pos r with
   |true=>
    simp only[h0,decide_true,Bool.and_self,if_true,Fcq,true_and]
    exact O9 u r hr l _ (ml h)
   |false=>
    have hf:near u.pos x.pos (zp u.kind+zp x.kind+16384)=false:=by
     cases hc:near u.pos x.pos (zp u.kind+zp x.kind+16384)with
     |false=>rfl
     |true=>rw[l9 (hr x.kind) hc]at hn;cases hn
    simp only[h0,decide_true,Bool.and_false,Fad,if_false,true_and]
    rw[zxp hf,zby h,ite_self]
    exact O9 u r hr l _ h
  ·simp only[h0,decide_false,Bool.false_and,Fad,if_false,false_and]
   exact O9 u r hr l _ h
theorem ya3(hr:yg w.U){us:List Unt}(hn:Hk w u.pos (zp u.kind+16384+81920) us)(hs:(us.map (·.id)).Pairwise (·<·)):Gh w u=us.foldl (vw u) (0,0):=by
 unfold Gh
 rw[O9 u (zp u.kind+16384+81920) (λk=>by have:=(Bi k).2;omega) w.U (0,0) ⟨⟨by decide,by decide⟩,⟨by decide,by decide⟩⟩]
 congr 1
 refine rk ?_ hs λx=>?_
 ·have:(w.U.map (·.id)).Pairwise (·<·):=by
   rw[Fcp]
   intro i j hi hj hij
   rw[Faq]at hi hj
   simp only[Fbx]
   exact D6 hr hij hj
  exact this.sublist (List.filter_sublist.map _)
 ·rw[Fbo,hn x,Fax,decide_eq_true_iff]
  constructor
  ·rintro⟨h1,h2,h3⟩;exact⟨⟨h1,h2⟩,h3⟩
  ·rintro⟨⟨h1,h2⟩,h3⟩;exact⟨h1,h2,h3⟩
theorem ybd{v:Vc}(h:nV v)(k:Nat):nV (Aw v k):=by
 obtain⟨h1,h2⟩:=h
 have e1:=ou v.1 k
 have e2:=ou v.2 k
 unfold nV Aw
 dsimp only
 omega
theorem zbt{v:Vc}(h:v.ok):nV (j9 v):=by
 obtain⟨h1,h2⟩:=h
 have e1:=j2 h1
 have e2:=j2 h2
 unfold nV j9
 dsimp only
 omega
theorem zct{v:Vc}(h0:Aw v k≠(0,0))(hc:¬qf w u.id u.kind (jf u.pos (Aw v k))):kj w u v (n+1) k=kj w u v n (k+1):=by
 show(if _ then _ else if _ then _ else _)=_
 rw[if_neg h0,if_neg hc]
theorem zcr{v:Vc}(h0:Aw v k=(0,0)):kj w u v (n+1) k=none:=by
 show(if _ then _ else if _ then _ else _)=_
 rw[if_pos h0]
theorem zcs{v:Vc}(h0:Aw v k≠(0,0))(hc:qf w u.id u.kind (jf u.pos (Aw v k))):kj w u v (n+1) k=some (k,jf u.pos (Aw v k)):=by
 show(if _ then _ else if _ then _ else _)=_
 rw[if_neg h0,if_pos hc]
theorem zrz(hk:k<5):IntKind.i64.wrap (1*2^(min ((k:Int)).toNat IntKind.i64.bits))=((2^k:Nat):Int):=by
 have:k=0\/k=1\/k=2\/k=3\/k=4:=by omega
 rcases this with rfl|rfl|rfl|rfl|rfl<;>decide
end
section
variable {u n t:Nat} {x:Int}
def vr:Nat->(Nat->Nat)->Nat
 |0,_=>0
 |n+1,f=>vr n f+f n
theorem Sd{f g:Nat->Nat}:∀n,(∀t,t<n->f t=g t)->vr n f=vr n g
 |0,_=>rfl
 |n+1,h=>by
  show vr n f+f n=vr n g+g n
  rw[Sd n (λt ht=>h t (by omega)),h n (by omega)]
theorem Sb{f g:Nat->Nat}:∀n,(∀t,t<n->f t<=g t)->vr n f<=vr n g
 |0,_=>Fak _
 |n+1,h=>by
  show vr n f+f n<=vr n g+g n
  have:=Sb n (λt ht=>h t (by omega))
  have:=h n (by omega)
  omega
theorem Sc(c:Nat):∀n,vr n (λ_=>c)=n*c
 |0=>by simp[vr]
 |n+1=>by
  show vr n (λ_=>c)+c=_
  rw[Sc c n,Fd9]
theorem Nh{f g:Nat->Nat}:∀n,u<n->(∀t,t<n->t≠u->f t=g t)->vr n f+g u=vr n g+f u
 |0,hu,_=>by omega
 |n+1,hu,h=>by
  show vr n f+f n+g u=vr n g+g n+f u
  by_cases e:u=n
  ·subst e
   rw[Sd u (λt ht=>h t (by omega) (by omega))]
   omega
  ·have:=Nh (f:=f) (g:=g) n (by omega) (λt ht hne=>h t (by omega) hne)
   have:=h n (by omega) (Ne.symm e)
   omega
def Cl(n:Nat)(d:Nat->Int):Nat:=vr n λt=>if 0<=d t then 1 else 0
theorem zcz(n:Nat)(d:Nat->Int):Cl n d<=n:=by
 have:=Sb (f:=λt=>if 0<=d t then 1 else 0) (g:=λ_=>1) n (λt _=>by split<;>omega)
 rw[Sc]at this
 unfold Cl
 omega
theorem zcy{d:Nat->Int}(hu:u<n)(h:d u<0)(hx:0<=x):Cl n (yr d u x)=Cl n d+1:=by
 have:=Nh (f:=λt=>if 0<=yr d u x t then 1 else 0) (g:=λt=>if 0<=d t then 1 else 0) n hu (λt _ hne=>by simp only[jq hne])
 simp only[wz,if_pos hx,if_neg (show¬0<=d u by omega)]at this
 unfold Cl
 omega
theorem zcx{d:Nat->Int}(h:0<=d u)(hx:0<=x):Cl n (yr d u x)=Cl n d:=by
 unfold Cl
 refine Sd n λt _=>?_
 by_cases e:t=u
 ·subst e;rw[wz,if_pos hx,if_pos h]
 ·rw[jq e]
def H0(n:Nat)(d:Nat->Int):Prop:=∀t,d t<=84*(Cl n d:Int)-84\/d t<0
theorem ye1{goal:Nat}(hg:goal<n){d:Nat->Int}(hd:∀u,d u=if u=goal then 0 else -1):H0 n d:=by
 intro t
 have h1:1<=Cl n d:=by
  have:=Nh (f:=λt=>if 0<=d t then 1 else 0) (g:=λt=>if t=goal then 0 else if 0<=d t then 1 else 0) n hg (λt _ hne=>by rw[if_neg hne])
  have h0:(if 0<=d goal then 1 else 0)=1:=by rw[hd,if_pos rfl];rfl
  simp only[if_true,h0]at this
  unfold Cl
  omega
 rw[hd]
 split
 ·left;omega
 ·right;omega
theorem si{d:Nat->Int}(h:H0 n d){c:Int}(hu:u<n)(ht:0<=d t)(hc:0<c/\c<=84)(hl:d u<0\/d t+c<d u):H0 n (yr d u (d t+c)):=by
 have hdt:=h t
 by_cases hn:d u<0
 ·have e:=zcy (n:=n) hu hn (show 0<=d t+c by omega)
  intro v
  rw[e]
  by_cases ev:v=u
  ·subst ev;rw[wz];omega
  ·rw[jq ev]
   have:=h v
   omega
 ·have e:=zcx (n:=n) (d:=d) (u:=u) (by omega) (show 0<=d t+c by omega)
  intro v
  rw[e]
  by_cases ev:v=u
  ·subst ev;rw[wz]
   have:=h v
   omega
  ·rw[jq ev];exact h v
theorem W5{d:Nat->Int}(h:H0 n d)(t:Nat):d t<=84*(n:Int):=by
 have:=h t
 have:=zcz n d
 omega
def Cp(n:Nat)(dn:Nat->Bool):Nat:=vr n λt=>if dn t then 0 else 1
theorem zya{dn:Nat->Bool}(ht:t<n)(h:dn t=false):Cp n (yr dn t true)+1=Cp n dn:=by
 have:=Nh (f:=λv=>if yr dn t true v=true then 0 else 1) (g:=λv=>if dn v=true then 0 else 1) n ht (λv _ hne=>by simp only[jq hne])
 simp only[wz,h,if_true,Fad,if_false]at this
 unfold Cp
 omega
end
section
variable {i n k:Nat}
theorem zw9{l:List (Int×Int)}(h:vf l)(x:Int×Int):UpF (qat (l++[x])) (l++[x]).length l.length:=by
 have h2:H5 (qat (l++[x])) l.length:=λj h0 hj=>by
  rw[la l x j hj,la l x (par j) (by have:=Ar h0;omega)]
  exact h j h0 hj
 have:=zb0 h2
 simpa using this
theorem zw6{l:List (Int×Int)}(h:UpF (qat l) l.length i)(h0:0<i)(hi:i<l.length)(hl:qlt (qat l i) (qat l (par i))):
  UpF (qat (kl l i (par i))) (kl l i (par i)).length (par i)/\(kl l i (par i)).Perm l:=by
 have hp:=Ar h0
 rw[i8 hi (by omega),Ii]
 exact⟨zbz h h0 hi hl,fh hi (by omega)⟩
theorem i6{l:List (Int×Int)}(h:UpF (qat l) l.length i)(hi:i=0\/¬qlt (qat l i) (qat l (par i))):vf l:=zb1 h hi
theorem zw8(l:List (Int×Int))(x:Int×Int):(l++[x]).Perm (x::l):=List.perm_append_singleton x l
theorem zxb{l:List (Int×Int)}(hl:l.length=n+1):l.Perm (qat l 0::(l.set 0 (qat l n)).take n):=by
 obtain⟨a,t,rfl⟩:∃a t,l=a::t:=by
  cases l with
  |nil=>simp at hl
  |cons a t=>exact⟨a,t,rfl⟩
 simp only[Fbi,Nat.add_right_cancel_iff]at hl
 have e0:qat (a::t) 0=a:=rfl
 rw[e0]
 refine List.Perm.cons a ?_
 cases n with
 |zero=>
  have:t=[]:=Fa0 hl
  subst this
  simp
 |succ n=>
  have e1:qat (a::t) (n+1)=t[n]'(by omega):=by
   rw[Lj (by simp;omega)]
   rfl
  rw[e1]
  show t.Perm ((t[n]'(by omega)::t).take (n+1))
  rw[List.take_succ_cons]
  have e2:t=t.take n++[t[n]'(by omega)]:=by
   have h1:=Fb8 n t
   have h2:t.drop n=[t[n]'(by omega)]:=by
    rw[Fen (by omega),List.drop_eq_nil_of_le (by omega)]
   rw[h2]at h1
   exact h1.symm
  exact(List.Perm.of_eq e2).trans (List.perm_append_singleton _ _)
theorem zxd{l:List (Int×Int)}(hl:l.length=n+1)(h:vf l):Ft (qat ((l.set 0 (qat l n)).take n)) ((l.set 0 (qat l n)).take n).length 0:=by
 have hlen:((l.set 0 (qat l n)).take n).length=n:=by simp;omega
 rw[hlen]
 have h2:H5 (qat l) (n+1):=by rw[<-hl];exact h
 have key:∀j,0<j->j<n->qat ((l.set 0 (qat l n)).take n) j=qat l j:=λj h0 hj=>by
  unfold qat
  simp only[List.getD,Fb7 hj]
  rw[Fdp (by omega)]
 refine⟨λj h0 hj hp=>?_,λj h0 hj hp h1=>by omega⟩
 rw[key j h0 hj,key (par j) (by omega) (by have:=Ar h0;omega)]
 exact h2 j h0 (by omega)
theorem zxc{l:List (Int×Int)}(h:vf l):∀e∈l,¬qlt e (qat l 0):=λe he=>by
 obtain⟨j,hj,rfl⟩:=Fai he
 rw[<-Lj hj]
 exact ybb h j hj
theorem zxe{l:List (Int×Int)}(h:Ft (qat l) l.length i)(hc:l.length<=2*i+1):vf l:=
 rq h λj h0 hj hp=>by
  rcases(Lm h0).1 hp with e|e<;>omega
theorem Su{l:List (Int×Int)}(h:Ft (qat l) l.length i)(hk:∀j,0<j->j<l.length->par j=i->¬qlt (qat l j) (qat l k))(hs:¬qlt (qat l k) (qat l i)):vf l:=
 rq h λj h0 hj hp=>Nz hs (hk j h0 hj hp)
theorem Sv{l:List (Int×Int)}(h:Ft (qat l) l.length i)(hk0:0<k)(hk:k<l.length)(hki:par k=i)(hmin:∀j,0<j->j<l.length->par j=i->¬qlt (qat l j) (qat l k))(hl:qlt (qat l k) (qat l i)):
  Ft (qat (kl l i k)) (kl l i k).length k/\(kl l i k).Perm l:=by
 have hp:=Ar hk0
 rw[i8 (by omega) hk,Ii]
 exact⟨ydx h hk0 hk hki hmin hl,fh (by omega) hk⟩
theorem W9{f:Nat->Int×Int}(hk:k=2*i+1/\(2*i+2<n->¬qlt (f (2*i+2)) (f (2*i+1)))\/k=2*i+2/\qlt (f (2*i+2)) (f (2*i+1))):∀j,0<j->j<n->par j=i->¬qlt (f j) (f k):=by
 intro j h0 hj hp
 rcases(Lm h0).1 hp with e|e
 ·subst e
  rcases hk with⟨rfl,_⟩|⟨rfl,h2⟩
  ·exact Sx _
  ·exact N6 h2
 ·subst e
  rcases hk with⟨rfl,h1⟩|⟨rfl,h2⟩
  ·exact h1 hj
  ·exact Sx _
end
section
variable {F:Store} {p i b cap:Nat}
def itC(x:Int×Int):List AV:=[int x.1,int x.2]
theorem Hr(x:Int×Int):(itC x).length=2:=rfl
structure QAt(F:Store)(p b cap:Nat)(l:List (Int×Int))(L:List AV):Prop where
 hp:F.obj p=some (.cells [.s (.slice (some ⟨b,0,none⟩) l.length cap)])
 hb:F.obj b=some (.cells ((rws itC l).flatten++L))
 ne:b≠p
 h1:l.length<=cap
 h2:cap*2<=l.length*2+L.length
 h3:cap<=9223372036854775807
def QOf(F:Store)(p:Nat)(l:List (Int×Int)):Prop:=(F.obj p=some (.cells [.s (.slice none 0 0)])/\l=[])\/∃b cap L,QAt F p b cap l L
theorem QOf.rows{l:List (Int×Int)}(h:QOf F p l):∃v,F.obj p=some (.cells [v])/\RowsO 2 itC F v l/\∀b c0,v=.s (.slice (some ⟨b,0,none⟩) l.length c0)->b≠p:=by
 rcases h with⟨h,rfl⟩|⟨b,cap,L,h⟩
 ·exact⟨_,h,.inl ⟨rfl,rfl⟩,λb c0 e=>by simp at e⟩
 ·refine⟨_,h.hp,.inr ⟨b,cap,L,rfl,h.hb,h.h1,h.h2,h.h3⟩,λb' c0 e=>?_⟩
  simp only[AV.s.injEq,Value.slice.injEq,Fah,Addr.mk.injEq]at e
  exact e.1.1▸h.ne
theorem QOf.pos{l:List (Int×Int)}(h:QOf F p l)(hl:0<l.length):∃b cap L,QAt F p b cap l L:=by
 rcases h with⟨h,rfl⟩|h
 ·exact absurd hl (Fet 0)
 ·exact h
theorem yac{l:List (Int×Int)}(hi:i<l.length)(x:Int×Int)(L:List AV):zu ((rws itC l).flatten++L) (0+i*2) (itC x)=(rws itC (l.set i x)).flatten++L:=by
 have:=fz (f:=itC) (k:=2) Hr hi (j:=0) (x':=x) (ys:=itC x) (L:=L) (by show 0+2<=2;omega) (by
  unfold zu
  rw[Hr]
  rfl)
 rw[Fel]at this
 rw[Fbd]
 exact this
theorem kx{l:List (Int×Int)}{L:List AV}(hi:i<l.length):List.drop (0+i*2) ((rws itC l).flatten++L)=itC (qat l i)++((rws itC (l.drop (i+1))).flatten++L):=by
 have h1:(rws itC (l.take i)).flatten.length=i*2:=by rw[kr Hr,Fao,Fdu (by omega)]
 rw[Fbd,No hi,Fas,<-h1,Fd8,Fas,Lj hi]
theorem Fg{l:List (Int×Int)}{L:List AV}(hi:i<l.length)(x:Int×Int):0+i*2+(itC x).length<=((rws itC l).flatten++L).length:=by
 rw[Fag,kr Hr,Hr]
 omega
theorem QAt.set{l:List (Int×Int)}{L:List AV}(h:QAt F p b cap l L)(hi:i<l.length)(x:Int×Int):QAt (F.sO b (.cells (zu ((rws itC l).flatten++L) (0+i*2) (itC x)))) p b cap (l.set i x) L:=by
 rw[yac hi]
 exact⟨by rw[zg (Ne.symm h.ne),Fa8];exact h.hp,zd _ _ _,h.ne,by rw[Fa8];exact h.h1,by rw[Fa8];exact h.h2,h.h3⟩
theorem QAt.cut{l:List (Int×Int)}{L:List AV}(h:QAt F p b cap l L){n:Nat}(hn:n<=l.length):QAt (F.sO p (.cells [.s (.slice (some ⟨b,0,none⟩) n cap)])) p b cap (l.take n) ((rws itC (l.drop n)).flatten++L):=by
 have e:(rws itC (l.take n)).flatten++((rws itC (l.drop n)).flatten++L)=(rws itC l).flatten++L:=by
  rw[<-Fas,<-F9,Fb8]
 have hl:(l.take n).length=n:=by rw[Fao];omega
 refine⟨by rw[zd,hl],by rw[zg h.ne,e];exact h.hb,h.ne,by rw[hl];have:=h.h1;omega,?_,h.h3⟩
 have:=h.h2
 rw[hl,Fag,kr Hr,Fck]
 omega
end
section
variable {i:Nat}
def wn(v:Int)(k:Nat)(t:Nat):Int:=if t<k then v else 0
theorem zwx{n k m:Nat}{v:Int}(hk:m<=k)(hn:k+m<=n):zu (il n (wn v k)) (0+k*1) ((List.drop (0+0*1) (il n (wn v k))).take (m*1))=il n (wn v (k+m)):=by
 have e:(List.drop (0+0*1) (il n (wn v k))).take (m*1)=List.replicate m (int v):=by
  rw[show 0+0*1=0 from rfl,Fce,Fes]
  apply Fdr
  ·rw[Fao,qy,Fbm];omega
  ·intro i h1 h2
   rw[Fbm]at h2
   rw[Fdk,List.getElem_replicate]
   simp only[il,Fbx,List.getElem_range]
   rw[wn,if_pos (by omega)]
 rw[e]
 unfold zu
 rw[Fbm,show 0+k*1=k by omega]
 apply Fb9
 intro i
 by_cases h1:i<k
 ·rw[Fas,Fam (by rw[Fao,qy];omega),Fb7 h1,Cz (by omega),Cz (by omega),wn,wn,if_pos h1,if_pos (by omega)]
 ·by_cases h2:i<k+m
  ·rw[Fas,Faw (by rw[Fao,qy];omega),Fao,qy,Fam (by rw[Fbm];omega),Fb3,if_pos (by omega),Cz (by omega),wn,if_pos h2]
  ·rw[Faw (by rw[Fag,Fao,qy,Fbm];omega),Fag,Fao,qy,Fbm,Fcj,show k+m+(i-(min k n+m))=i by omega]
   by_cases h3:i<n
   ·rw[Cz h3,Cz h3,wn,wn,if_neg h1,if_neg h2]
   ·rw[Fbn (by rw[qy];omega),Fbn (by rw[qy];omega)]
theorem ya0(n:Nat)(v:Int):il n (wn v n)=il n λ_=>v:=Lv λt ht=>if_pos ht
def Ks(g:Gnd)(t:Nat):AV:=.agg (il 8 (yd g t))
def Da(g:Gnd)(t i:Nat)(j:Nat):Int:=if j<i then yd g t j else 0
theorem yga(g:Gnd)(t:Nat):il 8 (Da g t 8)=il 8 (yd g t):=Lv λj hj=>if_pos hj
theorem ygb(g:Gnd)(t:Nat)(hi:i<8):yd g t i=Hl g ((t:Int)%g.W) ((t:Int)/g.W) (dirL.getD i (0,0)):=by
 unfold yd Dq
 rw[Fa6,Fap,Fa6,Fab (show i<dirL.length from hi)]
 rfl
theorem yf9(g:Gnd)(t:Nat)(v:Int)(hv:v=yd g t i):setI (Da g t i) i v=Da g t (i+1):=funext λj=>by
 unfold setI Da
 by_cases h:j=i
 ·subst h
  rw[if_pos rfl,if_pos (by omega),hv]
 ·rw[if_neg h]
  by_cases h2:j<i
  ·rw[if_pos h2,if_pos (by omega)]
  ·rw[if_neg h2,if_neg (by omega)]
def dirC:List AV:=(dirL.map Gy).flatten
theorem yef(hi:i<8):dirC.drop (i*2)=Gy (dirL.getD i (0,0))++dirC.drop (i*2+2):=by
 have h:i=0\/i=1\/i=2\/i=3\/i=4\/i=5\/i=6\/i=7:=by omega
 rcases h with rfl|rfl|rfl|rfl|rfl|rfl|rfl|rfl<;>rfl
theorem yee(hi:i<8):(-1<=(dirL.getD i (0,0)).1/\(dirL.getD i (0,0)).1<=1)/\-1<=(dirL.getD i (0,0)).2/\(dirL.getD i (0,0)).2<=1:=by
 have h:i=0\/i=1\/i=2\/i=3\/i=4\/i=5\/i=6\/i=7:=by omega
 rcases h with rfl|rfl|rfl|rfl|rfl|rfl|rfl|rfl<;>decide
end
def H9(g:Gnd)(ok:Nat->Bool)(c:Int)(t i:Nat):Nat->Nat->Int->Prop:=λa u k=>a=t/\∃w,i<=w/\w<8/\yd g t w=(u:Int)/\k=qe g ok c t w
theorem Ww{E:Nat->Nat->Int->Prop}{n goal:Nat}{d:Nat->Int}{dn:Nat->Bool}{q q':List (Int×Int)}{cur:Int}{O:Nat->Nat->Int->Prop}(h:DJ E n goal d dn q cur O)(hp:q.Perm q'):DJ E n goal d dn q' cur O:=
 ⟨h.lab,h.gl,h.pre,h.rel,h.mono,λe he=>h.ent e (hp.mem_iff.2 he),λu hu hn=>hp.mem_iff.1 (h.wait u hu hn)⟩
section
variable {g:Gnd} {ok:Nat->Bool} {c:Int} {n goal:Nat} {d:Nat->Int} {dn:Nat->Bool} {q:List (Int×Int)} {cur:Int}
theorem zbi{t:Nat}(h:DJ (wk g ok c) n goal d dn q cur (λa _ _=>a=t)):DJ (wk g ok c) n goal d dn q cur (H9 g ok c t 0):=
 Wx h λa u k ha hn hE=>by
  obtain⟨_,_,w,hw,h1,_,h2,_⟩:=hE
  subst ha
  exact absurd ⟨rfl,w,Faj _,hw,h1,h2⟩ hn
theorem zbj{t:Nat}(h:DJ (wk g ok c) n goal d dn q cur (H9 g ok c t 8)):DJ (wk g ok c) n goal d dn q cur Hj:=
 Wx h λa u k ha hn hE=>by
  obtain⟨_,w,h1,h2,_⟩:=ha
  omega
theorem Rm{t i:Nat}(h:DJ (wk g ok c) n goal d dn q cur (H9 g ok c t i))(hp:∀u:Nat,yd g t i=u->0<qe g ok c t i->0<=d u/\d u<=d t+qe g ok c t i):DJ (wk g ok c) n goal d dn q cur (H9 g ok c t (i+1)):=
 Wx h λa u k ha hn hE=>by
  obtain⟨rfl,w,h1,h2,h3,rfl⟩:=ha
  by_cases hw:w=i
  ·subst hw
   exact hp u h3 (Ps _ _ _ hE)
  ·exact absurd ⟨rfl,w,by omega,h2,h3,rfl⟩ hn
theorem yd7{O:Nat->Nat->Int->Prop}(h:DJ (wk g ok c) n goal d dn q cur O)(hgoal:ok goal=true){u:Nat}(hu:0<=d u):ok u=true:=by
 by_cases e:u=goal
 ·rw[e];exact hgoal
 ·obtain⟨t,k,_,_,hE,_⟩:=h.pre u e hu
  obtain⟨_,_,_,_,_,h1,_⟩:=hE
  exact h1
end
def Vz:Option (Int×Int)->Int
 |none=>0
 |some x=>x.1
def M4:Option (Int×Int)->Int
 |none=>0
 |some x=>x.2
def qp(S:Store)(b b2 n:Nat)(d:Nat->Int)(dn:Nat->Bool):Store:=(S.sO b (.cells (il n d))).sO b2 (.cells (bl n dn))
section
variable {S:Store} {b b2 n:Nat}
theorem pm(hb:b≠b2)(d:Nat->Int)(dn:Nat->Bool):(qp S b b2 n d dn).obj b=some (.cells (il n d)):=by
 unfold qp
 rw[zg hb,zd]
theorem yct(d:Nat->Int)(dn:Nat->Bool):(qp S b b2 n d dn).obj b2=some (.cells (bl n dn)):=zd _ _ _
theorem ycs{i:Nat}{x:AObj}(hf:Fresh S b)(hf2:Fresh (S.sO b x) b2){y:AObj}(h:S.obj i=some y)(d:Nat->Int)(dn:Nat->Bool):(qp S b b2 n d dn).obj i=some y:=by
 have h1:i≠b:=λe=>by rw[e,hf.1]at h;cases h
 have h2:i≠b2:=λe=>by
  have:=hf2.1
  rw[<-e,zg h1,h]at this;cases this
 unfold qp
 rw[zg h2,zg h1]
 exact h
theorem pk(hb:b≠b2)(d d':Nat->Int)(dn:Nat->Bool):(qp S b b2 n d dn).sO b (.cells (il n d'))=qp S b b2 n d' dn:=by
 unfold qp
 rw[D5 hb,yq]
theorem ycr(d:Nat->Int)(dn dn':Nat->Bool):(qp S b b2 n d dn).sO b2 (.cells (bl n dn'))=qp S b b2 n d dn':=yq _ _ _ _
theorem fld_has{d:Nat->Int}{dn:Nat->Bool}{i:Nat}:(qp S b b2 n d dn).has i↔i=b2\/i=b\/S.has i:=by
 unfold qp
 rw[has_setObj_iff,has_setObj_iff]
theorem ycu{F:Store}{d d':Nat->Int}{dn dn':Nat->Bool}(h:zh F (qp S b b2 n d dn)):zh F (qp S b b2 n d' dn'):=λi h1 h2=>h i h1 (fld_has.2 (fld_has.1 h2))
theorem ycv(hf:Fresh S b){x:AObj}(hf2:Fresh (S.sO b x) b2){F:Store}(hb:b≠b2){d:Nat->Int}{dn:Nat->Bool}:(F.un (qp S b b2 n d dn)).Has (S.sO b (.cells (il n d))):=by
 have hn:(S.sO b (.cells (il n d))).obj b2=none:=by
  have:=hf2.1
  rw[zg (Ne.symm hb)]at this⊢
  exact this
 exact⟨λi y hi=>zf ((Fh hn).obj i y hi),λi y hi=>D2 hi⟩
end
theorem O6(n:Nat)(d:Nat->Int)(u:Nat)(v:Int)(hu:u<n):zu (il n d) (0+u*1) [int v]=il n (yr d u v):=by
 rw[show 0+u*1=u by omega,Gg hu]
 rfl
theorem yf5(n:Nat)(d:Nat->Bool)(u:Nat)(v:Bool)(hu:u<n):zu (bl n d) (0+u*1) [bool v]=bl n (yr d u v):=by
 rw[show 0+u*1=u by omega]
 have:=Fp (f:=d) hu (yr d u v) (λs hs=>jq hs)
 rw[wz]at this
 exact this
theorem O7{n:Nat}{f:Nat->Int}{t:Nat}(h:t<n):((il n f).drop (t*1)).head?=some (int (f t)):=by
 have:=Av (f:=f) h
 rwa [Fbd]at this
theorem zyb(n:Nat)(dn:Nat->Bool):Cp n dn<=n:=by
 have:=Sb (f:=λt=>if dn t=true then 0 else 1) (g:=λ_=>1) n (λt _=>by split<;>omega)
 rw[Sc]at this
 unfold Cp
 omega
def Fi(g:Gnd)(ok:Nat->Bool)(c:Int)(d:Nat->Int)(t w:Nat):Prop:=0<qe g ok c t w/\0<=d (yd g t w).toNat/\qe g ok c t w+d (yd g t w).toNat=d t
theorem yc5{p:Nat->Bool}{n j:Nat}(hj:j<n)(hp:p j=true)(hn:∀w,w<j->p w=false):(List.range n).find? p=some j:=by
 rw[List.find?_range_eq_some]
 exact⟨hp,Fa4.2 hj,λw hw=>by rw[hn w hw];rfl⟩
theorem yc4{p:Nat->Bool}{n:Nat}(hn:∀w,w<n->p w=false):(List.range n).find? p=none:=by
 rw[Fcu]
 intro w hw
 rw[hn w (Fa4.1 hw)]
 decide
section
variable {g:Gnd} {ok:Nat->Bool} {c:Int} {d:Nat->Int} {t:Nat}
theorem zbm(h:d t<=0):xk g ok c d t=-1:=by
 unfold xk
 rw[if_pos h]
theorem zbk(h:¬d t<=0){j:Nat}(hj:j<8)(hp:Fi g ok c d t j)(hn:∀w,w<j->¬Fi g ok c d t w):xk g ok c d t=(j:Int):=by
 unfold xk
 rw[if_neg h,yc5 hj (by exact decide_eq_true hp) (λw hw=>by exact decide_eq_false (hn w hw))]
theorem zbl(h:¬d t<=0)(hn:∀w,w<8->¬Fi g ok c d t w):xk g ok c d t=-1:=by
 unfold xk
 rw[if_neg h,yc4 (λw hw=>by exact decide_eq_false (hn w hw))]
end
theorem zbn(g:Gnd)(ok:Nat->Bool)(c:Int)(d:Nat->Int)(t:Nat):xk g ok c d t=-1\/∃j:Nat,j<8/\xk g ok c d t=(j:Int)/\Fi g ok c d t j:=by
 unfold xk
 split
 ·exact .inl rfl
 ·cases h:(List.range 8).find? λway=>decide (0<qe g ok c t way/\0<=d (yd g t way).toNat/\qe g ok c t way+d (yd g t way).toNat=d t)with
  |none=>exact .inl rfl
  |some j=>
   have h1:=Fc6 h
   have h2:=Feg h
   exact .inr ⟨j,Fa4.1 h1,rfl,by simp only[decide_eq_true_eq]at h2;exact h2⟩
noncomputable def wl(g:Gnd)(ok:Nat->Bool)(c:Int)(d:Nat->Int)(i t:Nat):Int:=if t<i then xk g ok c d t else -1
theorem cw{g:Gnd}{ok:Nat->Bool}{c:Int}{d:Nat->Int}{i:Nat}:wl g ok c d (i+1)=yr (wl g ok c d i) i (xk g ok c d i):=funext λt=>by
 unfold wl yr
 dsimp only
 by_cases h:t=i
 ·subst h;rw[if_pos (by omega),if_pos rfl]
 ·rw[if_neg h]
  by_cases h2:t<i
  ·rw[if_pos h2,if_pos (by omega)]
  ·rw[if_neg h2,if_neg (by omega)]
theorem cu{g:Gnd}{ok:Nat->Bool}{c:Int}{d:Nat->Int}{i:Nat}(h:xk g ok c d i=-1):wl g ok c d (i+1)=wl g ok c d i:=by
 rw[cw,h]
 funext t
 unfold yr wl
 by_cases h:t=i
 ·subst h;rw[if_pos rfl,if_neg (by omega)]
 ·rw[if_neg h]
theorem zbg(g:Gnd)(ok:Nat->Bool)(c:Int)(d:Nat->Int):wl g ok c d 0=λ_=>-1:=funext λt=>if_neg (Fbf t)
theorem zbh(g:Gnd)(ok:Nat->Bool)(c:Int)(d:Nat->Int)(n:Nat):il n (wl g ok c d n)=il n (xk g ok c d):=Lv λt ht=>if_pos ht
def ki(S:Store)(b b2 n:Nat)(d f:Nat->Int):Store:=(S.sO b (.cells (il n d))).sO b2 (.cells (il n f))
section
variable {S:Store} {b b2 n:Nat}
theorem zco(hb:b≠b2)(d f:Nat->Int):(ki S b b2 n d f).obj b=some (.cells (il n d)):=by
 unfold ki
 rw[zg hb,zd]
theorem zcn(d f:Nat->Int):(ki S b b2 n d f).obj b2=some (.cells (il n f)):=zd _ _ _
theorem zcl{i:Nat}{x:AObj}(hf:Fresh S b)(hf2:Fresh (S.sO b x) b2){y:AObj}(h:S.obj i=some y)(d f:Nat->Int):(ki S b b2 n d f).obj i=some y:=by
 have h1:i≠b:=λe=>by rw[e,hf.1]at h;cases h
 have h2:i≠b2:=λe=>by
  have:=hf2.1
  rw[<-e,zg h1,h]at this;cases this
 unfold ki
 rw[zg h2,zg h1]
 exact h
theorem zck(d f f':Nat->Int):(ki S b b2 n d f).sO b2 (.cells (il n f'))=ki S b b2 n d f':=yq _ _ _ _
theorem zcm{x:AObj}(hb:b≠b2)(hf2:Fresh (S.sO b x) b2):Fresh S b2:=by
 have:=hf2
 unfold Fresh at this⊢
 rw[zg (Ne.symm hb)]at this
 exact this
theorem zcp(hf:Fresh S b)(hb:b≠b2)(d f:Nat->Int):(ki S b b2 n d f).Has (S.sO b2 (.cells (il n f))):=by
 unfold ki
 rw[D5 (Ne.symm hb)]
 refine Fh ?_
 rw[zg hb]
 exact hf.1
end
theorem zyt(g:Gnd)(t:Nat):Dq g t=(List.range 8).map (yd g t):=by
 apply Fdr
 ·rw[Ol,Faq,Fdj]
 ·intro i h1 h2
  rw[Ol]at h1
  simp only[Fbx,List.getElem_range]
  unfold yd
  rw[Fa6,Fab (by rw[Ol];exact h1)]
  rfl
theorem zyv(g:Gnd)(t:Nat)(x:Int):(Dq g t).contains x=(List.range 8).any λj=>yd g t j==x:=by
 rw[zyt,List.contains_eq_any_beq,List.any_map]
 congr 1
 funext j
 show(x==yd g t j)=_
 rw[Fbr,beq_iff_eq,beq_iff_eq]
 exact eq_comm
theorem ygz{p:Nat->Bool}{n k:Nat}(hk:k<n)(hp:p k=true):(List.range n).any p=true:=Fcl.2 ⟨k,Fa4.2 hk,hp⟩
theorem ygy{p:Nat->Bool}{n:Nat}(hp:∀k,k<n->p k=false):(List.range n).any p=false:=by
 rw[Fdm]
 intro k hk
 rw[hp k (Fa4.1 hk)]
 decide
end Go.V
