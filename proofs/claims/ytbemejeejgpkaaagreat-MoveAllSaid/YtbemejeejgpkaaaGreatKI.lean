/- The ground on which laws of thronglaw24 are proved: contracts of functions and plain lemmas; no condition beyond the row's own. -/
import Derived.Test.YtbemejeejgpkaaaGreatKF
import Derived.Test.YtbemejeejgpkaaaGreatKE
import Derived.Test.YtbemejeejgpkaaaGreatKD
import Derived.Test.YtbemejeejgpkaaaGreatKA
set_option linter.unusedSimpArgs false
set_option linter.unusedVariables false
namespace Go.V
def za7(v:Vc):Prop:=(-1099511627776<=v.1/\v.1<=1099511627776)/\(-1099511627776<=v.2/\v.2<=1099511627776)
theorem qn{v:Vc}(h:za7 v):ji v:=by unfold za7 at h;unfold ji;omega
theorem zqs{v:Vc}(h:za7 v):v.ok:=by
 unfold za7 at h
 exact⟨⟨by omega,by omega⟩,⟨by omega,by omega⟩⟩
theorem zan{p q:Vc}(hp:mapV p)(hq:mapV q):za7 (vsub q p):=by
 rw[(zhi hp hq).1]
 unfold mapV at hp hq
 unfold za7
 dsimp only
 omega
theorem zo5{w:Wld}{u:Unt}(hu:mapV u.pos)(h:∀x∈w.U,x.inn=0->mapV x.pos)(hl:w.U.length<=4096):za7 (zcu w u):=by
 have key:∀(l:List Unt) (v:Vc) (B:Nat),(∀x∈l,x.inn=0->mapV x.pos)->B+l.length<=4096->(v.1.natAbs<=B*16777216/\v.2.natAbs<=B*16777216)->
   za7 (l.foldl (fun v x=>if x.inn=0/\x.id≠u.id then vadd v (we u.pos (kRad u.kind+kRad x.kind+16384) x.pos)else v) v):=by
  intro l
  induction l with
  |nil=>
   intro v B _ hB hv
   unfold za7
   simp only[List.length_nil]at hB
   simp only[List.foldl_nil]
   omega
  |cons x l ih=>
   intro v B hx hB hv
   simp only[List.length_cons]at hB
   rw[List.foldl_cons]
   refine ih _ (B+1) (fun y hy=>hx y (List.mem_cons_of_mem _ hy)) (by omega) ?_
   split
   ·rename_i hc
    have r1:=zq8 u.kind
    have r2:=zq8 x.kind
    have:=zc8 hu (hx x List.mem_cons_self hc.1) (r:=kRad u.kind+kRad x.kind+16384) (by omega)
    generalize we u.pos (kRad u.kind+kRad x.kind+16384) x.pos=z at*
    have e:vadd v z=(v.1+z.1,v.2+z.2):=by
     unfold vadd
     rw[vj (by omega) (by omega),vj (by omega) (by omega)]
    rw[e]
    dsimp only
    omega
   ·exact⟨Nat.le_trans hv.1 (Nat.mul_le_mul_right _ (Nat.le_succ B)),Nat.le_trans hv.2 (Nat.mul_le_mul_right _ (Nat.le_succ B))⟩
 unfold zcu
 refine key w.U (0,0) 0 h (by omega) ⟨?_,?_⟩
 ·show(0:Int).natAbs<=_;simp
 ·show(0:Int).natAbs<=_;simp
theorem yue{A b t:Int}(hb:0<b)(h0:0<=t)(h:2*(A%b)+t<b):(2*A+t)/b=2*(A/b)/\(2*A+t)%b=2*(A%b)+t:=by
 have h1:=Int.emod_nonneg A (show b≠0 by omega)
 have e:2*A+t=(2*(A%b)+t)+b*(2*(A/b)):=by
  have:=Int.mul_ediv_add_emod A b
  have e2:b*(2*(A/b))=2*(b*(A/b)):=by rw[Int.mul_left_comm]
  rw[e2]
  omega
 rw[e,Int.add_mul_ediv_left _ _ (by omega),Int.add_mul_emod_self_left]
 rw[Int.ediv_eq_zero_of_lt (by omega) h,Int.emod_eq_of_lt (by omega) h]
 omega
theorem yuf{A b t:Int}(hb:0<b)(h0:0<=t)(ht:t<=1)(h:b<=2*(A%b)+t):(2*A+t)/b=2*(A/b)+1/\(2*A+t)%b=2*(A%b)+t-b:=by
 have h1:=Int.emod_nonneg A (show b≠0 by omega)
 have h2:=Int.emod_lt_of_pos A hb
 have e:2*A+t=(2*(A%b)+t-b)+b*(2*(A/b)+1):=by
  have:=Int.mul_ediv_add_emod A b
  have e2:b*(2*(A/b)+1)=2*(b*(A/b))+b:=by rw[Int.mul_add,Int.mul_left_comm,Int.mul_one]
  rw[e2]
  omega
 rw[e,Int.add_mul_ediv_left _ _ (by omega),Int.add_mul_emod_self_left]
 rw[Int.ediv_eq_zero_of_lt (by omega) (by omega),Int.emod_eq_of_lt (by omega) (by omega)]
 omega
theorem yns{x:Int}(h0:0<=x)(h1:x<18446744073709551616):q9 .and .u64 x 1=x%2:=by
 obtain⟨n,rfl⟩:=Int.eq_ofNat_of_zero_le h0
 have key:(BitVec.ofInt 64 (n:Int) &&& BitVec.ofInt 64 1).toNat=n%2:=by
  have e1:BitVec.ofInt 64 (n:Int)=BitVec.ofNat 64 n:=by simp
  have e2:BitVec.ofInt 64 1=BitVec.ofNat 64 1:=rfl
  rw[e1,e2,BitVec.toNat_and,BitVec.toNat_ofNat,BitVec.toNat_ofNat,Nat.mod_eq_of_lt (by omega)]
  show n &&& 1=_
  exact Nat.and_one_is_mod n
 show IntKind.u64.wrap ((BitVec.ofInt 64 (n:Int) &&& BitVec.ofInt 64 1).toNat:Int)=_
 rw[key,ye (by omega) (by omega)]
 omega
end Go.V
namespace Go.V
theorem zpr:∀{a b:List Unt},(a.map (·.id)).Pairwise (·<·)->(b.map (·.id)).Pairwise (·<·)->(∀u,u∈a↔u∈b)->a=b
 |[],[],_,_,_=>rfl
 |[],y::b,_,_,h=>absurd ((h y).2 List.mem_cons_self) (by simp)
 |x::a,[],_,_,h=>absurd ((h x).1 List.mem_cons_self) (by simp)
 |x::a,y::b,ha,hb,h=>by
  rw[List.map_cons,List.pairwise_cons]at ha hb
  have hx:=(h x).1 List.mem_cons_self
  have hy:=(h y).2 List.mem_cons_self
  have e:x=y:=by
   rcases List.mem_cons.1 hx with e|hx
   ·exact e
   ·rcases List.mem_cons.1 hy with e|hy
    ·exact e.symm
    ·have h1:=hb.1 _ (List.mem_map.2 ⟨x,hx,rfl⟩)
     have h2:=ha.1 _ (List.mem_map.2 ⟨y,hy,rfl⟩)
     omega
  subst e
  refine congrArg _ (zpr ha.2 hb.2 fun u=>⟨fun hu=>?_,fun hu=>?_⟩)
  ·rcases List.mem_cons.1 ((h u).1 (List.mem_cons_of_mem _ hu))with e|e
   ·have:=ha.1 _ (List.mem_map.2 ⟨u,hu,rfl⟩)
    rw[e]at this
    omega
   ·exact e
  ·rcases List.mem_cons.1 ((h u).2 (List.mem_cons_of_mem _ hu))with e|e
   ·have:=hb.1 _ (List.mem_map.2 ⟨u,hu,rfl⟩)
    rw[e]at this
    omega
   ·exact e
def nV(v:Vc):Prop:=(-9223372036854775807<=v.1/\v.1<=9223372036854775807)/\(-9223372036854775807<=v.2/\v.2<=9223372036854775807)
theorem yn9(a b:Vc):nV (vadd a b):=⟨zi5 _ _,zi5 _ _⟩
theorem ymp{v:Vc}(h:nV v):v.ok:=by
 unfold nV at h
 exact⟨⟨by omega,by omega⟩,⟨by omega,by omega⟩⟩
theorem zpq{a:Int}(h:-9223372036854775807<=a/\a<=9223372036854775807):fadd a 0=a:=by
 unfold fadd
 rw[xz (by omega),xz (by omega)]
 unfold vr
 split
 ·omega
 ·split<;>omega
theorem zx6{v:Vc}(h:nV v):vadd v (0,0)=v:=by
 unfold vadd
 rw[zpq h.1,zpq h.2]
def xo(u:Unt)(v:Vc)(x:Unt):Vc:=if x.id≠u.id then vadd v (we u.pos (kRad u.kind+kRad x.kind+16384) x.pos)else v
theorem yaf{u x:Unt}{v:Vc}(h:nV v):nV (xo u v x):=by
 unfold xo
 split
 ·exact yn9 _ _
 ·exact h
theorem zot{u:Unt}:∀(l:List Unt) {v:Vc},nV v->nV (l.foldl (xo u) v)
 |[],_,h=>h
 |x::l,_,h=>zot l (yaf h)
theorem ymf{p q:Vc}{r:Int}(h:near p q r=false):we p r q=(0,0):=by
 unfold we
 rw[h]
 simp
theorem zez(u:Unt)(r:Int)(hr:∀k,kRad u.kind+kRad k+16384<=r):∀(l:List Unt) (v:Vc),nV v->
  l.foldl (fun v x=>if x.inn=0/\x.id≠u.id then vadd v (we u.pos (kRad u.kind+kRad x.kind+16384) x.pos)else v) v=(l.filter fun x=>decide (x.inn=0)&&near u.pos x.pos r).foldl (xo u) v
 |[],v,_=>rfl
 |x::l,v,h=>by
  rw[List.foldl_cons,List.filter_cons]
  by_cases h0:x.inn=0
  ·cases hn:near u.pos x.pos r with
   |true=>
    simp only[h0,decide_true,Bool.and_self,if_true,List.foldl_cons,true_and]
    exact zez u r hr l _ (yaf h)
   |false=>
    have hf:near u.pos x.pos (kRad u.kind+kRad x.kind+16384)=false:=by
     cases hc:near u.pos x.pos (kRad u.kind+kRad x.kind+16384)with
     |false=>rfl
     |true=>rw[zor (hr x.kind) hc]at hn;cases hn
    simp only[h0,decide_true,Bool.and_false,Bool.false_eq_true,if_false,true_and]
    rw[ymf hf,zx6 h,ite_self]
    exact zez u r hr l _ h
  ·simp only[h0,decide_false,Bool.false_and,Bool.false_eq_true,if_false,false_and]
   exact zez u r hr l _ h
theorem ysn{w:Wld}{u:Unt}(hr:yh w.U){us:List Unt}(hn:zrj w u.pos (kRad u.kind+16384+81920) us)(hs:(us.map (·.id)).Pairwise (·<·)):zcu w u=us.foldl (xo u) (0,0):=by
 unfold zcu
 rw[zez u (kRad u.kind+16384+81920) (fun k=>by have:=(zb5 k).2;omega) w.U (0,0) ⟨⟨by decide,by decide⟩,⟨by decide,by decide⟩⟩]
 congr 1
 refine zpr ?_ hs fun x=>?_
 ·have:(w.U.map (·.id)).Pairwise (·<·):=by
   rw[List.pairwise_iff_getElem]
   intro i j hi hj hij
   rw[List.length_map]at hi hj
   simp only[List.getElem_map]
   exact je hr hij hj
  exact this.sublist (List.filter_sublist.map _)
 ·rw[List.mem_filter,hn x,Bool.and_eq_true,decide_eq_true_iff]
  constructor
  ·rintro⟨h1,h2,h3⟩;exact⟨⟨h1,h2⟩,h3⟩
  ·rintro⟨⟨h1,h2⟩,h3⟩;exact⟨h1,h2,h3⟩
theorem ya9{v:Vc}(h:nV v)(k:Nat):nV (wj v k):=by
 obtain⟨h1,h2⟩:=h
 have e1:=zub v.1 k
 have e2:=zub v.2 k
 unfold nV wj
 dsimp only
 omega
theorem ynx{v:Vc}(h:v.ok):nV (vnrm v):=by
 obtain⟨h1,h2⟩:=h
 have e1:=za2 h1
 have e2:=za2 h2
 unfold nV vnrm
 dsimp only
 omega
theorem zyi{w:Wld}{u:Unt}{v:Vc}{n k:Nat}(h0:wj v k≠(0,0))(hc:¬yv w u.id u.kind (vadd u.pos (wj v k))):tryL w u v (n+1) k=tryL w u v n (k+1):=by
 show(if _ then _ else if _ then _ else _)=_
 rw[if_neg h0,if_neg hc]
theorem zyg{w:Wld}{u:Unt}{v:Vc}{n k:Nat}(h0:wj v k=(0,0)):tryL w u v (n+1) k=none:=by
 show(if _ then _ else if _ then _ else _)=_
 rw[if_pos h0]
theorem zyh{w:Wld}{u:Unt}{v:Vc}{n k:Nat}(h0:wj v k≠(0,0))(hc:yv w u.id u.kind (vadd u.pos (wj v k))):tryL w u v (n+1) k=some (k,vadd u.pos (wj v k)):=by
 show(if _ then _ else if _ then _ else _)=_
 rw[if_neg h0,if_pos hc]
theorem zyu{k:Nat}(hk:k<5):IntKind.i64.wrap (1*2^(min ((k:Int)).toNat IntKind.i64.bits))=((2^k:Nat):Int):=by
 have:k=0\/k=1\/k=2\/k=3\/k=4:=by omega
 rcases this with rfl|rfl|rfl|rfl|rfl<;>decide
end Go.V
namespace Go.V
theorem zyk{w:Wld}{u:Unt}{v:Vc}:∀(n k:Nat) {r:Nat×Vc},tryL w u v n k=some r->k<=r.1/\r.1<k+n:=by
 intro n
 induction n with
 |zero=>intro k r h;cases h
 |succ n ih=>
  intro k r h
  unfold tryL at h
  split at h
  ·cases h
  ·split at h
   ·cases h;exact⟨Nat.le_refl _,by dsimp only;omega⟩
   ·have:=ih (k+1) h;omega
def zqr(w:Wld)(u:Unt)(v:Vc)(k:Nat):Prop:=tryL w u v 5 0=tryL w u v (5-k) k
theorem zkb{w:Wld}{u:Unt}{v:Vc}{k:Nat}(h:zqr w u v k)(h2:k<5->wj v k=(0,0))(hk:k<=5):tryL w u v 5 0=none:=by
 rw[h]
 by_cases h5:k<5
 ·rw[show 5-k=(4-k)+1 by omega]
  unfold tryL
  rw[if_pos (h2 h5)]
 ·rw[show 5-k=0 by omega]
  rfl
theorem zu4{w:Wld}{u:Unt}{v:Vc}{k:Nat}(h:zqr w u v k)(hk:k<5)(h1:wj v k≠(0,0))(h2:yv w u.id u.kind (vadd u.pos (wj v k))):tryL w u v 5 0=some (k,vadd u.pos (wj v k)):=by
 rw[h,show 5-k=(4-k)+1 by omega]
 unfold tryL
 rw[if_neg h1,if_pos h2]
theorem zu5{w:Wld}{u:Unt}{v:Vc}{k:Nat}(h:zqr w u v k)(hk:k<5)(h1:wj v k≠(0,0))(h2:¬yv w u.id u.kind (vadd u.pos (wj v k))):zqr w u v (k+1):=by
 unfold zqr
 rw[h,show 5-k=(5-(k+1))+1 by omega]
 conv=>lhs;unfold tryL
 rw[if_neg h1,if_neg h2]
theorem zeb{w:Wld}{u:Unt}{v:Vc}(h:tryL w u (vnrm v) 5 0=none):tryK w u v=5/\tryW w u v=w:=by
 unfold tryK tryW
 rw[h]
 exact⟨rfl,rfl⟩
theorem zhr{w:Wld}{u:Unt}{v:Vc}{k:Nat}{p:Vc}(h:tryL w u (vnrm v) 5 0=some (k,p)):tryK w u v=k/\tryW w u v=putU w {u with pos:=p}:=by
 unfold tryK tryW
 rw[h]
 exact⟨rfl,rfl⟩
theorem yda(w:Wld)(u:Unt):tryK w u (0,0)=5/\tryW w u (0,0)=w:=zeb (by
 have:wj (vnrm (0,0)) 0=(0,0):=by decide
 unfold tryL
 rw[if_pos this])
end Go.V
namespace Go.V
def atD(d:List Int)(u:Nat):Int:=d.getD u (-1)
def zug(g:Gnd)(ok:Nat->Bool)(c:Int)(goal:Nat)(d:List Int):Bool:=
 decide (d.length=g.T.length)&&d.all (fun x=>decide (x=-1\/0<=x))&&decide (atD d goal=0)&&
 (List.range g.T.length).all (fun u=>decide (u=goal)||decide (atD d u<0)||(ok u&&(List.range g.T.length).any fun t=>ok t&&decide (0<=atD d t)&&(List.range 8).any fun way=>
  decide (besN g t way=u)&&decide (0<y9 g ok c t way)&&decide (atD d t+y9 g ok c t way<=atD d u)))&&
 (List.range g.T.length).all (fun t=>decide (atD d t<0)|| !ok t||(List.range 8).all fun way=>decide (y9 g ok c t way<=0)||
  (decide (0<=atD d (besN g t way).toNat)&&decide (atD d (besN g t way).toNat<=atD d t+y9 g ok c t way)))
theorem ybv{g:Gnd}{ok:Nat->Bool}{c:Int}{goal:Nat}{d:List Int}(h:zug g ok c goal d=true):FarOK (j7 g ok c) goal (atD d):=by
 unfold zug at h
 simp only[Bool.and_eq_true,decide_eq_true_eq,List.all_eq_true,List.any_eq_true,Bool.or_eq_true,Bool.not_eq_true',List.mem_range]at h
 obtain⟨⟨⟨⟨h1,h2⟩,h3⟩,h4⟩,h5⟩:=h
 have out:∀u,g.T.length<=u->atD d u=-1:=fun u hu=>by
  unfold atD
  rw[List.getD_eq_getElem?_getD,List.getElem?_eq_none (by omega)]
  rfl
 refine⟨fun u=>?_,h3,fun u hu hl=>?_,fun t u k ht hE=>?_⟩
 ·by_cases hu:u<g.T.length
  ·have hd:u<d.length:=by omega
   have:atD d u=d[u]:=by unfold atD;rw[List.getD_eq_getElem?_getD,List.getElem?_eq_getElem hd];rfl
   rw[this]
   exact h2 _ (List.getElem_mem hd)
  ·exact .inl (out u (by omega))
 ·have hun:u<g.T.length:=by
   apply Decidable.byContradiction
   intro hx
   rw[out u (by omega)]at hl
   omega
  rcases h4 u hun with(h6|h6)|⟨h6,t,htn,⟨h7,h8⟩,way,hw,⟨h9,h10⟩,h11⟩
  ·exact absurd h6 hu
  ·omega
  ·exact⟨t,y9 g ok c t way,h8,⟨h7,htn,way,hw,h9,h6,rfl,h10⟩,h11⟩
 ·obtain⟨hok,htn,way,hw,hb,hok2,hk,hp⟩:=hE
  rcases h5 t htn with(h6|h6)|h6
  ·omega
  ·rw[hok]at h6;cases h6
  ·rcases h6 way hw with h7|⟨h7,h8⟩
   ·omega
   ·rw[hb,Int.toNat_natCast]at h7 h8
    rw[hk]
    exact⟨h7,h8⟩
theorem yna{g:Gnd}{ok:Nat->Bool}{c:Int}{goal:Nat}(hok:ok goal=true){d:List Int}(h:zug g ok c goal d=true):farF g ok c goal=atD d:=zr5 hok (ybv h)
def ytz(w:Wld)(u:Unt)(own:Nat)(d:Nat->Int):Int:=
 if u.pos≠cenV w.G own then own else
  (let way:=if d own<=0 then -1 else match(List.range 8).find? fun way=>decide (0<y9 w.G (okU w u) (kCls u.kind) own way/\0<=d (besN w.G own way).toNat/\y9 w.G (okU w u) (kCls u.kind) own way+d (besN w.G own way).toNat=d own)with
   |some way=>(way:Int)
   |none=>-1
   if way<0 then -1 else besN w.G own way.toNat)
def yux(w:Wld)(u:Unt)(d:Nat->Int):Wld:=
 if u.pos=cenV w.G u.goal.toNat then putU w (endU 2 u)
 else if xq w u (ql w.G u.pos)then
  (if ytz w u (ql w.G u.pos) d<0 then putU w (endU 3 u)else ww w {u with next:=ytz w u (ql w.G u.pos) d})
 else ww w u
def ytb(w:Wld)(u:Unt)(d:Nat->Int):Wld:=if u.goal=-1 then zg3 w u else yux w u d
theorem yta{w:Wld}{u:Unt}{d:Nat->Int}(h:farF w.G (okU w u) (kCls u.kind) u.goal.toNat=d):j9 w u=ytb w u d:=by
 subst h
 rfl
end Go.V
namespace Go.V
def wkG:Gnd:=⟨2,1,[0,0]⟩
def wkW0:Wld:={tick:=0,players:=1,next:=2,G:=wkG,B:=[],U:=[{id:=1,owner:=1,kind:=0,pos:=(32768,32768),goal:=1,next:=-1,stuck:=0,inn:=0,state:=1}]}
def wkD:List Int:=[20,0]
def unt1:Unt:={id:=0,owner:=0,kind:=0,pos:=(0,0),goal:=0,next:=0,stuck:=0,inn:=0,state:=0}
def oneU(w:Wld):Unt:=w.U.headD unt1
def wkS:Nat->Wld
 |0=>wkW0
 |n+1=>ytb (wkS n) (oneU (wkS n)) (atD wkD)
theorem zsw:∀n,n<6->mayP (wkS n):=by decide+kernel
theorem zgc:∀n,n<6->(wkS n).U=[oneU (wkS n)]/\(oneU (wkS n)).id=1/\(oneU (wkS n)).inn=0/\(wkS n).G=wkG/\(wkS n).B=[]:=by decide+kernel
theorem ys6:∀n,n<5->okU (wkS n) (oneU (wkS n)) (oneU (wkS n)).goal.toNat=true/\zug (wkS n).G (okU (wkS n) (oneU (wkS n))) (kCls (oneU (wkS n)).kind) (oneU (wkS n)).goal.toNat wkD=true:=by decide+kernel
theorem ys7:(oneU (wkS 5)).pos=cenV wkG 1/\(oneU (wkS 5)).state=2:=by decide+kernel
theorem ys8:cenV wkG 0=(32768,32768):=by decide+kernel
theorem yoj{n:Nat}(hn:n<5):j9 (wkS n) (oneU (wkS n))=wkS (n+1):=by
 obtain⟨h1,h2⟩:=ys6 n hn
 exact yta (yna h1 h2)
theorem ynv:gndP wkG:=by decide+kernel
end Go.V
namespace Go.V
theorem AWp.freezeBx{P:Program}{c:Cfg}{code:Code}{Q:Exit->Fr->Store->Prop}{A:Fr}{st:Store}{d j b n cap k:Nat}{l:List AV}{rows:List (List AV)}{pad:List AV}
    (hA:A.bx d=some l) (hl:l[j]?=some (.s (.slice (some ⟨b,0,none⟩) n cap))) (ho:st.obj b=some (.cells (rows.flatten++pad))) (ht:st.tok b=none) (hn:rows.length=n) (hcap:n<=cap)
    (hk:∀row∈rows,row.length=k) (hall:∀row∈rows,∀x∈row,∃v,x=AV.s v/\yd v=true)
    (h:AWp P c code Q (A.setBx d (l.set j (.lst k rows none))) (st.delObj b)):AWp P c code Q A st:=by
  refine⟨fun Oth M a w ⟨β,sim⟩=>?_⟩
  have hs:∀b' o,((M b' o/\b'≠b)\/Oth b' o)->(M b' o\/Oth b' o):=fun _ _ h=>h.imp (·.1) id
  have hbd:β d≠b:=sim.sep d b (fun e=>by rw[hA]at e;cases e) (.inl (by rw[ho];simp))
  obtain⟨hcell,hM⟩:=sim.sto.obj b _ ho
  have sim':SimB c.N Oth β (A.setBx d (l.set j (.lst k rows none))) (st.delObj b) (fun b' o=>M b' o/\b'≠b) a w:=by
    refine{tsz:=sim.tsz,dfr:=sim.dfr.sub fun _ _ h=>h.1,tm:=fun i=>?_,bx:=fun q l' hq=>?_,inj:=fun q q' h1 h2=>?_,sep:=fun q b' hq hb'=>?_,sto:=?_}
    · have h1:=sim.tm i
      show LRel w _ β (A.t i) _
      generalize A.t i=x at h1
      cases x with
      |any=>trivial
      |und=>exact h1
      |av x=>exact VRel.mono hs h1
      |bx k off=>exact h1
    · have hq2:(bif Nat.beq q d then some (l.set j (.lst k rows none))else A.bx q)=some l':=hq
      clear hq
      cases hb:Nat.beq q d with
      | true=>
        rw[hb]at hq2
        have hqd:=(yx _ _).1 hb
        subst hqd
        have hq3:l.set j (.lst k rows none)=l':=Option.some.inj hq2
        subst hq3
        obtain⟨⟨cs,e,fr,h1,h2,h3,h4⟩,h5⟩:=sim.bx q l hA
        refine⟨⟨cs,e,fr,h1,h2,by rw[List.length_set];exact h3,fun i x y hx hy=>?_⟩,fun o=>⟨h5 o,hbd⟩⟩
        rw[List.getElem?_set]at hx
        by_cases e9:j=i
        · subst e9
          rw[if_pos rfl]at hx
          have hjl:=(List.getElem?_eq_some_iff.1 hl).1
          rw[if_pos hjl]at hx
          have hx:=Option.some.inj hx
          subst hx
          have h6:=h4 j _ y hl hy
          cases h6
          exact zlh hcell (fun o hT=>hT.elim (fun q=>q.2 rfl) (fun q=>sim.sto.dis _ _ q (hM o))) hn hcap hk hall
        · rw[if_neg e9]at hx
          exact(h4 i x y hx hy).mono hs
      | false=>
        rw[hb]at hq2
        have hqb:β q≠b:=sim.sep q b (fun e=>by rw[show A.bx q=some l' from hq2]at e;cases e) (.inl (by rw[ho];simp))
        obtain⟨⟨cs,e,fr,h1,h2,h3,h4⟩,h5⟩:=sim.bx q l' hq2
        exact⟨⟨cs,e,fr,h1,h2,h3,fun i x y hx hy=>(h4 i x y hx hy).mono hs⟩,fun o=>⟨h5 o,hqb⟩⟩
    · refine sim.inj q q' (fun e=>?_) (fun e=>?_)
      · refine h1 ?_
        show(bif Nat.beq q d then some (l.set j (.lst k rows none))else A.bx q)=none
        cases hb:Nat.beq q d with
        | true=>
          have:=(yx _ _).1 hb
          subst this
          rw[hA]at e;cases e
        |false=>exact e
      · refine h2 ?_
        show(bif Nat.beq q' d then some (l.set j (.lst k rows none))else A.bx q')=none
        cases hb:Nat.beq q' d with
        | true=>
          have:=(yx _ _).1 hb
          subst this
          rw[hA]at e;cases e
        |false=>exact e
    · refine sim.sep q b' (fun e=>?_) ?_
      · refine hq ?_
        show(bif Nat.beq q d then some (l.set j (.lst k rows none))else A.bx q)=none
        cases hb:Nat.beq q d with
        | true=>
          have:=(yx _ _).1 hb
          subst this
          rw[hA]at e;cases e
        |false=>exact e
      · rcases hb' with hb'|hb'
        · cases hx:(st.delObj b).obj b' with
          |none=>exact absurd hx hb'
          |some y=>exact .inl (by rw[(qt hx).2];simp)
        · exact .inr hb'
    · exact { obj:=fun b' y hy=>⟨(sim.sto.obj b' y (qt hy).2).1.mono hs,fun o=>⟨(sim.sto.obj b' y (qt hy).2).2 o,(qt hy).1⟩⟩
              tok:=fun b' top htk=>by
                obtain⟨c,e,fr,h1,h2,h3,h4⟩:=sim.sto.tok b' top htk
                exact⟨c,e,fr,h1,h2,h3,fun o ho=>⟨h4 o ho,fun e=>by subst e;rw[show st.tok b'=some top from htk]at ht;cases ht⟩⟩
              mlt:=fun b' o hm=>sim.sto.mlt b' o hm.1,olt:=sim.sto.olt,dis:=fun b' o ho hm=>sim.sto.dis b' o ho hm.1}
  refine Code.wpF_mono ?_ (h.out Oth _ a w ⟨β,sim'⟩)
  rintro e a' w' ⟨A',st',M',h1,h2,h3⟩
  exact⟨A',st',M',h1,h2,{size:=h3.size,keep:=fun b' o hb hm=>h3.keep b' o hb fun h=>hm h.1,blk:=fun b' hb hm=>h3.blk b' hb fun o h=>hm o h.1,shp:=h3.shp,sub:=fun b' o hm hb=>(h3.sub b' o hm hb).1,tape:=h3.tape,os:=h3.os,output:=h3.output}⟩
end Go.V
namespace Go.V
def sumN:Nat->(Nat->Nat)->Nat
 |0,_=>0
 |n+1,f=>sumN n f+f n
theorem zfk{f g:Nat->Nat}:∀n,(∀t,t<n->f t=g t)->sumN n f=sumN n g
 |0,_=>rfl
 |n+1,h=>by
  show sumN n f+f n=sumN n g+g n
  rw[zfk n (fun t ht=>h t (by omega)),h n (by omega)]
theorem zlx{f g:Nat->Nat}:∀n,(∀t,t<n->f t<=g t)->sumN n f<=sumN n g
 |0,_=>Nat.le_refl _
 |n+1,h=>by
  show sumN n f+f n<=sumN n g+g n
  have:=zlx n (fun t ht=>h t (by omega))
  have:=h n (by omega)
  omega
theorem zc2(c:Nat):∀n,sumN n (fun _=>c)=n*c
 |0=>by simp[sumN]
 |n+1=>by
  show sumN n (fun _=>c)+c=_
  rw[zc2 c n,Nat.succ_mul]
theorem zfl{f g:Nat->Nat}{u:Nat}:∀n,u<n->(∀t,t<n->t≠u->f t=g t)->sumN n f+g u=sumN n g+f u
 |0,hu,_=>by omega
 |n+1,hu,h=>by
  show sumN n f+f n+g u=sumN n g+g n+f u
  by_cases e:u=n
  ·subst e
   rw[zfk u (fun t ht=>h t (by omega) (by omega))]
   omega
  ·have:=zfl (f:=f) (g:=g) n (by omega) (fun t ht hne=>h t (by omega) hne)
   have:=h n (by omega) (Ne.symm e)
   omega
def zht(n:Nat)(d:Nat->Int):Nat:=sumN n fun t=>if 0<=d t then 1 else 0
theorem yos(n:Nat)(d:Nat->Int):zht n d<=n:=by
 have:=zlx (f:=fun t=>if 0<=d t then 1 else 0) (g:=fun _=>1) n (fun t _=>by split<;>omega)
 rw[zc2]at this
 unfold zht
 omega
theorem ydc{n:Nat}{d:Nat->Int}{u:Nat}(hu:u<n)(h:d u<0){x:Int}(hx:0<=x):zht n (updN d u x)=zht n d+1:=by
 have:=zfl (f:=fun t=>if 0<=updN d u x t then 1 else 0) (g:=fun t=>if 0<=d t then 1 else 0) n hu (fun t _ hne=>by simp only[yf hne])
 simp only[z7,if_pos hx,if_neg (show¬0<=d u by omega)]at this
 unfold zht
 omega
theorem ydb{n:Nat}{d:Nat->Int}{u:Nat}(h:0<=d u){x:Int}(hx:0<=x):zht n (updN d u x)=zht n d:=by
 unfold zht
 refine zfk n fun t _=>?_
 by_cases e:t=u
 ·subst e;rw[z7,if_pos hx,if_pos h]
 ·rw[yf e]
def zja(n:Nat)(d:Nat->Int):Prop:=∀t,d t<=84*(zht n d:Int)-84\/d t<0
theorem zlb{n goal:Nat}(hg:goal<n){d:Nat->Int}(hd:∀u,d u=if u=goal then 0 else -1):zja n d:=by
 intro t
 have h1:1<=zht n d:=by
  have:=zfl (f:=fun t=>if 0<=d t then 1 else 0) (g:=fun t=>if t=goal then 0 else if 0<=d t then 1 else 0) n hg (fun t _ hne=>by rw[if_neg hne])
  have h0:(if 0<=d goal then 1 else 0)=1:=by rw[hd,if_pos rfl];rfl
  simp only[if_true,h0]at this
  unfold zht
  omega
 rw[hd]
 split
 ·left;omega
 ·right;omega
theorem zdf{n:Nat}{d:Nat->Int}(h:zja n d){t u:Nat}{c:Int}(hu:u<n)(ht:0<=d t)(hc:0<c/\c<=84)(hl:d u<0\/d t+c<d u):zja n (updN d u (d t+c)):=by
 have hdt:=h t
 by_cases hn:d u<0
 ·have e:=ydc (n:=n) hu hn (show 0<=d t+c by omega)
  intro v
  rw[e]
  by_cases ev:v=u
  ·subst ev;rw[z7];omega
  ·rw[yf ev]
   have:=h v
   omega
 ·have e:=ydb (n:=n) (d:=d) (u:=u) (by omega) (show 0<=d t+c by omega)
  intro v
  rw[e]
  by_cases ev:v=u
  ·subst ev;rw[z7]
   have:=h v
   omega
  ·rw[yf ev];exact h v
theorem zdg{n:Nat}{d:Nat->Int}(h:zja n d)(t:Nat):d t<=84*(n:Int):=by
 have:=h t
 have:=yos n d
 omega
def zmc(n:Nat)(d:Nat->Int):Nat:=sumN n fun t=>if 0<=d t then(d t).toNat else 84*n+1
theorem yas{n:Nat}{d:Nat->Int}(h:zja n d){t u:Nat}{c:Int}(hu:u<n)(ht:0<=d t)(hc:0<c/\c<=84)(hl:d u<0\/d t+c<d u):zmc n (updN d u (d t+c))<zmc n d:=by
 have hb:=zdg (zdf h hu ht hc hl) u
 rw[z7]at hb
 have:=zfl (f:=fun v=>if 0<=updN d u (d t+c) v then(updN d u (d t+c) v).toNat else 84*n+1) (g:=fun v=>if 0<=d v then(d v).toNat else 84*n+1) n hu (fun v _ hne=>by simp only[yf hne])
 simp only[z7,if_pos (show 0<=d t+c by omega)]at this
 unfold zmc
 split at this<;>omega
def zim(n:Nat)(dn:Nat->Bool):Nat:=sumN n fun t=>if dn t then 0 else 1
theorem zz3{n:Nat}{dn:Nat->Bool}{t:Nat}(ht:t<n)(h:dn t=false):zim n (updN dn t true)+1=zim n dn:=by
 have:=zfl (f:=fun v=>if updN dn t true v=true then 0 else 1) (g:=fun v=>if dn v=true then 0 else 1) n ht (fun v _ hne=>by simp only[yf hne])
 simp only[z7,h,if_true,Bool.false_eq_true,if_false]at this
 unfold zim
 omega
end Go.V
namespace Go.V
theorem zv0{l:List (Int×Int)}(h:zbl l)(x:Int×Int):UpF (qat (l++[x])) (l++[x]).length l.length:=by
 have h2:zsv (qat (l++[x])) l.length:=fun j h0 hj=>by
  rw[zks l x j hj,zks l x (par j) (by have:=zat h0;omega)]
  exact h j h0 hj
 have:=yoo h2
 simpa using this
theorem zvx{l:List (Int×Int)}{i:Nat}(h:UpF (qat l) l.length i)(h0:0<i)(hi:i<l.length)(hl:qlt (qat l i) (qat l (par i))):
  UpF (qat (zba l i (par i))) (zba l i (par i)).length (par i)/\(zba l i (par i)).Perm l:=by
 have hp:=zat h0
 rw[ztt hi (by omega),za9]
 exact⟨yon h h0 hi hl,zki hi (by omega)⟩
theorem zkr{l:List (Int×Int)}{i:Nat}(h:UpF (qat l) l.length i)(hi:i=0\/¬qlt (qat l i) (qat l (par i))):zbl l:=yop h hi
theorem zvz(l:List (Int×Int))(x:Int×Int):(l++[x]).Perm (x::l):=List.perm_append_singleton x l
theorem zzm{l:List (Int×Int)}{n:Nat}(hl:l.length=n+1):l.Perm (qat l 0::(l.set 0 (qat l n)).take n):=by
 obtain⟨a,t,rfl⟩:∃a t,l=a::t:=by
  cases l with
  |nil=>simp at hl
  |cons a t=>exact⟨a,t,rfl⟩
 simp only[List.length_cons,Nat.add_right_cancel_iff]at hl
 have e0:qat (a::t) 0=a:=rfl
 rw[e0]
 refine List.Perm.cons a ?_
 cases n with
 |zero=>
  have:t=[]:=List.eq_nil_of_length_eq_zero hl
  subst this
  simp
 |succ n=>
  have e1:qat (a::t) (n+1)=t[n]'(by omega):=by
   rw[zog (by simp;omega)]
   rfl
  rw[e1]
  show t.Perm ((t[n]'(by omega)::t).take (n+1))
  rw[List.take_succ_cons]
  have e2:t=t.take n++[t[n]'(by omega)]:=by
   have h1:=List.take_append_drop n t
   have h2:t.drop n=[t[n]'(by omega)]:=by
    rw[List.drop_eq_getElem_cons (by omega),List.drop_eq_nil_of_le (by omega)]
   rw[h2]at h1
   exact h1.symm
  exact(List.Perm.of_eq e2).trans (List.perm_append_singleton _ _)
theorem zzn{l:List (Int×Int)}{n:Nat}(hl:l.length=n+1)(h:zbl l):znb (qat ((l.set 0 (qat l n)).take n)) ((l.set 0 (qat l n)).take n).length 0:=by
 have hlen:((l.set 0 (qat l n)).take n).length=n:=by simp;omega
 rw[hlen]
 have h2:zsv (qat l) (n+1):=by rw[<-hl];exact h
 have key:∀j,0<j->j<n->qat ((l.set 0 (qat l n)).take n) j=qat l j:=fun j h0 hj=>by
  unfold qat
  simp only[List.getD,List.getElem?_take_of_lt hj]
  rw[List.getElem?_set_ne (by omega)]
 refine⟨fun j h0 hj hp=>?_,fun j h0 hj hp h1=>by omega⟩
 rw[key j h0 hj,key (par j) (by omega) (by have:=zat h0;omega)]
 exact h2 j h0 (by omega)
theorem yme{l:List (Int×Int)}(h:zbl l):∀e∈l,¬qlt e (qat l 0):=fun e he=>by
 obtain⟨j,hj,rfl⟩:=List.getElem_of_mem he
 rw[<-zog hj]
 exact ymw h j hj
theorem zzo{l:List (Int×Int)}{i:Nat}(h:znb (qat l) l.length i)(hc:l.length<=2*i+1):zbl l:=
 zpv h fun j h0 hj hp=>by
  rcases(zcj h0).1 hp with e|e<;>omega
theorem zij{l:List (Int×Int)}{i k:Nat}(h:znb (qat l) l.length i)(hk:∀j,0<j->j<l.length->par j=i->¬qlt (qat l j) (qat l k))(hs:¬qlt (qat l k) (qat l i)):zbl l:=
 zpv h fun j h0 hj hp=>zer hs (hk j h0 hj hp)
theorem zik{l:List (Int×Int)}{i k:Nat}(h:znb (qat l) l.length i)(hk0:0<k)(hk:k<l.length)(hki:par k=i)(hmin:∀j,0<j->j<l.length->par j=i->¬qlt (qat l j) (qat l k))(hl:qlt (qat l k) (qat l i)):
  znb (qat (zba l i k)) (zba l i k).length k/\(zba l i k).Perm l:=by
 have hp:=zat hk0
 rw[ztt (by omega) hk,za9]
 exact⟨yb2 h hk0 hk hki hmin hl,zki (by omega) hk⟩
theorem zje{f:Nat->Int×Int}{n i k:Nat}(hk:k=2*i+1/\(2*i+2<n->¬qlt (f (2*i+2)) (f (2*i+1)))\/k=2*i+2/\qlt (f (2*i+2)) (f (2*i+1))):∀j,0<j->j<n->par j=i->¬qlt (f j) (f k):=by
 intro j h0 hj hp
 rcases(zcj h0).1 hp with e|e
 ·subst e
  rcases hk with⟨rfl,_⟩|⟨rfl,h2⟩
  ·exact zq9 _
  ·exact zg8 h2
 ·subst e
  rcases hk with⟨rfl,h1⟩|⟨rfl,h2⟩
  ·exact h1 hj
  ·exact zq9 _
end Go.V
namespace Go.V
def itC(x:Int×Int):List AV:=[int x.1,int x.2]
theorem zd1(x:Int×Int):(itC x).length=2:=rfl
structure QAt(F:Store)(p b cap:Nat)(l:List (Int×Int))(L:List AV):Prop where
 hp:F.obj p=some (.cells [.s (.slice (some ⟨b,0,none⟩) l.length cap)])
 hb:F.obj b=some (.cells ((rws itC l).flatten++L))
 ne:b≠p
 h1:l.length<=cap
 h2:cap*2<=l.length*2+L.length
 h3:cap<=9223372036854775807
def QOf(F:Store)(p:Nat)(l:List (Int×Int)):Prop:=(F.obj p=some (.cells [.s (.slice none 0 0)])/\l=[])\/∃b cap L,QAt F p b cap l L
theorem QOf.rows{F:Store}{p:Nat}{l:List (Int×Int)}(h:QOf F p l):∃v,F.obj p=some (.cells [v])/\RowsO 2 itC F v l/\∀b c0,v=.s (.slice (some ⟨b,0,none⟩) l.length c0)->b≠p:=by
 rcases h with⟨h,rfl⟩|⟨b,cap,L,h⟩
 ·exact⟨_,h,.inl ⟨rfl,rfl⟩,fun b c0 e=>by simp at e⟩
 ·refine⟨_,h.hp,.inr ⟨b,cap,L,rfl,h.hb,h.h1,h.h2,h.h3⟩,fun b' c0 e=>?_⟩
  simp only[AV.s.injEq,Value.slice.injEq,Option.some.injEq,Addr.mk.injEq]at e
  exact e.1.1▸h.ne
theorem QOf.pos{F:Store}{p:Nat}{l:List (Int×Int)}(h:QOf F p l)(hl:0<l.length):∃b cap L,QAt F p b cap l L:=by
 rcases h with⟨h,rfl⟩|h
 ·exact absurd hl (Nat.lt_irrefl 0)
 ·exact h
theorem yax{l:List (Int×Int)}{i:Nat}(hi:i<l.length)(x:Int×Int)(L:List AV):zo ((rws itC l).flatten++L) (0+i*2) (itC x)=(rws itC (l.set i x)).flatten++L:=by
 have:=zbo (f:=itC) (k:=2) zd1 hi (j:=0) (x':=x) (ys:=itC x) (L:=L) (by show 0+2<=2;omega) (by
  unfold zo
  rw[zd1]
  rfl)
 rw[Nat.add_zero]at this
 rw[Nat.zero_add]
 exact this
theorem qy{l:List (Int×Int)}{L:List AV}{i:Nat}(hi:i<l.length):List.drop (0+i*2) ((rws itC l).flatten++L)=itC (qat l i)++((rws itC (l.drop (i+1))).flatten++L):=by
 have h1:(rws itC (l.take i)).flatten.length=i*2:=by rw[qp zd1,List.length_take,Nat.min_eq_left (by omega)]
 rw[Nat.zero_add,zek hi,List.append_assoc,<-h1,List.drop_left,List.append_assoc,zog hi]
theorem zbs{l:List (Int×Int)}{L:List AV}{i:Nat}(hi:i<l.length)(x:Int×Int):0+i*2+(itC x).length<=((rws itC l).flatten++L).length:=by
 rw[List.length_append,qp zd1,zd1]
 omega
theorem QAt.set{F:Store}{p b cap:Nat}{l:List (Int×Int)}{L:List AV}(h:QAt F p b cap l L){i:Nat}(hi:i<l.length)(x:Int×Int):QAt (F.setObj b (.cells (zo ((rws itC l).flatten++L) (0+i*2) (itC x)))) p b cap (l.set i x) L:=by
 rw[yax hi]
 exact⟨by rw[zd (Ne.symm h.ne),List.length_set];exact h.hp,zb _ _ _,h.ne,by rw[List.length_set];exact h.h1,by rw[List.length_set];exact h.h2,h.h3⟩
theorem QAt.cut{F:Store}{p b cap:Nat}{l:List (Int×Int)}{L:List AV}(h:QAt F p b cap l L){n:Nat}(hn:n<=l.length):QAt (F.setObj p (.cells [.s (.slice (some ⟨b,0,none⟩) n cap)])) p b cap (l.take n) ((rws itC (l.drop n)).flatten++L):=by
 have e:(rws itC (l.take n)).flatten++((rws itC (l.drop n)).flatten++L)=(rws itC l).flatten++L:=by
  rw[<-List.append_assoc,<-zcg,List.take_append_drop]
 have hl:(l.take n).length=n:=by rw[List.length_take];omega
 refine⟨by rw[zb,hl],by rw[zd h.ne,e];exact h.hb,h.ne,by rw[hl];have:=h.h1;omega,?_,h.h3⟩
 have:=h.h2
 rw[hl,List.length_append,qp zd1,List.length_drop]
 omega
end Go.V
namespace Go.V
def zaz(v:Int)(k:Nat)(t:Nat):Int:=if t<k then v else 0
theorem zvv{n k m:Nat}{v:Int}(hk:m<=k)(hn:k+m<=n):zo (il n (zaz v k)) (0+k*1) ((List.drop (0+0*1) (il n (zaz v k))).take (m*1))=il n (zaz v (k+m)):=by
 have e:(List.drop (0+0*1) (il n (zaz v k))).take (m*1)=List.replicate m (int v):=by
  rw[show 0+0*1=0 from rfl,List.drop_zero,Nat.mul_one]
  apply List.ext_getElem
  ·rw[List.length_take,yz,List.length_replicate];omega
  ·intro i h1 h2
   rw[List.length_replicate]at h2
   rw[List.getElem_take,List.getElem_replicate]
   simp only[il,List.getElem_map,List.getElem_range]
   rw[zaz,if_pos (by omega)]
 rw[e]
 unfold zo
 rw[List.length_replicate,show 0+k*1=k by omega]
 apply List.ext_getElem?
 intro i
 by_cases h1:i<k
 ·rw[List.append_assoc,List.getElem?_append_left (by rw[List.length_take,yz];omega),List.getElem?_take_of_lt h1,zct (by omega),zct (by omega),zaz,zaz,if_pos h1,if_pos (by omega)]
 ·by_cases h2:i<k+m
  ·rw[List.append_assoc,List.getElem?_append_right (by rw[List.length_take,yz];omega),List.length_take,yz,List.getElem?_append_left (by rw[List.length_replicate];omega),List.getElem?_replicate,if_pos (by omega),zct (by omega),zaz,if_pos h2]
  ·rw[List.getElem?_append_right (by rw[List.length_append,List.length_take,yz,List.length_replicate];omega),List.length_append,List.length_take,yz,List.length_replicate,List.getElem?_drop,show k+m+(i-(min k n+m))=i by omega]
   by_cases h3:i<n
   ·rw[zct h3,zct h3,zaz,zaz,if_neg h1,if_neg h2]
   ·rw[List.getElem?_eq_none (by rw[yz];omega),List.getElem?_eq_none (by rw[yz];omega)]
theorem yob(n:Nat)(v:Int):il n (zaz v n)=il n fun _=>v:=wi fun t ht=>if_pos ht
def besV(g:Gnd)(t:Nat):AV:=.agg (il 8 (besN g t))
def zjj(g:Gnd)(t i:Nat)(j:Nat):Int:=if j<i then besN g t j else 0
theorem yck(g:Gnd)(t:Nat):il 8 (zjj g t 8)=il 8 (besN g t):=wi fun j hj=>if_pos hj
theorem ys1(g:Gnd)(t:Nat){i:Nat}(hi:i<8):besN g t i=jj g ((t:Int)%g.W) ((t:Int)/g.W) (dirL.getD i (0,0)):=by
 unfold besN vh
 rw[List.getD_eq_getElem?_getD,List.getElem?_map,List.getD_eq_getElem?_getD,List.getElem?_eq_getElem (show i<dirL.length from hi)]
 rfl
theorem ycj(g:Gnd)(t:Nat){i:Nat}(v:Int)(hv:v=besN g t i):setI (zjj g t i) i v=zjj g t (i+1):=funext fun j=>by
 unfold setI zjj
 by_cases h:j=i
 ·subst h
  rw[if_pos rfl,if_pos (by omega),hv]
 ·rw[if_neg h]
  by_cases h2:j<i
  ·rw[if_pos h2,if_pos (by omega)]
  ·rw[if_neg h2,if_neg (by omega)]
def dirC:List AV:=(dirL.map wayC).flatten
theorem ynd{i:Nat}(hi:i<8):dirC.drop (i*2)=wayC (dirL.getD i (0,0))++dirC.drop (i*2+2):=by
 have h:i=0\/i=1\/i=2\/i=3\/i=4\/i=5\/i=6\/i=7:=by omega
 rcases h with rfl|rfl|rfl|rfl|rfl|rfl|rfl|rfl<;>rfl
theorem yu1{i:Nat}(hi:i<8):(-1<=(dirL.getD i (0,0)).1/\(dirL.getD i (0,0)).1<=1)/\-1<=(dirL.getD i (0,0)).2/\(dirL.getD i (0,0)).2<=1:=by
 have h:i=0\/i=1\/i=2\/i=3\/i=4\/i=5\/i=6\/i=7:=by omega
 rcases h with rfl|rfl|rfl|rfl|rfl|rfl|rfl|rfl<;>decide
end Go.V
namespace Go.V
def wayO(g:Gnd)(ok:Nat->Bool)(c:Int)(t i:Nat):Nat->Nat->Int->Prop:=fun a u k=>a=t/\∃w,i<=w/\w<8/\besN g t w=(u:Int)/\k=y9 g ok c t w
theorem zsb{E:Nat->Nat->Int->Prop}{n goal:Nat}{d:Nat->Int}{dn:Nat->Bool}{q q':List (Int×Int)}{cur:Int}{O:Nat->Nat->Int->Prop}(h:DJ E n goal d dn q cur O)(hp:q.Perm q'):DJ E n goal d dn q' cur O:=
 ⟨h.lab,h.gl,h.pre,h.rel,h.mono,fun e he=>h.ent e (hp.mem_iff.2 he),fun u hu hn=>hp.mem_iff.1 (h.wait u hu hn)⟩
section
variable {g:Gnd} {ok:Nat->Bool} {c:Int} {n goal:Nat} {d:Nat->Int} {dn:Nat->Bool} {q:List (Int×Int)} {cur:Int}
theorem zuy{t:Nat}(h:DJ (j7 g ok c) n goal d dn q cur (fun a _ _=>a=t)):DJ (j7 g ok c) n goal d dn q cur (wayO g ok c t 0):=
 zsc h fun a u k ha hn hE=>by
  obtain⟨_,_,w,hw,h1,_,h2,_⟩:=hE
  subst ha
  exact absurd ⟨rfl,w,Nat.zero_le _,hw,h1,h2⟩ hn
theorem yc3{t:Nat}(h:DJ (j7 g ok c) n goal d dn q cur (wayO g ok c t 8)):DJ (j7 g ok c) n goal d dn q cur zg0:=
 zsc h fun a u k ha hn hE=>by
  obtain⟨_,w,h1,h2,_⟩:=ha
  omega
theorem zhj{t i:Nat}(h:DJ (j7 g ok c) n goal d dn q cur (wayO g ok c t i))(hp:∀u:Nat,besN g t i=u->0<y9 g ok c t i->0<=d u/\d u<=d t+y9 g ok c t i):DJ (j7 g ok c) n goal d dn q cur (wayO g ok c t (i+1)):=
 zsc h fun a u k ha hn hE=>by
  obtain⟨rfl,w,h1,h2,h3,rfl⟩:=ha
  by_cases hw:w=i
  ·subst hw
   exact hp u h3 (zdd _ _ _ hE)
  ·exact absurd ⟨rfl,w,by omega,h2,h3,rfl⟩ hn
theorem yu0{O:Nat->Nat->Int->Prop}(h:DJ (j7 g ok c) n goal d dn q cur O)(hgoal:ok goal=true){u:Nat}(hu:0<=d u):ok u=true:=by
 by_cases e:u=goal
 ·rw[e];exact hgoal
 ·obtain⟨t,k,_,_,hE,_⟩:=h.pre u e hu
  obtain⟨_,_,_,_,_,h1,_⟩:=hE
  exact h1
end
def keyO:Option (Int×Int)->Int
 |none=>0
 |some x=>x.1
def valO:Option (Int×Int)->Int
 |none=>0
 |some x=>x.2
def fldS(S:Store)(b b2 n:Nat)(d:Nat->Int)(dn:Nat->Bool):Store:=(S.setObj b (.cells (il n d))).setObj b2 (.cells (bl n dn))
section
variable {S:Store} {b b2 n:Nat}
theorem yt9(hb:b≠b2)(d:Nat->Int)(dn:Nat->Bool):(fldS S b b2 n d dn).obj b=some (.cells (il n d)):=by
 unfold fldS
 rw[zd hb,zb]
theorem yt8(d:Nat->Int)(dn:Nat->Bool):(fldS S b b2 n d dn).obj b2=some (.cells (bl n dn)):=zb _ _ _
theorem yuz{i:Nat}{x:AObj}(hf:Fresh S b)(hf2:Fresh (S.setObj b x) b2){y:AObj}(h:S.obj i=some y)(d:Nat->Int)(dn:Nat->Bool):(fldS S b b2 n d dn).obj i=some y:=by
 have h1:i≠b:=fun e=>by rw[e,hf.1]at h;cases h
 have h2:i≠b2:=fun e=>by
  have:=hf2.1
  rw[<-e,zd h1,h]at this;cases this
 unfold fldS
 rw[zd h2,zd h1]
 exact h
theorem zue(hb:b≠b2)(d d':Nat->Int)(dn:Nat->Bool):(fldS S b b2 n d dn).setObj b (.cells (il n d'))=fldS S b b2 n d' dn:=by
 unfold fldS
 rw[jt hb,zg]
theorem ym2(d:Nat->Int)(dn dn':Nat->Bool):(fldS S b b2 n d dn).setObj b2 (.cells (bl n dn'))=fldS S b b2 n d dn':=zg _ _ _ _
theorem fld_has{d:Nat->Int}{dn:Nat->Bool}{i:Nat}:(fldS S b b2 n d dn).has i↔i=b2\/i=b\/S.has i:=by
 unfold fldS
 rw[has_setObj_iff,has_setObj_iff]
theorem ym3{F:Store}{d d':Nat->Int}{dn dn':Nat->Bool}(h:Disj F (fldS S b b2 n d dn)):Disj F (fldS S b b2 n d' dn'):=fun i h1 h2=>h i h1 (fld_has.2 (fld_has.1 h2))
theorem ym4(hf:Fresh S b){x:AObj}(hf2:Fresh (S.setObj b x) b2){F:Store}(hb:b≠b2){d:Nat->Int}{dn:Nat->Bool}:(F.un (fldS S b b2 n d dn)).Has (S.setObj b (.cells (il n d))):=by
 have hn:(S.setObj b (.cells (il n d))).obj b2=none:=by
  have:=hf2.1
  rw[zd (Ne.symm hb)]at this⊢
  exact this
 exact⟨fun i y hi=>un_r ((qi hn).obj i y hi),fun i y hi=>zns hi⟩
end
theorem zew(n:Nat)(d:Nat->Int)(u:Nat)(v:Int)(hu:u<n):zo (il n d) (0+u*1) [int v]=il n (updN d u v):=by
 rw[show 0+u*1=u by omega,zex hu]
 rfl
theorem ycg(n:Nat)(d:Nat->Bool)(u:Nat)(v:Bool)(hu:u<n):zo (bl n d) (0+u*1) [bool v]=bl n (updN d u v):=by
 rw[show 0+u*1=u by omega]
 have:=zcy (f:=d) hu (updN d u v) (fun s hs=>yf hs)
 rw[z7]at this
 exact this
theorem zey{n:Nat}{f:Nat->Int}{t:Nat}(h:t<n):((il n f).drop (t*1)).head?=some (int (f t)):=by
 have:=qc (f:=f) h
 rwa [Nat.zero_add]at this
theorem ymi(n:Nat)(dn:Nat->Bool):zim n dn<=n:=by
 have:=zlx (f:=fun t=>if dn t=true then 0 else 1) (g:=fun _=>1) n (fun t _=>by split<;>omega)
 rw[zc2]at this
 unfold zim
 omega
end Go.V
namespace Go.V
def jl(g:Gnd)(ok:Nat->Bool)(c:Int)(d:Nat->Int)(t w:Nat):Prop:=0<y9 g ok c t w/\0<=d (besN g t w).toNat/\y9 g ok c t w+d (besN g t w).toNat=d t
theorem zw3{p:Nat->Bool}{n j:Nat}(hj:j<n)(hp:p j=true)(hn:∀w,w<j->p w=false):(List.range n).find? p=some j:=by
 rw[List.find?_range_eq_some]
 exact⟨hp,List.mem_range.2 hj,fun w hw=>by rw[hn w hw];rfl⟩
theorem ybq{p:Nat->Bool}{n:Nat}(hn:∀w,w<n->p w=false):(List.range n).find? p=none:=by
 rw[List.find?_eq_none]
 intro w hw
 rw[hn w (List.mem_range.1 hw)]
 decide
section
variable {g:Gnd} {ok:Nat->Bool} {c:Int} {d:Nat->Int} {t:Nat}
theorem zsx(h:d t<=0):wayF g ok c d t=-1:=by
 unfold wayF
 rw[if_pos h]
theorem znh(h:¬d t<=0){j:Nat}(hj:j<8)(hp:jl g ok c d t j)(hn:∀w,w<j->¬jl g ok c d t w):wayF g ok c d t=(j:Int):=by
 unfold wayF
 rw[if_neg h,zw3 hj (by exact decide_eq_true hp) (fun w hw=>by exact decide_eq_false (hn w hw))]
theorem zni(h:¬d t<=0)(hn:∀w,w<8->¬jl g ok c d t w):wayF g ok c d t=-1:=by
 unfold wayF
 rw[if_neg h,ybq (fun w hw=>by exact decide_eq_false (hn w hw))]
end
theorem zx3(g:Gnd)(ok:Nat->Bool)(c:Int)(d:Nat->Int)(t:Nat):wayF g ok c d t=-1\/∃j:Nat,j<8/\wayF g ok c d t=(j:Int)/\jl g ok c d t j:=by
 unfold wayF
 split
 ·exact .inl rfl
 ·cases h:(List.range 8).find? fun way=>decide (0<y9 g ok c t way/\0<=d (besN g t way).toNat/\y9 g ok c t way+d (besN g t way).toNat=d t)with
  |none=>exact .inl rfl
  |some j=>
   have h1:=List.mem_of_find?_eq_some h
   have h2:=List.find?_some h
   exact .inr ⟨j,List.mem_range.1 h1,rfl,by simp only[decide_eq_true_eq]at h2;exact h2⟩
noncomputable def zdk(g:Gnd)(ok:Nat->Bool)(c:Int)(d:Nat->Int)(i t:Nat):Int:=if t<i then wayF g ok c d t else -1
theorem zj5{g:Gnd}{ok:Nat->Bool}{c:Int}{d:Nat->Int}{i:Nat}:zdk g ok c d (i+1)=updN (zdk g ok c d i) i (wayF g ok c d i):=funext fun t=>by
 unfold zdk updN
 dsimp only
 by_cases h:t=i
 ·subst h;rw[if_pos (by omega),if_pos rfl]
 ·rw[if_neg h]
  by_cases h2:t<i
  ·rw[if_pos h2,if_pos (by omega)]
  ·rw[if_neg h2,if_neg (by omega)]
theorem zj4{g:Gnd}{ok:Nat->Bool}{c:Int}{d:Nat->Int}{i:Nat}(h:wayF g ok c d i=-1):zdk g ok c d (i+1)=zdk g ok c d i:=by
 rw[zj5,h]
 funext t
 unfold updN zdk
 by_cases h:t=i
 ·subst h;rw[if_pos rfl,if_neg (by omega)]
 ·rw[if_neg h]
theorem zuw(g:Gnd)(ok:Nat->Bool)(c:Int)(d:Nat->Int):zdk g ok c d 0=fun _=>-1:=funext fun t=>if_neg (Nat.not_lt_zero t)
theorem zx2(g:Gnd)(ok:Nat->Bool)(c:Int)(d:Nat->Int)(n:Nat):il n (zdk g ok c d n)=il n (wayF g ok c d):=wi fun t ht=>if_pos ht
def twoS(S:Store)(b b2 n:Nat)(d f:Nat->Int):Store:=(S.setObj b (.cells (il n d))).setObj b2 (.cells (il n f))
section
variable {S:Store} {b b2 n:Nat}
theorem yum(hb:b≠b2)(d f:Nat->Int):(twoS S b b2 n d f).obj b=some (.cells (il n d)):=by
 unfold twoS
 rw[zd hb,zb]
theorem yul(d f:Nat->Int):(twoS S b b2 n d f).obj b2=some (.cells (il n f)):=zb _ _ _
theorem yuk{i:Nat}{x:AObj}(hf:Fresh S b)(hf2:Fresh (S.setObj b x) b2){y:AObj}(h:S.obj i=some y)(d f:Nat->Int):(twoS S b b2 n d f).obj i=some y:=by
 have h1:i≠b:=fun e=>by rw[e,hf.1]at h;cases h
 have h2:i≠b2:=fun e=>by
  have:=hf2.1
  rw[<-e,zd h1,h]at this;cases this
 unfold twoS
 rw[zd h2,zd h1]
 exact h
theorem yc8(d f f':Nat->Int):(twoS S b b2 n d f).setObj b2 (.cells (il n f'))=twoS S b b2 n d f':=zg _ _ _ _
theorem zyf{x:AObj}(hb:b≠b2)(hf2:Fresh (S.setObj b x) b2):Fresh S b2:=by
 have:=hf2
 unfold Fresh at this⊢
 rw[zd (Ne.symm hb)]at this
 exact this
theorem yc9(hf:Fresh S b)(hb:b≠b2)(d f:Nat->Int):(twoS S b b2 n d f).Has (S.setObj b2 (.cells (il n f))):=by
 unfold twoS
 rw[jt (Ne.symm hb)]
 refine qi ?_
 rw[zd hb]
 exact hf.1
end
end Go.V
namespace Go.V
theorem ysh(g:Gnd)(t:Nat):vh g t=(List.range 8).map (besN g t):=by
 apply List.ext_getElem
 ·rw[zae,List.length_map,List.length_range]
 ·intro i h1 h2
  rw[zae]at h1
  simp only[List.getElem_map,List.getElem_range]
  unfold besN
  rw[List.getD_eq_getElem?_getD,List.getElem?_eq_getElem (by rw[zae];exact h1)]
  rfl
theorem zt0(g:Gnd)(t:Nat)(x:Int):(vh g t).contains x=(List.range 8).any fun j=>besN g t j==x:=by
 rw[ysh,List.contains_eq_any_beq,List.any_map]
 congr 1
 funext j
 show(x==besN g t j)=_
 rw[Bool.eq_iff_iff,beq_iff_eq,beq_iff_eq]
 exact eq_comm
theorem ycw{p:Nat->Bool}{n k:Nat}(hk:k<n)(hp:p k=true):(List.range n).any p=true:=List.any_eq_true.2 ⟨k,List.mem_range.2 hk,hp⟩
theorem ynr{p:Nat->Bool}{n:Nat}(hp:∀k,k<n->p k=false):(List.range n).any p=false:=by
 rw[List.any_eq_false]
 intro k hk
 rw[hp k (List.mem_range.1 hk)]
 decide
end Go.V
