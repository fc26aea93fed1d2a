/- Ground of laws of throngtop: contracts and plain lemmas; no condition beyond the row's own. -/
import Derived.Test.YtkahacegdhllcaaGreatKD
set_option linter.unusedSimpArgs false
set_option linter.unusedVariables false
set_option linter.defProp false
namespace Go.V
theorem yh0(v:Nat):yi (v:Int)=D5 v:=by
 unfold yi;split
 ·rw[Fbc]
 ·rw[D5,dif_neg θ]
section
variable {n lo hi:Int}
theorem ylg(v:Nat):(Bc (v:Int)).toNat=v%256:=by unfold Bc;rw[UInt8.toNat_ofNat'];omega
theorem yi3(v:Nat):(Bc (v:Int) ||| 128).toNat=v%128+128:=by
 have e:∀m:Nat,m<256->(UInt8.ofNat m ||| 128).toNat=m%128+128:=θm;have h:=e (v%256) θ;have h2:Bc (v:Int)=UInt8.ofNat (v%256):=by unfold Bc;congr 1
 rw[h2,h];omega
theorem yoo(rest:List UInt8):∀(v i:Nat) (n:Int),i<=8->v<128^(9-i)->(0<i->0<v)->wh (D5 v++rest) i n=(n+v*128^i,i+(D5 v).length,0):=by
 intro v;induction v using Nat.strongRecOn with
 |_ v ih=>
  intro i n hi hv hp;rw[D5];by_cases h:128<=v
  ·rw[dif_pos h];have h7:i<=7:=by
    by_cases h8:i=8
    ·subst h8;simp at hv;omega
    ·omega
   show wh ((Bc (v:Int) ||| 128)::(D5 (v/128)++rest)) i n=_;unfold wh;rw[yi3,if_neg θ,if_neg θ];have hlt:v/128<128^(9-(i+1)):=by rw[Nat.div_lt_iff_lt_mul θ];have e:9-i=(9-(i+1))+1:=θ;rw[e,Nat.pow_succ]at hv;exact hv
   rw[ih (v/128) θ (i+1) _ θ hlt θ];have e1:(v%128+128)%128=v%128:=θ;rw[e1];refine Prod.ext ?_ (Prod.ext ?_ rfl)
   ·show n+((v%128:Nat):Int)*128^i+((v/128:Nat):Int)*128^(i+1)=n+v*128^i;rw[Int.pow_succ,Fen (128^i) 128,<-Int.mul_assoc,Int.add_assoc,<-Int.add_mul]
    congr 2
    omega
   ·simp;omega
  ·rw[dif_neg h];show wh (Bc (v:Int)::rest) i n=_;unfold wh;rw[ylg,if_neg θ,if_pos θ];have e1:v%256%128=v:=θ;rw[e1];rfl
theorem se(h0:0<=n)(h1:n<=9223372036854775807)(rest:List UInt8):xk (yi n++rest)=(n,(yi n).length,0):=by obtain⟨v,rfl⟩:=Fcb h0;rw[yh0];unfold xk;rw[yoo rest v 0 0 θ χ (λh=>θ)];simp
theorem zz5(b:List UInt8)(n:Int)(k:Nat):Rd.take ⟨b,0⟩ n k 0=(n,⟨b.drop k,0⟩):=rfl
theorem zhp(b:List UInt8)(n lo hi:Int)(k:Nat)(h1:lo<=n)(h2:n<=hi):Rd.got ⟨b,0⟩ (n,k,0) lo hi=(n,⟨b.drop k,0⟩):=by
 unfold Rd.got;rw[if_neg φ];simp only[zz5];have:inB n lo hi=true:=by unfold inB;simp[h1,h2]
 rw[this];rfl
theorem Cj(rest:List UInt8)(h0:0<=n)(h:n<=9223372036854775807)(h1:lo<=n)(h2:n<=hi):Rd.num ⟨yi n++rest,0⟩ lo hi=(n,⟨rest,0⟩):=by unfold Rd.num;simp only;rw[se h0 h,zhp _ _ _ _ _ h1 h2,Fdg]
theorem yta(c:UInt8)(l:List UInt8):Rd.byte ⟨c::l,0⟩=(c,⟨l,0⟩):=rfl
theorem zf3(s:Rd):s.must true=s:=rfl
theorem zdt:∀(l rest:List UInt8),Rd.same ⟨l++rest,0⟩ l=⟨rest,0⟩:=by
 intro l;induction l with
 |nil=>intro rest;rfl
 |cons c l ih=>
  intro rest;have e:Rd.same ⟨c::l++rest,0⟩ (c::l)=Rd.same ((Rd.byte ⟨c::(l++rest),0⟩).2.must ((Rd.byte ⟨c::(l++rest),0⟩).1==c)) l:=rfl;rw[e,yta];simp only[beq_self_eq_true,zf3];exact ih rest
theorem zn3:∀(m rest l:List UInt8),(∀t∈m,t.toNat<=5)->Rd.tilesGo m.length ⟨m++rest,0⟩ l=(l++m,⟨rest,0⟩):=by
 intro m;induction m with
 |nil=>intro rest l _;simp[Rd.tilesGo]
 |cons c m ih=>
  intro rest l h;have hc:decide (c.toNat<=5)=true:=by simpa using h c φ
  rw[Fbf,ls rfl];have e:Rd.byte ⟨c::m++rest,0⟩=(c,⟨m++rest,0⟩):=rfl;rw[e];simp only[hc,zf3];rw[ih rest (l++[c]) λt ht=>h t (by simp[ht])];simp
theorem yld{g:Gnd}(h:zv g):R4 (j7 g)=(g,0):=by
 have⟨h1,h2,h3,h4⟩:=h;have hm:=Np h1 h2;have e0:j7 g=[84,71]++(yi g.W++(yi g.H++(g.T++wi (vd Bf (Bt g))))):=by simp[j7,Bt]
 have a1:Bx (j7 g)=(g.W,⟨yi g.H++(g.T++wi (vd Bf (Bt g))),0⟩):=by unfold Bx;rw[e0,zdt,Cj _ θ θ h1.1 h1.2]
 have a2:Bw (j7 g)=(g.H,⟨g.T++wi (vd Bf (Bt g)),0⟩):=by unfold Bw;rw[a1];simp only;rw[Cj _ θ θ h2.1 h2.2]
 have a3:Im (j7 g)=(g.T,⟨wi (vd Bf (Bt g)),0⟩):=by unfold Im;rw[a1,a2];simp only;have e:(g.W*g.H).toNat=g.T.length:=θ;rw[e,zn3 _ _ _ h4];simp
 have a4:Oi (j7 g)=⟨[],0⟩:=by
  unfold Oi;rw[a3];simp only;have e:(j7 g).take ((j7 g).length-(wi (vd Bf (Bt g))).length)=Bt g:=by
   have:(j7 g).length-(wi (vd Bf (Bt g))).length=(Bt g).length:=by simp[j7]
   rw[this];unfold j7;rw[Feo]
  rw[e];have:=zdt (wi (vd Bf (Bt g))) [];rw[Fbi]at this;rw[this];rfl
 unfold R4;rw[a4,a1,a2,a3];simp
end
end Go.V
namespace Go.V
def Ct(z:List UInt8)(s' s:Rd):Prop:=s'.e=0/\s.b=s'.b++z
def Cm{α:Type}(z:List UInt8)(r' r:α×Rd):Prop:=r'.2.e=11\/(r'.1=r.1/\Ct z r'.2 r.2)
def Cm.bind{α β:Type}{z:List UInt8}{r' r:α×Rd}(f:α->Rd->β×Rd)(h:Cm z r' r)(stuck:∀a s,s.e=11->(f a s).2.e=11)
  (good:∀s',Ct z s' r.2->Cm z (f r.1 s') (f r.1 r.2)):Cm z (f r'.1 r'.2) (f r.1 r.2):=by
 rcases h with h|⟨h1,h2⟩
 ·exact .inl (stuck _ _ h)
 ·rw[h1];exact good _ h2
theorem Cm.map{α β:Type}{z:List UInt8}{r' r:α×Rd}(f:α->β)(h:Cm z r' r):Cm z (f r'.1,r'.2) (f r.1,r.2):=by
 rcases h with h|⟨h1,h2⟩
 ·exact .inl h
 ·exact .inr ⟨congrArg f h1,h2⟩
end Go.V
namespace Go.V
def Stands(B:List UInt8)(a:Nat)(s:Rd):Prop:=a<=B.length/\(s.e=0->s.b=B.drop a)
def Stands.start(B:List UInt8):Stands B 0 ⟨B,0⟩:=⟨Fae _,λ_=>rfl⟩
def Stands.bad{B:List UInt8}{a:Nat}{s s':Rd}(h:Stands B a s)(he:s'.e≠0):Stands B a s':=⟨h.1,λh=>absurd h he⟩
def Stands.go{B:List UInt8}{a k:Nat}{s:Rd}(h:Stands B a s)(he:s.e=0)(hk:k<=s.b.length):Stands B (a+k) ⟨s.b.drop k,0⟩:=by
 have h2:=h.2 he;refine⟨?_,λ_=>?_⟩
 ·rw[h2,Fbk]at hk;have:=h.1;omega
 ·simp only;rw[h2,Fdh]
theorem Stands.at{B:List UInt8}{a:Nat}{s:Rd}(h:Stands B a s)(he:s.e=0):B.length-s.b.length=a:=by rw[h.2 he,Fbk];have:=h.1;omega
def eok(e:Int):Prop:=e=0\/e=1\/e=11
structure PL{α:Type}(p:Rd->α×Rd)(enc:α->List UInt8)(ok:α->Prop):Prop where
 put:∀s,(p s).2.e=0->s.e=0/\s.b=enc (p s).1++(p s).2.b
 get:∀a rest,ok a->p ⟨enc a++rest,0⟩=(a,⟨rest,0⟩)
 cut:∀z s' s,Ct z s' s->(p s).2.e=0->Cm z (p s') (p s)
 stick:∀s,s.e≠0->(p s).2=s
 err:∀s,eok s.e->eok (p s).2.e
 len:∀s,(p s).2.b.length<=s.b.length
def PL.stuck{α:Type}{p:Rd->α×Rd}{enc:α->List UInt8}{ok:α->Prop}(h:PL p enc ok){s:Rd}(hs:s.e=11):(p s).2.e=11:=by rw[h.stick s (by rw[hs];decide)];exact hs
def xl(n:Int):Prop:=0<=n/\n<=9223372036854775807
def H5(b:Bld):List UInt8:=jk [b.id,b.owner,b.x,b.y,b.w,b.h]
def Db(u:Unt):List UInt8:=jk [u.id,u.owner,u.kind]++wg u.pos.1++wg u.pos.2++jk [u.goal+1,u.next+1,u.stuck,u.inn,u.state]
def I2(w:Wld):List UInt8:=
 [84,87]++jk [w.tick,w.players,w.next]++(yi (j7 w.G).length++j7 w.G)++(yi w.B.length++w.B.flatMap H5)++(yi w.U.length++w.U.flatMap Db)
def uz(b:Bld):Prop:=xl b.id/\xl b.owner/\xl b.x/\xl b.y/\xl b.w/\xl b.h
def zbl(u:Unt):Prop:=xl u.id/\xl u.owner/\xl u.kind/\I62 u.pos.1/\I62 u.pos.2/\xl (u.goal+1)/\xl (u.next+1)/\xl u.stuck/\xl u.inn/\xl u.state
def PL.of{α:Type}{p q:Rd->α×Rd}{enc enc':α->List UInt8}{ok ok':α->Prop}(h:PL p enc ok)(e1:∀s,q s=p s)(e2:∀a,enc' a=enc a)(e3:∀a,ok' a->ok a):PL q enc' ok' where
 put s hs:=by rw[e1]at hs⊢;rw[e2];exact h.put s hs
 get a rest ha:=by rw[e1,e2];exact h.get a rest (e3 a ha)
 cut z s' s hc hs:=by rw[e1]at hs;rw[e1,e1];exact h.cut z s' s hc hs
 stick s hs:=by rw[e1];exact h.stick s hs
 err s hs:=by rw[e1];exact h.err s hs
 len s:=by rw[e1];exact h.len s
def Vm(w:Wld):Prop:=xl w.tick/\xl w.players/\xl w.next/\zv w.G/\((w.B.length:Int)<=256/\∀b∈w.B,uz b)/\(w.U.length:Int)<=4096/\∀u∈w.U,zbl u
end Go.V
