/- Ground of laws of throngtop: contracts and plain lemmas; no condition beyond the row's own. -/
import Derived.Test.YtkahacegdhllcaaGreatKD
set_option linter.unusedSimpArgs false
set_option linter.unusedVariables false
set_option linter.defProp false
namespace Go.V
end Go.V
namespace Go.V
def Ct(z:List UInt8)(s' s:Rd):Prop:=s'.e=0/\s.b=s'.b++z
def Cm{α:Type}(z:List UInt8)(r' r:α×Rd):Prop:=r'.2.e=11\/(r'.1=r.1/\Ct z r'.2 r.2)
def Cm.bind{α β:Type}{z:List UInt8}{r' r:α×Rd}(f:α->Rd->β×Rd)(h:Cm z r' r)(stuck:∀a s,s.e=11->(f a s).2.e=11)
  (good:∀s',Ct z s' r.2->Cm z (f r.1 s') (f r.1 r.2)):Cm z (f r'.1 r'.2) (f r.1 r.2):=by
 rcases h with h|⟨h1,h2⟩
 ·exact .inl (stuck _ _ h)
 ·rw[h1];exact good _ h2
theorem Cm.map{α β:Type}{z:List UInt8}{r' r:α×Rd}(f:α->β)(h:Cm z r' r):Cm z (f r'.1,r'.2) (f r.1,r.2):=by
 rcases h with h|⟨h1,h2⟩
 ·exact .inl h
 ·exact .inr ⟨congrArg f h1,h2⟩
end Go.V
namespace Go.V
def Stands(B:List UInt8)(a:Nat)(s:Rd):Prop:=a<=B.length/\(s.e=0->s.b=B.drop a)
def Stands.start(B:List UInt8):Stands B 0 ⟨B,0⟩:=⟨Fae _,λ_=>rfl⟩
def Stands.bad{B:List UInt8}{a:Nat}{s s':Rd}(h:Stands B a s)(he:s'.e≠0):Stands B a s':=⟨h.1,λh=>absurd h he⟩
def Stands.go{B:List UInt8}{a k:Nat}{s:Rd}(h:Stands B a s)(he:s.e=0)(hk:k<=s.b.length):Stands B (a+k) ⟨s.b.drop k,0⟩:=by
 have h2:=h.2 he;refine⟨?_,λ_=>?_⟩
 ·rw[h2,Fbk]at hk;have:=h.1;omega
 ·simp only;rw[h2,Fdh]
theorem Stands.at{B:List UInt8}{a:Nat}{s:Rd}(h:Stands B a s)(he:s.e=0):B.length-s.b.length=a:=by rw[h.2 he,Fbk];have:=h.1;omega
def eok(e:Int):Prop:=e=0\/e=1\/e=11
structure PL{α:Type}(p:Rd->α×Rd)(enc:α->List UInt8)(ok:α->Prop):Prop where
 put:∀s,(p s).2.e=0->s.e=0/\s.b=enc (p s).1++(p s).2.b
 get:∀a rest,ok a->p ⟨enc a++rest,0⟩=(a,⟨rest,0⟩)
 cut:∀z s' s,Ct z s' s->(p s).2.e=0->Cm z (p s') (p s)
 stick:∀s,s.e≠0->(p s).2=s
 err:∀s,eok s.e->eok (p s).2.e
 len:∀s,(p s).2.b.length<=s.b.length
def PL.stuck{α:Type}{p:Rd->α×Rd}{enc:α->List UInt8}{ok:α->Prop}(h:PL p enc ok){s:Rd}(hs:s.e=11):(p s).2.e=11:=by rw[h.stick s (by rw[hs];decide)];exact hs
def xl(n:Int):Prop:=0<=n/\n<=9223372036854775807
def H5(b:Bld):List UInt8:=jk [b.id,b.owner,b.x,b.y,b.w,b.h]
def Db(u:Unt):List UInt8:=jk [u.id,u.owner,u.kind]++wg u.pos.1++wg u.pos.2++jk [u.goal+1,u.next+1,u.stuck,u.inn,u.state]
def I2(w:Wld):List UInt8:=
 [84,87]++jk [w.tick,w.players,w.next]++(yi (j7 w.G).length++j7 w.G)++(yi w.B.length++w.B.flatMap H5)++(yi w.U.length++w.U.flatMap Db)
def uz(b:Bld):Prop:=xl b.id/\xl b.owner/\xl b.x/\xl b.y/\xl b.w/\xl b.h
def zbl(u:Unt):Prop:=xl u.id/\xl u.owner/\xl u.kind/\I62 u.pos.1/\I62 u.pos.2/\xl (u.goal+1)/\xl (u.next+1)/\xl u.stuck/\xl u.inn/\xl u.state
def PL.of{α:Type}{p q:Rd->α×Rd}{enc enc':α->List UInt8}{ok ok':α->Prop}(h:PL p enc ok)(e1:∀s,q s=p s)(e2:∀a,enc' a=enc a)(e3:∀a,ok' a->ok a):PL q enc' ok' where
 put s hs:=by rw[e1]at hs⊢;rw[e2];exact h.put s hs
 get a rest ha:=by rw[e1,e2];exact h.get a rest (e3 a ha)
 cut z s' s hc hs:=by rw[e1]at hs;rw[e1,e1];exact h.cut z s' s hc hs
 stick s hs:=by rw[e1];exact h.stick s hs
 err s hs:=by rw[e1];exact h.err s hs
 len s:=by rw[e1];exact h.len s
def Vm(w:Wld):Prop:=xl w.tick/\xl w.players/\xl w.next/\zv w.G/\((w.B.length:Int)<=256/\∀b∈w.B,uz b)/\(w.U.length:Int)<=4096/\∀u∈w.U,zbl u
end Go.V
