/- Lemmas of thronglaw29; no conditions. -/
import Derived.Test.YtphhbmaalpdnoaaGreatKE
set_option linter.unusedSimpArgs false
set_option linter.unusedVariables false
set_option linter.defProp false
open List renaming length→Γ
open Option renaming some→Δ,none→Θ
namespace Go.V
end Go.V
namespace Go.V
end Go.V
namespace Go.V
end Go.V
namespace Go.V
def vg(n:Int):Prop:=0<=n/\n<=9223372036854775807
def C7(b:Bld):List UInt8:=jb [b.id,b.owner,b.x,b.y,b.w,b.h]
def vq(u:Unt):List UInt8:=jb [u.id,u.owner,u.kind]++Ab u.pos.1++Ab u.pos.2++jb [u.goal+1,u.next+1,u.stuck,u.inn,u.state]
def Du(w:Wld):List UInt8:=
 [84,87]++jb [w.tick,w.players,w.next]++(yl (jv w.G).length++jv w.G)++(yl (Γ w.B)++w.B.flatMap C7)++(yl (Γ w.U)++w.U.flatMap vq)
def pu(b:Bld):Prop:=vg b.id/\vg b.owner/\vg b.x/\vg b.y/\vg b.w/\vg b.h
def fg(u:Unt):Prop:=vg u.id/\vg u.owner/\vg u.kind/\I62 u.pos.1/\I62 u.pos.2/\vg (u.goal+1)/\vg (u.next+1)/\vg u.stuck/\vg u.inn/\vg u.state
def Ms(w:Wld):Prop:=vg w.tick/\vg w.players/\vg w.next/\zt w.G/\((Γ w.B:Int)<=256/\∀b∈w.B,pu b)/\(Γ w.U:Int)<=4096/\∀u∈w.U,fg u
def yh6{w:Wld}(a:yd w){u:Unt}(b:u∈w.U):(0<=u.pos.1/\u.pos.1<=8388608)/\(0<=u.pos.2/\u.pos.2<=8388608)/\(0<=u.inn/\u.inn<=1099511627776):=by
 by_cases h:u.inn=0
 .have:=R3 a.1.1.2.1.1 (a.2.1 u b h).1;omega
 .obtain⟨x,c,e,_,_,_,d,_⟩:=a.2.2 u b h;have g:=(a.1.2.2 x c).1.1.1;have f:=a.1.1.1.2.2.2;rw[d];refine⟨⟨ψ,ψ⟩,⟨ψ,ψ⟩,?_⟩;omega
def zdt{w:Wld}(d:yd w):Ms w:=by
 have c:=d.1.1;have e:=c.2.1.1;have a:=c.2.1.2.1;have E:=qg e;obtain⟨⟨C,B⟩,⟨A,z⟩,_⟩:=id e;obtain⟨⟨a1,a2⟩,⟨a3,a4⟩,a5,a6⟩:=c.1;refine⟨⟨a1,Z⟩,⟨Z,Z⟩,⟨Z,Z⟩,e,⟨?_,λb k=>?_⟩,?_,λu f=>?_⟩
 .have:=a.1;omega
 .obtain⟨⟨⟨U,T⟩,⟨S,R⟩,⟨Q,P⟩,M,L⟩,⟨⟨K,I⟩,H,G⟩,_⟩:=a.2.2.1 b k;unfold pu vg;omega
 .have:=c.2.1.2.2;omega
 .obtain⟨⟨⟨⟨y,v⟩,⟨t,p⟩,o,n⟩,⟨g,u8,l,j⟩,⟨⟨i,h⟩,_⟩,_⟩,_⟩:=d.1.2.2 u f;have D:=yh6 d f;unfold Ak at g u8;unfold fg vg I62;omega
end Go.V
