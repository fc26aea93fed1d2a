/- Ground of laws of thronglaw30: contracts and plain lemmas; no condition beyond the row's own. -/
import Derived.Test.YtkahacegdhllcaaGreatKD
set_option linter.unusedSimpArgs false
set_option linter.unusedVariables false
set_option linter.defProp false
namespace Go.V
end Go.V
namespace Go.V
end Go.V
namespace Go.V
end Go.V
namespace Go.V
def xe(n:Int):Prop:=0<=n/\n<=9223372036854775807
def Hc(b:Bld):List UInt8:=j5 [b.id,b.owner,b.x,b.y,b.w,b.h]
def Bx(u:Unt):List UInt8:=j5 [u.id,u.owner,u.kind]++Db u.pos.1++Db u.pos.2++j5 [u.goal+1,u.next+1,u.stuck,u.inn,u.state]
def H2(w:Wld):List UInt8:=
 [84,87]++j5 [w.tick,w.players,w.next]++(q9 (Fb w.G).length++Fb w.G)++(q9 w.B.length++w.B.flatMap Hc)++(q9 w.U.length++w.U.flatMap Bx)
def ou(b:Bld):Prop:=xe b.id/\xe b.owner/\xe b.x/\xe b.y/\xe b.w/\xe b.h
def rx(u:Unt):Prop:=xe u.id/\xe u.owner/\xe u.kind/\I62 u.pos.1/\I62 u.pos.2/\xe (u.goal+1)/\xe (u.next+1)/\xe u.stuck/\xe u.inn/\xe u.state
def Rs(w:Wld):Prop:=xe w.tick/\xe w.players/\xe w.next/\zv w.G/\((w.B.length:Int)<=256/\∀b∈w.B,ou b)/\(w.U.length:Int)<=4096/\∀u∈w.U,rx u
end Go.V
