/- Ground of laws of thronglaw30: contracts and plain lemmas; no condition beyond the row's own. -/
import Derived.Test.YtkahacegdhllcaaGreatKD
set_option linter.unusedSimpArgs false
set_option linter.unusedVariables false
set_option linter.defProp false
namespace Go.V
end Go.V
namespace Go.V
end Go.V
namespace Go.V
end Go.V
namespace Go.V
def xl(n:Int):Prop:=0<=n/\n<=9223372036854775807
def H5(b:Bld):List UInt8:=jk [b.id,b.owner,b.x,b.y,b.w,b.h]
def Db(u:Unt):List UInt8:=jk [u.id,u.owner,u.kind]++wg u.pos.1++wg u.pos.2++jk [u.goal+1,u.next+1,u.stuck,u.inn,u.state]
def I2(w:Wld):List UInt8:=
 [84,87]++jk [w.tick,w.players,w.next]++(yi (j7 w.G).length++j7 w.G)++(yi w.B.length++w.B.flatMap H5)++(yi w.U.length++w.U.flatMap Db)
def uz(b:Bld):Prop:=xl b.id/\xl b.owner/\xl b.x/\xl b.y/\xl b.w/\xl b.h
def zbl(u:Unt):Prop:=xl u.id/\xl u.owner/\xl u.kind/\I62 u.pos.1/\I62 u.pos.2/\xl (u.goal+1)/\xl (u.next+1)/\xl u.stuck/\xl u.inn/\xl u.state
def Vm(w:Wld):Prop:=xl w.tick/\xl w.players/\xl w.next/\zv w.G/\((w.B.length:Int)<=256/\∀b∈w.B,uz b)/\(w.U.length:Int)<=4096/\∀u∈w.U,zbl u
end Go.V
