/- Ground of laws of thronglaw30: contracts and plain lemmas; no condition beyond the row's own. -/
import Derived.Test.YtieceacpbjcddaaGreatKD
set_option linter.unusedSimpArgs false
set_option linter.unusedVariables false
set_option linter.defProp false
namespace Go.V
end Go.V
namespace Go.V
end Go.V
namespace Go.V
end Go.V
namespace Go.V
def qg(n:Int):Prop:=0<=n/\n<=9223372036854775807
def Di(b:Bld):List UInt8:=xq [b.id,b.owner,b.x,b.y,b.w,b.h]
def wn(u:Unt):List UInt8:=xq [u.id,u.owner,u.kind]++Ah u.pos.1++Ah u.pos.2++xq [u.goal+1,u.next+1,u.stuck,u.inn,u.state]
def D8(w:Wld):List UInt8:=
 [84,87]++xq [w.tick,w.players,w.next]++(qe (Bl w.G).length++Bl w.G)++(qe w.B.length++w.B.flatMap Di)++(qe w.U.length++w.U.flatMap wn)
def bu(b:Bld):Prop:=qg b.id/\qg b.owner/\qg b.x/\qg b.y/\qg b.w/\qg b.h
def dp(u:Unt):Prop:=qg u.id/\qg u.owner/\qg u.kind/\I62 u.pos.1/\I62 u.pos.2/\qg (u.goal+1)/\qg (u.next+1)/\qg u.stuck/\qg u.inn/\qg u.state
def Mm(w:Wld):Prop:=qg w.tick/\qg w.players/\qg w.next/\zp w.G/\((w.B.length:Int)<=256/\∀b∈w.B,bu b)/\(w.U.length:Int)<=4096/\∀u∈w.U,dp u
end Go.V
