/- Ground of laws of thronglaw25: contracts and plain lemmas; no condition beyond the row's own. -/
import Derived.Test.YthjfdaifoocijaaGreatKQ
set_option linter.unusedSimpArgs false
set_option linter.unusedVariables false
set_option linter.defProp false
namespace Go.V
section
variable {w:Wld} {u:Unt} {k:Nat}
def nt{v:Vc}:∀(n k:Nat) {r:Nat×Vc},qk w u v n k=some r->k<=r.1/\r.1<k+n:=by
 intro n;induction n with
 |zero=>intro k r h;cases h
 |succ n ih=>
  intro k r h;unfold qk at h;split at h
  ·cases h
  ·split at h
   ·cases h;exact⟨Fal _,ζ⟩
   ·have:=ih (k+1) h;omega
def Ko(w:Wld)(u:Unt)(v:Vc)(k:Nat):Prop:=qk w u v 5 0=qk w u v (5-k) k
def nu{v:Vc}(h:Ko w u v k)(h2:k<5->vd v k=(0,0))(hk:k<=5):qk w u v 5 0=none:=by
 rw[h];by_cases h5:k<5
 ·rw[show 5-k=(4-k)+1 by omega];unfold qk;rw[if_pos (h2 h5)]
 ·rw[show 5-k=0 by omega];rfl
def zgx{v:Vc}(h:Ko w u v k)(hk:k<5)(h1:vd v k≠(0,0))(h2:qh w u.id u.kind (xn u.pos (vd v k))):qk w u v 5 0=some (k,xn u.pos (vd v k)):=by rw[h,show 5-k=(4-k)+1 by omega];unfold qk;rw[if_neg h1,if_pos h2]
def zgy{v:Vc}(h:Ko w u v k)(hk:k<5)(h1:vd v k≠(0,0))(h2:¬qh w u.id u.kind (xn u.pos (vd v k))):Ko w u v (k+1):=by
 unfold Ko;rw[h,show 5-k=(5-(k+1))+1 by omega]
 conv=>lhs;unfold qk
 rw[if_neg h1,if_neg h2]
def Rb{v:Vc}(h:qk w u (qu v) 5 0=none):Am w u v=5/\xk w u v=w:=by unfold Am xk;rw[h];exact⟨rfl,rfl⟩
def W7{v:Vc}{p:Vc}(h:qk w u (qu v) 5 0=some (k,p)):Am w u v=k/\xk w u v=yk w {u with pos:=p}:=by unfold Am xk;rw[h];exact⟨rfl,rfl⟩
theorem zgp(w:Wld)(u:Unt):Am w u (0,0)=5/\xk w u (0,0)=w:=Rb (by have:vd (qu (0,0)) 0=(0,0):=ψ;unfold qk;rw[if_pos this])
end
end Go.V
namespace Go.V
end Go.V
