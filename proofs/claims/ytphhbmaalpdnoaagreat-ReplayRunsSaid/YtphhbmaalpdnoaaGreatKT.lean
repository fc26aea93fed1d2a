/- Lemmas of thronglaw29; no conditions. -/
import Derived.Test.YtphhbmaalpdnoaaGreatKM
set_option linter.unusedSimpArgs false
set_option linter.unusedVariables false
set_option linter.defProp false
open List renaming length→Γ
open Option renaming some→Δ,none→Θ
namespace Go.V
section
variable {w:Wld} {u:Unt} {k:Nat}
def ti{v:Vc}:∀(n k:Nat) {r:Nat×Vc},qo w u v n k=Δ r->k<=r.1/\r.1<k+n:=by
 intro n;induction n with
 |zero=>intro k r h;cases h
 |succ n ih=>
  intro k r h;unfold qo at h;split at h
  .cases h
  .split at h
   .cases h;exact⟨Fai _,ζ⟩
   .have:=ih (k+1) h;omega
def Lj(w:Wld)(u:Unt)(v:Vc)(k:Nat):Prop:=qo w u v 5 0=qo w u v (5-k) k
def tj{v:Vc}(h:Lj w u v k)(b:k<5->vn v k=(0,0))(c:k<=5):qo w u v 5 0=Θ:=by
 rw[h];by_cases a:k<5
 .rw[show 5-k=(4-k)+1 by omega];unfold qo;rw[if_pos (b a)]
 .rw[show 5-k=0 by omega];rfl
def zkn{v:Vc}(h:Lj w u v k)(c:k<5)(b:vn v k≠(0,0))(a:qi w u.id u.kind (xp u.pos (vn v k))):qo w u v 5 0=Δ (k,xp u.pos (vn v k)):=by rw[h,show 5-k=(4-k)+1 by omega];unfold qo;rw[if_neg b,if_pos a]
def zko{v:Vc}(h:Lj w u v k)(c:k<5)(b:vn v k≠(0,0))(a:¬qi w u.id u.kind (xp u.pos (vn v k))):Lj w u v (k+1):=by
 unfold Lj;rw[h,show 5-k=(5-(k+1))+1 by omega]
 conv=>lhs;unfold qo
 rw[if_neg b,if_neg a]
def Vf{v:Vc}(h:qo w u (qy v) 5 0=Θ):Bj w u v=5/\xj w u v=w:=by unfold Bj xj;rw[h];exact⟨rfl,rfl⟩
def ft{v:Vc}{p:Vc}(h:qo w u (qy v) 5 0=Δ (k,p)):Bj w u v=k/\xj w u v=yj w {u with pos:=p}:=by unfold Bj xj;rw[h];exact⟨rfl,rfl⟩
theorem zkf(w:Wld)(u:Unt):Bj w u (0,0)=5/\xj w u (0,0)=w:=Vf (by have:vn (qy (0,0)) 0=(0,0):=ψ;unfold qo;rw[if_pos this])
end
end Go.V
namespace Go.V
end Go.V
