/- Ground of laws of throngtop: contracts and plain lemmas; no condition beyond the row's own. -/
import Derived.Test.YtkahacegdhllcaaGreatKL
import Derived.Test.YtkahacegdhllcaaGreatKM
set_option linter.unusedSimpArgs false
set_option linter.unusedVariables false
set_option linter.defProp false
namespace Go.Proofs
open Go Go.V
set_option maxRecDepth 20000
set_option maxHeartbeats 4000000
def zka{n:Int}(h:(Lit.int .i64 n).wf=true):yu n:=by simp[Lit.wf,IntKind.min,IntKind.max,IntKind.signed,IntKind.bits]at h;unfold yu;omega
def zhd:Codec Tryz.prog 2 Int zn yu:=(Codec.int Tryz.underlying2).weaken λ_ h=>zka h
def By:Codec Tryz.prog 3 Int zn yu:=(Codec.int Tryz.underlying3).weaken λ_ h=>zka h
def ys9:Codec Tryz.prog 22 (List UInt8) (λl=>[qa l]) (λl=>l.length<=140737488355328):=
 (Codec.slice Tryz.underlying22 (k:=1) κ ψ (of_decide_eq_true κ) (Codec.byte Tryz.underlying5)).weaken λ_ h=>h.2
def yma:Codec Tryz.prog 29 (List Int) (λl=>[yc l]) (λl=>l.length<=140737488355328/\∀n∈l,yu n):=
 (Codec.slice Tryz.underlying29 (k:=1) κ ψ (of_decide_eq_true κ) By).weaken λ_ h=>⟨h.2,h.1⟩
def zmm:Codec Tryz.prog 92 Vc yp Vc.ok:=by refine⟨λ{H} enc w base held fuel cs x hx hw=>?_⟩;have hu:=Tryz.underlying92;have hl:cs.length=2:=(Px hu hx).trans κ;have⟨a0,q0,h0⟩:=kk hu hx hw 0 0 1 rfl rfl κ zhd;have⟨a1,q1,h1⟩:=kk hu hx hw 1 1 1 rfl rfl κ zhd;refine⟨(a0,a1),⟨q0,q1⟩,?_⟩;have:=h0.cons rfl (h1.cons rfl (CellsOK.stop hl));rw[Fda]at this;exact this
def yoj:Codec Tryz.prog 24 Gnd zw (λg=>g.T.length<=140737488355328):=by refine⟨λ{H} enc w base held fuel cs x hx hw=>?_⟩;have hu:=Tryz.underlying24;have hl:cs.length=3:=(Px hu hx).trans κ;have⟨a0,q0,h0⟩:=kk hu hx hw 0 0 1 rfl rfl κ By;have⟨a1,q1,h1⟩:=kk hu hx hw 1 1 1 rfl rfl κ By;have⟨a2,q2,h2⟩:=kk hu hx hw 2 2 1 rfl rfl κ ys9;refine⟨⟨a0,a1,a2⟩,q2,?_⟩;have:=h0.cons rfl (h1.cons rfl (h2.cons rfl (CellsOK.stop hl)));rw[Fda]at this;exact this
def ysh:Codec Tryz.prog 137 Cmd zz Cmd.sized:=by refine⟨λ{H} enc w base held fuel cs x hx hw=>?_⟩;have hu:=Tryz.underlying137;have hl:cs.length=10:=(Px hu hx).trans κ;have⟨a0,q0,h0⟩:=kk hu hx hw 0 0 1 rfl rfl κ By;have⟨a1,q1,h1⟩:=kk hu hx hw 1 1 1 rfl rfl κ By;have⟨a2,q2,h2⟩:=kk hu hx hw 2 2 1 rfl rfl κ By;have⟨a3,q3,h3⟩:=kk hu hx hw 3 3 1 rfl rfl κ By;have⟨a4,q4,h4⟩:=kk hu hx hw 4 4 1 rfl rfl κ yma;have⟨a5,q5,h5⟩:=kk hu hx hw 5 5 1 rfl rfl κ By;have⟨a6,q6,h6⟩:=kk hu hx hw 6 6 1 rfl rfl κ By;have⟨a7,q7,h7⟩:=kk hu hx hw 7 7 1 rfl rfl κ By;have⟨a8,q8,h8⟩:=kk hu hx hw 8 8 2 rfl rfl κ zmm;refine⟨⟨a0,a1,a2,a3,a4,a5,a6,a7,a8.1,a8.2⟩,q4.1,?_⟩;have:=h0.cons rfl (h1.cons rfl (h2.cons rfl (h3.cons rfl (h4.cons rfl (h5.cons rfl (h6.cons rfl (h7.cons rfl (h8.cons rfl (CellsOK.stop hl)))))))));rw[Fda]at this;exact this
def ysg:Codec Tryz.prog 58 (List Cmd) (λl=>[lst 10 zz l]) (λl=>l.length<=140737488355328/\∀c∈l,c.sized):=
 (Codec.slice Tryz.underlying58 (k:=10) κ ψ (of_decide_eq_true κ) ysh).weaken λ_ h=>⟨h.2,h.1⟩
def Scr.good(s:Scr):Prop:=(∀u∈s.W.U,u.pos.ok)/\∀c∈s.L,c.sized
end Go.Proofs
