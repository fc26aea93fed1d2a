/- Ground of laws of throngtop: contracts and plain lemmas; no condition beyond the row's own. -/
import Derived.Test.YtphhbmaalpdnoaaGreatKM
import Derived.Test.YtphhbmaalpdnoaaGreatKN
import Derived.Test.YtphhbmaalpdnoaaGreatKF
set_option linter.unusedSimpArgs false
set_option linter.unusedVariables false
set_option linter.defProp false
namespace Go.Proofs
open Go Go.V
set_option maxRecDepth 20000
set_option maxHeartbeats 4000000
theorem zf3{n:Int}(h:(Lit.int .i64 n).wf=true):yg n:=by simp[Lit.wf,IntKind.min,IntKind.max,IntKind.signed,IntKind.bits]at h;unfold yg;omega
theorem zda:Codec Tryz.prog 2 Int zv yg:=(Codec.int Tryz.underlying2).weaken λ_ h=>zf3 h
theorem xn:Codec Tryz.prog 3 Int zv yg:=(Codec.int Tryz.underlying3).weaken λ_ h=>zf3 h
theorem yrd:Codec Tryz.prog 22 (List UInt8) (λl=>[ya l]) (λl=>l.length<=140737488355328):=
 (Codec.slice Tryz.underlying22 (k:=1) κ ψ (of_decide_eq_true κ) (Codec.byte Tryz.underlying5)).weaken λ_ h=>h.2
theorem yk5:Codec Tryz.prog 63 (List Int) (λl=>[yh l]) (λl=>l.length<=140737488355328/\∀n∈l,yg n):=
 (Codec.slice Tryz.underlying63 (k:=1) κ ψ (of_decide_eq_true κ) xn).weaken λ_ h=>⟨h.2,h.1⟩
theorem rc:Codec Tryz.prog 65 Vc yd Vc.ok:=by refine⟨λ{H} enc w base held fuel cs x hx hw=>?_⟩;have hu:=Tryz.underlying65;have hl:cs.length=2:=(H6 hu hx).trans κ;obtain⟨a0,q0,h0⟩:=qo hu hx hw 0 0 1 rfl rfl κ zda;obtain⟨a1,q1,h1⟩:=qo hu hx hw 1 1 1 rfl rfl κ zda;refine⟨(a0,a1),⟨q0,q1⟩,?_⟩;have:=h0.cons rfl (h1.cons rfl (CellsOK.stop hl));rw[Fcm]at this;exact this
theorem ym9:Codec Tryz.prog 24 Gnd zu (λg=>g.T.length<=140737488355328):=by refine⟨λ{H} enc w base held fuel cs x hx hw=>?_⟩;have hu:=Tryz.underlying24;have hl:cs.length=3:=(H6 hu hx).trans κ;obtain⟨a0,q0,h0⟩:=qo hu hx hw 0 0 1 rfl rfl κ xn;obtain⟨a1,q1,h1⟩:=qo hu hx hw 1 1 1 rfl rfl κ xn;obtain⟨a2,q2,h2⟩:=qo hu hx hw 2 2 1 rfl rfl κ yrd;refine⟨⟨a0,a1,a2⟩,q2,?_⟩;have:=h0.cons rfl (h1.cons rfl (h2.cons rfl (CellsOK.stop hl)));rw[Fcm]at this;exact this
theorem yrv:Codec Tryz.prog 62 Bld zi (λ_=>True):=by refine⟨λ{H} enc w base held fuel cs x hx hw=>?_⟩;have hu:=Tryz.underlying62;have hl:cs.length=6:=(H6 hu hx).trans κ;obtain⟨a0,q0,h0⟩:=qo hu hx hw 0 0 1 rfl rfl κ xn;obtain⟨a1,q1,h1⟩:=qo hu hx hw 1 1 1 rfl rfl κ xn;obtain⟨a2,q2,h2⟩:=qo hu hx hw 2 2 1 rfl rfl κ xn;obtain⟨a3,q3,h3⟩:=qo hu hx hw 3 3 1 rfl rfl κ xn;obtain⟨a4,q4,h4⟩:=qo hu hx hw 4 4 1 rfl rfl κ xn;obtain⟨a5,q5,h5⟩:=qo hu hx hw 5 5 1 rfl rfl κ xn;refine⟨⟨a0,a1,a2,a3,a4,a5⟩,Tv,?_⟩;have:=h0.cons rfl (h1.cons rfl (h2.cons rfl (h3.cons rfl (h4.cons rfl (h5.cons rfl (CellsOK.stop hl))))));rw[Fcm]at this;exact this
theorem yrs:Codec Tryz.prog 25 (List Bld) (λl=>[lst 6 zi l]) (λl=>l.length<=140737488355328):=
 (Codec.slice Tryz.underlying25 (k:=6) κ ψ (of_decide_eq_true κ) yrv).weaken λ_ h=>h.2
theorem zir:Codec Tryz.prog 73 Unt zn (λu=>u.pos.ok):=by refine⟨λ{H} enc w base held fuel cs x hx hw=>?_⟩;have hu:=Tryz.underlying73;have hl:cs.length=10:=(H6 hu hx).trans κ;obtain⟨a0,q0,h0⟩:=qo hu hx hw 0 0 1 rfl rfl κ xn;obtain⟨a1,q1,h1⟩:=qo hu hx hw 1 1 1 rfl rfl κ xn;obtain⟨a2,q2,h2⟩:=qo hu hx hw 2 2 1 rfl rfl κ xn;obtain⟨a3,q3,h3⟩:=qo hu hx hw 3 3 2 rfl rfl κ rc;obtain⟨a4,q4,h4⟩:=qo hu hx hw 4 5 1 rfl rfl κ xn;obtain⟨a5,q5,h5⟩:=qo hu hx hw 5 6 1 rfl rfl κ xn;obtain⟨a6,q6,h6⟩:=qo hu hx hw 6 7 1 rfl rfl κ xn;obtain⟨a7,q7,h7⟩:=qo hu hx hw 7 8 1 rfl rfl κ xn;obtain⟨a8,q8,h8⟩:=qo hu hx hw 8 9 1 rfl rfl κ xn;refine⟨⟨a0,a1,a2,a3,a4,a5,a6,a7,a8⟩,q3,?_⟩;have:=h0.cons rfl (h1.cons rfl (h2.cons rfl (h3.cons rfl (h4.cons rfl (h5.cons rfl (h6.cons rfl (h7.cons rfl (h8.cons rfl (CellsOK.stop hl)))))))));rw[Fcm]at this;exact this
theorem zio:Codec Tryz.prog 26 (List Unt) (λl=>[lst 10 zn l]) (λl=>l.length<=140737488355328/\∀u∈l,u.pos.ok):=
 (Codec.slice Tryz.underlying26 (k:=10) κ ψ (of_decide_eq_true κ) zir).weaken λ_ h=>⟨h.2,h.1⟩
theorem zhu:Codec Tryz.prog 28 Wld zo (λw=>∀u∈w.U,u.pos.ok):=by refine⟨λ{H} enc w base held fuel cs x hx hw=>?_⟩;have hu:=Tryz.underlying28;have hl:cs.length=8:=(H6 hu hx).trans κ;obtain⟨a0,q0,h0⟩:=qo hu hx hw 0 0 1 rfl rfl κ xn;obtain⟨a1,q1,h1⟩:=qo hu hx hw 1 1 1 rfl rfl κ xn;obtain⟨a2,q2,h2⟩:=qo hu hx hw 2 2 1 rfl rfl κ xn;obtain⟨a3,q3,h3⟩:=qo hu hx hw 3 3 3 rfl rfl κ ym9;obtain⟨a4,q4,h4⟩:=qo hu hx hw 4 6 1 rfl rfl κ yrs;obtain⟨a5,q5,h5⟩:=qo hu hx hw 5 7 1 rfl rfl κ zio;refine⟨⟨a0,a1,a2,a3,a4,a5⟩,q5.2,?_⟩;have:=h0.cons rfl (h1.cons rfl (h2.cons rfl (h3.cons rfl (h4.cons rfl (h5.cons rfl (CellsOK.stop hl))))));rw[Fcm]at this;exact this
theorem yqq:Codec Tryz.prog 67 Cmd yz Cmd.sized:=by refine⟨λ{H} enc w base held fuel cs x hx hw=>?_⟩;have hu:=Tryz.underlying67;have hl:cs.length=10:=(H6 hu hx).trans κ;obtain⟨a0,q0,h0⟩:=qo hu hx hw 0 0 1 rfl rfl κ xn;obtain⟨a1,q1,h1⟩:=qo hu hx hw 1 1 1 rfl rfl κ xn;obtain⟨a2,q2,h2⟩:=qo hu hx hw 2 2 1 rfl rfl κ xn;obtain⟨a3,q3,h3⟩:=qo hu hx hw 3 3 1 rfl rfl κ xn;obtain⟨a4,q4,h4⟩:=qo hu hx hw 4 4 1 rfl rfl κ yk5;obtain⟨a5,q5,h5⟩:=qo hu hx hw 5 5 1 rfl rfl κ xn;obtain⟨a6,q6,h6⟩:=qo hu hx hw 6 6 1 rfl rfl κ xn;obtain⟨a7,q7,h7⟩:=qo hu hx hw 7 7 1 rfl rfl κ xn;obtain⟨a8,q8,h8⟩:=qo hu hx hw 8 8 2 rfl rfl κ rc;refine⟨⟨a0,a1,a2,a3,a4,a5,a6,a7,a8.1,a8.2⟩,q4.1,?_⟩;have:=h0.cons rfl (h1.cons rfl (h2.cons rfl (h3.cons rfl (h4.cons rfl (h5.cons rfl (h6.cons rfl (h7.cons rfl (h8.cons rfl (CellsOK.stop hl)))))))));rw[Fcm]at this;exact this
theorem yqo:Codec Tryz.prog 29 (List Cmd) (λl=>[lst 10 yz l]) (λl=>l.length<=140737488355328/\∀c∈l,c.sized):=
 (Codec.slice Tryz.underlying29 (k:=10) κ ψ (of_decide_eq_true κ) yqq).weaken λ_ h=>⟨h.2,h.1⟩
def Scr.good(s:Scr):Prop:=(∀u∈s.W.U,u.pos.ok)/\∀c∈s.L,c.sized
theorem zz0:Codec Tryz.prog 31 Scr fe Scr.good:=by refine⟨λ{H} enc w base held fuel cs x hx hw=>?_⟩;have hu:=Tryz.underlying31;have hl:cs.length=9:=(H6 hu hx).trans κ;obtain⟨a0,q0,h0⟩:=qo hu hx hw 0 0 8 rfl rfl κ zhu;obtain⟨a1,q1,h1⟩:=qo hu hx hw 1 8 1 rfl rfl κ yqo;refine⟨⟨a0,a1⟩,⟨q0,q1.2⟩,?_⟩;have:=h0.cons rfl (h1.cons rfl (CellsOK.stop hl));rw[Fcm]at this;exact this
def Ask25.good(a:Ask25):Prop:=Scr.good a.S/\yg a.room/\yg a.n
theorem ask25_codec:Codec Tryz.prog 33 Ask25 Ns Ask25.good:=by refine⟨λ{H} enc w base held fuel cs x hx hw=>?_⟩;have hu:=Tryz.underlying33;have hl:cs.length=11:=(H6 hu hx).trans κ;obtain⟨a0,q0,h0⟩:=qo hu hx hw 0 0 9 rfl rfl κ zz0;obtain⟨a1,q1,h1⟩:=qo hu hx hw 1 9 1 rfl rfl κ xn;obtain⟨a2,q2,h2⟩:=qo hu hx hw 2 10 1 rfl rfl κ xn;refine⟨⟨a0,a1,a2⟩,⟨q0,q1,q2⟩,?_⟩;have:=h0.cons rfl (h1.cons rfl (h2.cons rfl (CellsOK.stop hl)));rw[Fcm]at this;exact this
end Go.Proofs
