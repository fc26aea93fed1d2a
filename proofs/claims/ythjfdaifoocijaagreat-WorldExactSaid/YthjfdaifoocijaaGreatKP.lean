/- Ground of laws of thronglaw25: contracts and plain lemmas; no condition beyond the row's own. -/
import Derived.Test.YthjfdaifoocijaaGreatKN
import Derived.Test.YthjfdaifoocijaaGreatKO
set_option linter.unusedSimpArgs false
set_option linter.unusedVariables false
set_option linter.defProp false
namespace Go.Proofs
open Go Go.V
set_option maxRecDepth 20000
set_option maxHeartbeats 4000000
def zdy{n:Int}(h:(Lit.int .i64 n).wf=true):ym n:=by simp[Lit.wf,IntKind.min,IntKind.max,IntKind.signed,IntKind.bits]at h;unfold ym;omega
def zbd:Codec Tryz.prog 2 Int zx ym:=(Codec.int Tryz.underlying2).weaken λ_ h=>zdy h
def jh:Codec Tryz.prog 3 Int zx ym:=(Codec.int Tryz.underlying3).weaken λ_ h=>zdy h
def ymy:Codec Tryz.prog 22 (List UInt8) (λl=>[jt l]) (λl=>l.length<=140737488355328):=
 (Codec.slice Tryz.underlying22 (k:=1) κ ψ (of_decide_eq_true κ) (Codec.byte Tryz.underlying5)).weaken λ_ h=>h.2
def ygy:Codec Tryz.prog 29 (List Int) (λl=>[y9 l]) (λl=>l.length<=140737488355328/\∀n∈l,ym n):=
 (Codec.slice Tryz.underlying29 (k:=1) κ ψ (of_decide_eq_true κ) jh).weaken λ_ h=>⟨h.2,h.1⟩
def mp:Codec Tryz.prog 34 Vc zu Vc.ok:=by refine⟨λ{H} enc w base held fuel cs x hx hw=>?_⟩;have hu:=Tryz.underlying34;have hl:cs.length=2:=(H5 hu hx).trans κ;obtain⟨a0,q0,h0⟩:=qz hu hx hw 0 0 1 rfl rfl κ zbd;obtain⟨a1,q1,h1⟩:=qz hu hx hw 1 1 1 rfl rfl κ zbd;refine⟨(a0,a1),⟨q0,q1⟩,?_⟩;have:=h0.cons rfl (h1.cons rfl (CellsOK.stop hl));rw[Fcb]at this;exact this
def yiq:Codec Tryz.prog 24 Gnd zq (λg=>g.T.length<=140737488355328):=by refine⟨λ{H} enc w base held fuel cs x hx hw=>?_⟩;have hu:=Tryz.underlying24;have hl:cs.length=3:=(H5 hu hx).trans κ;obtain⟨a0,q0,h0⟩:=qz hu hx hw 0 0 1 rfl rfl κ jh;obtain⟨a1,q1,h1⟩:=qz hu hx hw 1 1 1 rfl rfl κ jh;obtain⟨a2,q2,h2⟩:=qz hu hx hw 2 2 1 rfl rfl κ ymy;refine⟨⟨a0,a1,a2⟩,q2,?_⟩;have:=h0.cons rfl (h1.cons rfl (h2.cons rfl (CellsOK.stop hl)));rw[Fcb]at this;exact this
def ym8:Codec Tryz.prog 164 Bld zi (λ_=>True):=by refine⟨λ{H} enc w base held fuel cs x hx hw=>?_⟩;have hu:=Tryz.underlying164;have hl:cs.length=6:=(H5 hu hx).trans κ;obtain⟨a0,q0,h0⟩:=qz hu hx hw 0 0 1 rfl rfl κ jh;obtain⟨a1,q1,h1⟩:=qz hu hx hw 1 1 1 rfl rfl κ jh;obtain⟨a2,q2,h2⟩:=qz hu hx hw 2 2 1 rfl rfl κ jh;obtain⟨a3,q3,h3⟩:=qz hu hx hw 3 3 1 rfl rfl κ jh;obtain⟨a4,q4,h4⟩:=qz hu hx hw 4 4 1 rfl rfl κ jh;obtain⟨a5,q5,h5⟩:=qz hu hx hw 5 5 1 rfl rfl κ jh;refine⟨⟨a0,a1,a2,a3,a4,a5⟩,Tv,?_⟩;have:=h0.cons rfl (h1.cons rfl (h2.cons rfl (h3.cons rfl (h4.cons rfl (h5.cons rfl (CellsOK.stop hl))))));rw[Fcb]at this;exact this
def ym7:Codec Tryz.prog 25 (List Bld) (λl=>[lst 6 zi l]) (λl=>l.length<=140737488355328):=
 (Codec.slice Tryz.underlying25 (k:=6) κ ψ (of_decide_eq_true κ) ym8).weaken λ_ h=>h.2
def zf9:Codec Tryz.prog 37 Unt zf (λu=>u.pos.ok):=by refine⟨λ{H} enc w base held fuel cs x hx hw=>?_⟩;have hu:=Tryz.underlying37;have hl:cs.length=10:=(H5 hu hx).trans κ;obtain⟨a0,q0,h0⟩:=qz hu hx hw 0 0 1 rfl rfl κ jh;obtain⟨a1,q1,h1⟩:=qz hu hx hw 1 1 1 rfl rfl κ jh;obtain⟨a2,q2,h2⟩:=qz hu hx hw 2 2 1 rfl rfl κ jh;obtain⟨a3,q3,h3⟩:=qz hu hx hw 3 3 2 rfl rfl κ mp;obtain⟨a4,q4,h4⟩:=qz hu hx hw 4 5 1 rfl rfl κ jh;obtain⟨a5,q5,h5⟩:=qz hu hx hw 5 6 1 rfl rfl κ jh;obtain⟨a6,q6,h6⟩:=qz hu hx hw 6 7 1 rfl rfl κ jh;obtain⟨a7,q7,h7⟩:=qz hu hx hw 7 8 1 rfl rfl κ jh;obtain⟨a8,q8,h8⟩:=qz hu hx hw 8 9 1 rfl rfl κ jh;refine⟨⟨a0,a1,a2,a3,a4,a5,a6,a7,a8⟩,q3,?_⟩;have:=h0.cons rfl (h1.cons rfl (h2.cons rfl (h3.cons rfl (h4.cons rfl (h5.cons rfl (h6.cons rfl (h7.cons rfl (h8.cons rfl (CellsOK.stop hl)))))))));rw[Fcb]at this;exact this
def zf8:Codec Tryz.prog 26 (List Unt) (λl=>[lst 10 zf l]) (λl=>l.length<=140737488355328/\∀u∈l,u.pos.ok):=
 (Codec.slice Tryz.underlying26 (k:=10) κ ψ (of_decide_eq_true κ) zf9).weaken λ_ h=>⟨h.2,h.1⟩
def zfj:Codec Tryz.prog 28 Wld zp (λw=>∀u∈w.U,u.pos.ok):=by refine⟨λ{H} enc w base held fuel cs x hx hw=>?_⟩;have hu:=Tryz.underlying28;have hl:cs.length=8:=(H5 hu hx).trans κ;obtain⟨a0,q0,h0⟩:=qz hu hx hw 0 0 1 rfl rfl κ jh;obtain⟨a1,q1,h1⟩:=qz hu hx hw 1 1 1 rfl rfl κ jh;obtain⟨a2,q2,h2⟩:=qz hu hx hw 2 2 1 rfl rfl κ jh;obtain⟨a3,q3,h3⟩:=qz hu hx hw 3 3 3 rfl rfl κ yiq;obtain⟨a4,q4,h4⟩:=qz hu hx hw 4 6 1 rfl rfl κ ym7;obtain⟨a5,q5,h5⟩:=qz hu hx hw 5 7 1 rfl rfl κ zf8;refine⟨⟨a0,a1,a2,a3,a4,a5⟩,q5.2,?_⟩;have:=h0.cons rfl (h1.cons rfl (h2.cons rfl (h3.cons rfl (h4.cons rfl (h5.cons rfl (CellsOK.stop hl))))));rw[Fcb]at this;exact this
def yma:Codec Tryz.prog 139 Cmd yh Cmd.sized:=by refine⟨λ{H} enc w base held fuel cs x hx hw=>?_⟩;have hu:=Tryz.underlying139;have hl:cs.length=10:=(H5 hu hx).trans κ;obtain⟨a0,q0,h0⟩:=qz hu hx hw 0 0 1 rfl rfl κ jh;obtain⟨a1,q1,h1⟩:=qz hu hx hw 1 1 1 rfl rfl κ jh;obtain⟨a2,q2,h2⟩:=qz hu hx hw 2 2 1 rfl rfl κ jh;obtain⟨a3,q3,h3⟩:=qz hu hx hw 3 3 1 rfl rfl κ jh;obtain⟨a4,q4,h4⟩:=qz hu hx hw 4 4 1 rfl rfl κ ygy;obtain⟨a5,q5,h5⟩:=qz hu hx hw 5 5 1 rfl rfl κ jh;obtain⟨a6,q6,h6⟩:=qz hu hx hw 6 6 1 rfl rfl κ jh;obtain⟨a7,q7,h7⟩:=qz hu hx hw 7 7 1 rfl rfl κ jh;obtain⟨a8,q8,h8⟩:=qz hu hx hw 8 8 2 rfl rfl κ mp;refine⟨⟨a0,a1,a2,a3,a4,a5,a6,a7,a8.1,a8.2⟩,q4.1,?_⟩;have:=h0.cons rfl (h1.cons rfl (h2.cons rfl (h3.cons rfl (h4.cons rfl (h5.cons rfl (h6.cons rfl (h7.cons rfl (h8.cons rfl (CellsOK.stop hl)))))))));rw[Fcb]at this;exact this
def yl9:Codec Tryz.prog 61 (List Cmd) (λl=>[lst 10 yh l]) (λl=>l.length<=140737488355328/\∀c∈l,c.sized):=
 (Codec.slice Tryz.underlying61 (k:=10) κ ψ (of_decide_eq_true κ) yma).weaken λ_ h=>⟨h.2,h.1⟩
def Scr.good(s:Scr):Prop:=(∀u∈s.W.U,u.pos.ok)/\∀c∈s.L,c.sized
def zva:Codec Tryz.prog 63 Scr ce Scr.good:=by refine⟨λ{H} enc w base held fuel cs x hx hw=>?_⟩;have hu:=Tryz.underlying63;have hl:cs.length=9:=(H5 hu hx).trans κ;obtain⟨a0,q0,h0⟩:=qz hu hx hw 0 0 8 rfl rfl κ zfj;obtain⟨a1,q1,h1⟩:=qz hu hx hw 1 8 1 rfl rfl κ yl9;refine⟨⟨a0,a1⟩,⟨q0,q1.2⟩,?_⟩;have:=h0.cons rfl (h1.cons rfl (CellsOK.stop hl));rw[Fcb]at this;exact this
def Ask25.good(a:Ask25):Prop:=Scr.good a.S/\ym a.room/\ym a.n
def ask25_codec:Codec Tryz.prog 65 Ask25 Lm Ask25.good:=by refine⟨λ{H} enc w base held fuel cs x hx hw=>?_⟩;have hu:=Tryz.underlying65;have hl:cs.length=11:=(H5 hu hx).trans κ;obtain⟨a0,q0,h0⟩:=qz hu hx hw 0 0 9 rfl rfl κ zva;obtain⟨a1,q1,h1⟩:=qz hu hx hw 1 9 1 rfl rfl κ jh;obtain⟨a2,q2,h2⟩:=qz hu hx hw 2 10 1 rfl rfl κ jh;refine⟨⟨a0,a1,a2⟩,⟨q0,q1,q2⟩,?_⟩;have:=h0.cons rfl (h1.cons rfl (h2.cons rfl (CellsOK.stop hl)));rw[Fcb]at this;exact this
end Go.Proofs
