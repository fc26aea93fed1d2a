/- Ground of laws of thronglaw25: contracts and plain lemmas; no condition beyond the row's own. -/
import Derived.Test.YtdfpifbbcigelaaGreatKM
import Derived.Test.YtdfpifbbcigelaaGreatKN
set_option linter.unusedSimpArgs false
set_option linter.unusedVariables false
namespace Go.Proofs
open Go Go.V
set_option maxRecDepth 20000
set_option maxHeartbeats 4000000
theorem l7{n:Int}(h:(Lit.int .i64 n).wf=true):ya n:=by
 simp[Lit.wf,IntKind.min,IntKind.max,IntKind.signed,IntKind.bits]at h
 unfold ya
 omega
theorem fq:Codec Tryz.prog 2 Int yo ya:=(Codec.int Tryz.underlying2).weaken λ_ h=>l7 h
theorem qh:Codec Tryz.prog 3 Int yo ya:=(Codec.int Tryz.underlying3).weaken λ_ h=>l7 h
theorem zx2:Codec Tryz.prog 22 (List UInt8) (λl=>[qk l]) (λl=>l.length<=140737488355328):=
 (Codec.slice Tryz.underlying22 (k:=1) (by kernel_rfl) (by decide) (of_decide_eq_true (by kernel_rfl)) (Codec.byte Tryz.underlying5)).weaken λ_ h=>h.2
theorem zs3:Codec Tryz.prog 29 (List Int) (λl=>[jz l]) (λl=>l.length<=140737488355328/\∀n∈l,ya n):=
 (Codec.slice Tryz.underlying29 (k:=1) (by kernel_rfl) (by decide) (of_decide_eq_true (by kernel_rfl)) qh).weaken λ_ h=>⟨h.2,h.1⟩
theorem Vr:Codec Tryz.prog 34 Vc zx Vc.ok:=by
 refine⟨λ{H} enc w base held fuel cs x hx hw=>?_⟩
 have hu:=Tryz.underlying34
 have hl:cs.length=2:=(C8 hu hx).trans (by kernel_rfl)
 obtain⟨a0,q0,h0⟩:=yu hu hx hw 0 0 1 rfl rfl (by kernel_rfl) fq
 obtain⟨a1,q1,h1⟩:=yu hu hx hw 1 1 1 rfl rfl (by kernel_rfl) fq
 refine⟨(a0,a1),⟨q0,q1⟩,?_⟩
 have:=h0.cons rfl (h1.cons rfl (CellsOK.stop hl))
 rw[Fb8]at this
 exact this
theorem zun:Codec Tryz.prog 24 Gnd zo (λg=>g.T.length<=140737488355328):=by
 refine⟨λ{H} enc w base held fuel cs x hx hw=>?_⟩
 have hu:=Tryz.underlying24
 have hl:cs.length=3:=(C8 hu hx).trans (by kernel_rfl)
 obtain⟨a0,q0,h0⟩:=yu hu hx hw 0 0 1 rfl rfl (by kernel_rfl) qh
 obtain⟨a1,q1,h1⟩:=yu hu hx hw 1 1 1 rfl rfl (by kernel_rfl) qh
 obtain⟨a2,q2,h2⟩:=yu hu hx hw 2 2 1 rfl rfl (by kernel_rfl) zx2
 refine⟨⟨a0,a1,a2⟩,q2,?_⟩
 have:=h0.cons rfl (h1.cons rfl (h2.cons rfl (CellsOK.stop hl)))
 rw[Fb8]at this
 exact this
theorem zyb:Codec Tryz.prog 198 Bld zn (λ_=>True):=by
 refine⟨λ{H} enc w base held fuel cs x hx hw=>?_⟩
 have hu:=Tryz.underlying198
 have hl:cs.length=6:=(C8 hu hx).trans (by kernel_rfl)
 obtain⟨a0,q0,h0⟩:=yu hu hx hw 0 0 1 rfl rfl (by kernel_rfl) qh
 obtain⟨a1,q1,h1⟩:=yu hu hx hw 1 1 1 rfl rfl (by kernel_rfl) qh
 obtain⟨a2,q2,h2⟩:=yu hu hx hw 2 2 1 rfl rfl (by kernel_rfl) qh
 obtain⟨a3,q3,h3⟩:=yu hu hx hw 3 3 1 rfl rfl (by kernel_rfl) qh
 obtain⟨a4,q4,h4⟩:=yu hu hx hw 4 4 1 rfl rfl (by kernel_rfl) qh
 obtain⟨a5,q5,h5⟩:=yu hu hx hw 5 5 1 rfl rfl (by kernel_rfl) qh
 refine⟨⟨a0,a1,a2,a3,a4,a5⟩,Tv,?_⟩
 have:=h0.cons rfl (h1.cons rfl (h2.cons rfl (h3.cons rfl (h4.cons rfl (h5.cons rfl (CellsOK.stop hl))))))
 rw[Fb8]at this
 exact this
theorem zya:Codec Tryz.prog 25 (List Bld) (λl=>[lst 6 zn l]) (λl=>l.length<=140737488355328):=
 (Codec.slice Tryz.underlying25 (k:=6) (by kernel_rfl) (by decide) (of_decide_eq_true (by kernel_rfl)) zyb).weaken λ_ h=>h.2
theorem ph:Codec Tryz.prog 37 Unt zj (λu=>u.pos.ok):=by
 refine⟨λ{H} enc w base held fuel cs x hx hw=>?_⟩
 have hu:=Tryz.underlying37
 have hl:cs.length=10:=(C8 hu hx).trans (by kernel_rfl)
 obtain⟨a0,q0,h0⟩:=yu hu hx hw 0 0 1 rfl rfl (by kernel_rfl) qh
 obtain⟨a1,q1,h1⟩:=yu hu hx hw 1 1 1 rfl rfl (by kernel_rfl) qh
 obtain⟨a2,q2,h2⟩:=yu hu hx hw 2 2 1 rfl rfl (by kernel_rfl) qh
 obtain⟨a3,q3,h3⟩:=yu hu hx hw 3 3 2 rfl rfl (by kernel_rfl) Vr
 obtain⟨a4,q4,h4⟩:=yu hu hx hw 4 5 1 rfl rfl (by kernel_rfl) qh
 obtain⟨a5,q5,h5⟩:=yu hu hx hw 5 6 1 rfl rfl (by kernel_rfl) qh
 obtain⟨a6,q6,h6⟩:=yu hu hx hw 6 7 1 rfl rfl (by kernel_rfl) qh
 obtain⟨a7,q7,h7⟩:=yu hu hx hw 7 8 1 rfl rfl (by kernel_rfl) qh
 obtain⟨a8,q8,h8⟩:=yu hu hx hw 8 9 1 rfl rfl (by kernel_rfl) qh
 refine⟨⟨a0,a1,a2,a3,a4,a5,a6,a7,a8⟩,q3,?_⟩
 have:=h0.cons rfl (h1.cons rfl (h2.cons rfl (h3.cons rfl (h4.cons rfl (h5.cons rfl (h6.cons rfl (h7.cons rfl (h8.cons rfl (CellsOK.stop hl)))))))))
 rw[Fb8]at this
 exact this
theorem pe:Codec Tryz.prog 26 (List Unt) (λl=>[lst 10 zj l]) (λl=>l.length<=140737488355328/\∀u∈l,u.pos.ok):=
 (Codec.slice Tryz.underlying26 (k:=10) (by kernel_rfl) (by decide) (of_decide_eq_true (by kernel_rfl)) ph).weaken λ_ h=>⟨h.2,h.1⟩
theorem nt:Codec Tryz.prog 28 Wld zu (λw=>∀u∈w.U,u.pos.ok):=by
 refine⟨λ{H} enc w base held fuel cs x hx hw=>?_⟩
 have hu:=Tryz.underlying28
 have hl:cs.length=8:=(C8 hu hx).trans (by kernel_rfl)
 obtain⟨a0,q0,h0⟩:=yu hu hx hw 0 0 1 rfl rfl (by kernel_rfl) qh
 obtain⟨a1,q1,h1⟩:=yu hu hx hw 1 1 1 rfl rfl (by kernel_rfl) qh
 obtain⟨a2,q2,h2⟩:=yu hu hx hw 2 2 1 rfl rfl (by kernel_rfl) qh
 obtain⟨a3,q3,h3⟩:=yu hu hx hw 3 3 3 rfl rfl (by kernel_rfl) zun
 obtain⟨a4,q4,h4⟩:=yu hu hx hw 4 6 1 rfl rfl (by kernel_rfl) zya
 obtain⟨a5,q5,h5⟩:=yu hu hx hw 5 7 1 rfl rfl (by kernel_rfl) pe
 refine⟨⟨a0,a1,a2,a3,a4,a5⟩,q5.2,?_⟩
 have:=h0.cons rfl (h1.cons rfl (h2.cons rfl (h3.cons rfl (h4.cons rfl (h5.cons rfl (CellsOK.stop hl))))))
 rw[Fb8]at this
 exact this
theorem zxf:Codec Tryz.prog 96 Cmd vg Cmd.sized:=by
 refine⟨λ{H} enc w base held fuel cs x hx hw=>?_⟩
 have hu:=Tryz.underlying96
 have hl:cs.length=10:=(C8 hu hx).trans (by kernel_rfl)
 obtain⟨a0,q0,h0⟩:=yu hu hx hw 0 0 1 rfl rfl (by kernel_rfl) qh
 obtain⟨a1,q1,h1⟩:=yu hu hx hw 1 1 1 rfl rfl (by kernel_rfl) qh
 obtain⟨a2,q2,h2⟩:=yu hu hx hw 2 2 1 rfl rfl (by kernel_rfl) qh
 obtain⟨a3,q3,h3⟩:=yu hu hx hw 3 3 1 rfl rfl (by kernel_rfl) qh
 obtain⟨a4,q4,h4⟩:=yu hu hx hw 4 4 1 rfl rfl (by kernel_rfl) zs3
 obtain⟨a5,q5,h5⟩:=yu hu hx hw 5 5 1 rfl rfl (by kernel_rfl) qh
 obtain⟨a6,q6,h6⟩:=yu hu hx hw 6 6 1 rfl rfl (by kernel_rfl) qh
 obtain⟨a7,q7,h7⟩:=yu hu hx hw 7 7 1 rfl rfl (by kernel_rfl) qh
 obtain⟨a8,q8,h8⟩:=yu hu hx hw 8 8 2 rfl rfl (by kernel_rfl) Vr
 refine⟨⟨a0,a1,a2,a3,a4,a5,a6,a7,a8.1,a8.2⟩,q4.1,?_⟩
 have:=h0.cons rfl (h1.cons rfl (h2.cons rfl (h3.cons rfl (h4.cons rfl (h5.cons rfl (h6.cons rfl (h7.cons rfl (h8.cons rfl (CellsOK.stop hl)))))))))
 rw[Fb8]at this
 exact this
theorem zxe:Codec Tryz.prog 68 (List Cmd) (λl=>[lst 10 vg l]) (λl=>l.length<=140737488355328/\∀c∈l,c.sized):=
 (Codec.slice Tryz.underlying68 (k:=10) (by kernel_rfl) (by decide) (of_decide_eq_true (by kernel_rfl)) zxf).weaken λ_ h=>⟨h.2,h.1⟩
def Scr.good(s:Scr):Prop:=(∀u∈s.W.U,u.pos.ok)/\∀c∈s.L,c.sized
theorem zm5:Codec Tryz.prog 70 Scr O9 Scr.good:=by
 refine⟨λ{H} enc w base held fuel cs x hx hw=>?_⟩
 have hu:=Tryz.underlying70
 have hl:cs.length=9:=(C8 hu hx).trans (by kernel_rfl)
 obtain⟨a0,q0,h0⟩:=yu hu hx hw 0 0 8 rfl rfl (by kernel_rfl) nt
 obtain⟨a1,q1,h1⟩:=yu hu hx hw 1 8 1 rfl rfl (by kernel_rfl) zxe
 refine⟨⟨a0,a1⟩,⟨q0,q1.2⟩,?_⟩
 have:=h0.cons rfl (h1.cons rfl (CellsOK.stop hl))
 rw[Fb8]at this
 exact this
def Ask25.good(a:Ask25):Prop:=Scr.good a.S/\ya a.room/\ya a.n
theorem ask25_codec:Codec Tryz.prog 72 Ask25 Dx Ask25.good:=by
 refine⟨λ{H} enc w base held fuel cs x hx hw=>?_⟩
 have hu:=Tryz.underlying72
 have hl:cs.length=11:=(C8 hu hx).trans (by kernel_rfl)
 obtain⟨a0,q0,h0⟩:=yu hu hx hw 0 0 9 rfl rfl (by kernel_rfl) zm5
 obtain⟨a1,q1,h1⟩:=yu hu hx hw 1 9 1 rfl rfl (by kernel_rfl) qh
 obtain⟨a2,q2,h2⟩:=yu hu hx hw 2 10 1 rfl rfl (by kernel_rfl) qh
 refine⟨⟨a0,a1,a2⟩,⟨q0,q1,q2⟩,?_⟩
 have:=h0.cons rfl (h1.cons rfl (h2.cons rfl (CellsOK.stop hl)))
 rw[Fb8]at this
 exact this
end Go.Proofs
