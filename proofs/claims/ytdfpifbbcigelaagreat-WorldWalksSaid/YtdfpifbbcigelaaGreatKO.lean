/- Ground of laws of thronglaw25: contracts and plain lemmas; no condition beyond the row's own. -/
import Derived.Test.YtdfpifbbcigelaaGreatKM
import Derived.Test.YtdfpifbbcigelaaGreatKN
set_option linter.unusedSimpArgs false
set_option linter.unusedVariables false
namespace Go.Proofs
open Go Go.V
set_option maxRecDepth 20000
set_option maxHeartbeats 4000000
theorem tt{n:Int}(h:(Lit.int .i64 n).wf=true):ya n:=by
 simp[Lit.wf,IntKind.min,IntKind.max,IntKind.signed,IntKind.bits]at h
 unfold ya
 omega
theorem om:Codec Tryz.prog 2 Int zz ya:=(Codec.int Tryz.underlying2).weaken λ_ h=>tt h
theorem qx:Codec Tryz.prog 3 Int zz ya:=(Codec.int Tryz.underlying3).weaken λ_ h=>tt h
theorem yft:Codec Tryz.prog 22 (List UInt8) (λl=>[xc l]) (λl=>l.length<=140737488355328):=
 (Codec.slice Tryz.underlying22 (k:=1) (by kernel_rfl) (by decide) (of_decide_eq_true (by kernel_rfl)) (Codec.byte Tryz.underlying5)).weaken λ_ h=>h.2
theorem yaj:Codec Tryz.prog 29 (List Int) (λl=>[qa l]) (λl=>l.length<=140737488355328/\∀n∈l,ya n):=
 (Codec.slice Tryz.underlying29 (k:=1) (by kernel_rfl) (by decide) (of_decide_eq_true (by kernel_rfl)) qx).weaken λ_ h=>⟨h.2,h.1⟩
theorem df:Codec Tryz.prog 34 Vc zy Vc.ok:=by
 refine⟨λ{H} enc w base held fuel cs x hx hw=>?_⟩
 have hu:=Tryz.underlying34
 have hl:cs.length=2:=(F8 hu hx).trans (by kernel_rfl)
 obtain⟨a0,q0,h0⟩:=qg hu hx hw 0 0 1 rfl rfl (by kernel_rfl) om
 obtain⟨a1,q1,h1⟩:=qg hu hx hw 1 1 1 rfl rfl (by kernel_rfl) om
 refine⟨(a0,a1),⟨q0,q1⟩,?_⟩
 have:=h0.cons rfl (h1.cons rfl (CellsOK.stop hl))
 rw[Fce]at this
 exact this
theorem yb7:Codec Tryz.prog 24 Gnd zo (λg=>g.T.length<=140737488355328):=by
 refine⟨λ{H} enc w base held fuel cs x hx hw=>?_⟩
 have hu:=Tryz.underlying24
 have hl:cs.length=3:=(F8 hu hx).trans (by kernel_rfl)
 obtain⟨a0,q0,h0⟩:=qg hu hx hw 0 0 1 rfl rfl (by kernel_rfl) qx
 obtain⟨a1,q1,h1⟩:=qg hu hx hw 1 1 1 rfl rfl (by kernel_rfl) qx
 obtain⟨a2,q2,h2⟩:=qg hu hx hw 2 2 1 rfl rfl (by kernel_rfl) yft
 refine⟨⟨a0,a1,a2⟩,q2,?_⟩
 have:=h0.cons rfl (h1.cons rfl (h2.cons rfl (CellsOK.stop hl)))
 rw[Fce]at this
 exact this
theorem yf2:Codec Tryz.prog 198 Bld zi (λ_=>True):=by
 refine⟨λ{H} enc w base held fuel cs x hx hw=>?_⟩
 have hu:=Tryz.underlying198
 have hl:cs.length=6:=(F8 hu hx).trans (by kernel_rfl)
 obtain⟨a0,q0,h0⟩:=qg hu hx hw 0 0 1 rfl rfl (by kernel_rfl) qx
 obtain⟨a1,q1,h1⟩:=qg hu hx hw 1 1 1 rfl rfl (by kernel_rfl) qx
 obtain⟨a2,q2,h2⟩:=qg hu hx hw 2 2 1 rfl rfl (by kernel_rfl) qx
 obtain⟨a3,q3,h3⟩:=qg hu hx hw 3 3 1 rfl rfl (by kernel_rfl) qx
 obtain⟨a4,q4,h4⟩:=qg hu hx hw 4 4 1 rfl rfl (by kernel_rfl) qx
 obtain⟨a5,q5,h5⟩:=qg hu hx hw 5 5 1 rfl rfl (by kernel_rfl) qx
 refine⟨⟨a0,a1,a2,a3,a4,a5⟩,Tv,?_⟩
 have:=h0.cons rfl (h1.cons rfl (h2.cons rfl (h3.cons rfl (h4.cons rfl (h5.cons rfl (CellsOK.stop hl))))))
 rw[Fce]at this
 exact this
theorem yf1:Codec Tryz.prog 25 (List Bld) (λl=>[lst 6 zi l]) (λl=>l.length<=140737488355328):=
 (Codec.slice Tryz.underlying25 (k:=6) (by kernel_rfl) (by decide) (of_decide_eq_true (by kernel_rfl)) yf2).weaken λ_ h=>h.2
theorem zb3:Codec Tryz.prog 37 Unt zk (λu=>u.pos.ok):=by
 refine⟨λ{H} enc w base held fuel cs x hx hw=>?_⟩
 have hu:=Tryz.underlying37
 have hl:cs.length=10:=(F8 hu hx).trans (by kernel_rfl)
 obtain⟨a0,q0,h0⟩:=qg hu hx hw 0 0 1 rfl rfl (by kernel_rfl) qx
 obtain⟨a1,q1,h1⟩:=qg hu hx hw 1 1 1 rfl rfl (by kernel_rfl) qx
 obtain⟨a2,q2,h2⟩:=qg hu hx hw 2 2 1 rfl rfl (by kernel_rfl) qx
 obtain⟨a3,q3,h3⟩:=qg hu hx hw 3 3 2 rfl rfl (by kernel_rfl) df
 obtain⟨a4,q4,h4⟩:=qg hu hx hw 4 5 1 rfl rfl (by kernel_rfl) qx
 obtain⟨a5,q5,h5⟩:=qg hu hx hw 5 6 1 rfl rfl (by kernel_rfl) qx
 obtain⟨a6,q6,h6⟩:=qg hu hx hw 6 7 1 rfl rfl (by kernel_rfl) qx
 obtain⟨a7,q7,h7⟩:=qg hu hx hw 7 8 1 rfl rfl (by kernel_rfl) qx
 obtain⟨a8,q8,h8⟩:=qg hu hx hw 8 9 1 rfl rfl (by kernel_rfl) qx
 refine⟨⟨a0,a1,a2,a3,a4,a5,a6,a7,a8⟩,q3,?_⟩
 have:=h0.cons rfl (h1.cons rfl (h2.cons rfl (h3.cons rfl (h4.cons rfl (h5.cons rfl (h6.cons rfl (h7.cons rfl (h8.cons rfl (CellsOK.stop hl)))))))))
 rw[Fce]at this
 exact this
theorem zb2:Codec Tryz.prog 26 (List Unt) (λl=>[lst 10 zk l]) (λl=>l.length<=140737488355328/\∀u∈l,u.pos.ok):=
 (Codec.slice Tryz.underlying26 (k:=10) (by kernel_rfl) (by decide) (of_decide_eq_true (by kernel_rfl)) zb3).weaken λ_ h=>⟨h.2,h.1⟩
theorem za2:Codec Tryz.prog 28 Wld zw (λw=>∀u∈w.U,u.pos.ok):=by
 refine⟨λ{H} enc w base held fuel cs x hx hw=>?_⟩
 have hu:=Tryz.underlying28
 have hl:cs.length=8:=(F8 hu hx).trans (by kernel_rfl)
 obtain⟨a0,q0,h0⟩:=qg hu hx hw 0 0 1 rfl rfl (by kernel_rfl) qx
 obtain⟨a1,q1,h1⟩:=qg hu hx hw 1 1 1 rfl rfl (by kernel_rfl) qx
 obtain⟨a2,q2,h2⟩:=qg hu hx hw 2 2 1 rfl rfl (by kernel_rfl) qx
 obtain⟨a3,q3,h3⟩:=qg hu hx hw 3 3 3 rfl rfl (by kernel_rfl) yb7
 obtain⟨a4,q4,h4⟩:=qg hu hx hw 4 6 1 rfl rfl (by kernel_rfl) yf1
 obtain⟨a5,q5,h5⟩:=qg hu hx hw 5 7 1 rfl rfl (by kernel_rfl) zb2
 refine⟨⟨a0,a1,a2,a3,a4,a5⟩,q5.2,?_⟩
 have:=h0.cons rfl (h1.cons rfl (h2.cons rfl (h3.cons rfl (h4.cons rfl (h5.cons rfl (CellsOK.stop hl))))))
 rw[Fce]at this
 exact this
theorem ye7:Codec Tryz.prog 96 Cmd qu Cmd.sized:=by
 refine⟨λ{H} enc w base held fuel cs x hx hw=>?_⟩
 have hu:=Tryz.underlying96
 have hl:cs.length=10:=(F8 hu hx).trans (by kernel_rfl)
 obtain⟨a0,q0,h0⟩:=qg hu hx hw 0 0 1 rfl rfl (by kernel_rfl) qx
 obtain⟨a1,q1,h1⟩:=qg hu hx hw 1 1 1 rfl rfl (by kernel_rfl) qx
 obtain⟨a2,q2,h2⟩:=qg hu hx hw 2 2 1 rfl rfl (by kernel_rfl) qx
 obtain⟨a3,q3,h3⟩:=qg hu hx hw 3 3 1 rfl rfl (by kernel_rfl) qx
 obtain⟨a4,q4,h4⟩:=qg hu hx hw 4 4 1 rfl rfl (by kernel_rfl) yaj
 obtain⟨a5,q5,h5⟩:=qg hu hx hw 5 5 1 rfl rfl (by kernel_rfl) qx
 obtain⟨a6,q6,h6⟩:=qg hu hx hw 6 6 1 rfl rfl (by kernel_rfl) qx
 obtain⟨a7,q7,h7⟩:=qg hu hx hw 7 7 1 rfl rfl (by kernel_rfl) qx
 obtain⟨a8,q8,h8⟩:=qg hu hx hw 8 8 2 rfl rfl (by kernel_rfl) df
 refine⟨⟨a0,a1,a2,a3,a4,a5,a6,a7,a8.1,a8.2⟩,q4.1,?_⟩
 have:=h0.cons rfl (h1.cons rfl (h2.cons rfl (h3.cons rfl (h4.cons rfl (h5.cons rfl (h6.cons rfl (h7.cons rfl (h8.cons rfl (CellsOK.stop hl)))))))))
 rw[Fce]at this
 exact this
theorem ye5:Codec Tryz.prog 68 (List Cmd) (λl=>[lst 10 qu l]) (λl=>l.length<=140737488355328/\∀c∈l,c.sized):=
 (Codec.slice Tryz.underlying68 (k:=10) (by kernel_rfl) (by decide) (of_decide_eq_true (by kernel_rfl)) ye7).weaken λ_ h=>⟨h.2,h.1⟩
def Scr.good(s:Scr):Prop:=(∀u∈s.W.U,u.pos.ok)/\∀c∈s.L,c.sized
theorem zr7:Codec Tryz.prog 70 Scr Sm Scr.good:=by
 refine⟨λ{H} enc w base held fuel cs x hx hw=>?_⟩
 have hu:=Tryz.underlying70
 have hl:cs.length=9:=(F8 hu hx).trans (by kernel_rfl)
 obtain⟨a0,q0,h0⟩:=qg hu hx hw 0 0 8 rfl rfl (by kernel_rfl) za2
 obtain⟨a1,q1,h1⟩:=qg hu hx hw 1 8 1 rfl rfl (by kernel_rfl) ye5
 refine⟨⟨a0,a1⟩,⟨q0,q1.2⟩,?_⟩
 have:=h0.cons rfl (h1.cons rfl (CellsOK.stop hl))
 rw[Fce]at this
 exact this
def Ask25.good(a:Ask25):Prop:=Scr.good a.S/\ya a.room/\ya a.n
theorem ask25_codec:Codec Tryz.prog 72 Ask25 Rb Ask25.good:=by
 refine⟨λ{H} enc w base held fuel cs x hx hw=>?_⟩
 have hu:=Tryz.underlying72
 have hl:cs.length=11:=(F8 hu hx).trans (by kernel_rfl)
 obtain⟨a0,q0,h0⟩:=qg hu hx hw 0 0 9 rfl rfl (by kernel_rfl) zr7
 obtain⟨a1,q1,h1⟩:=qg hu hx hw 1 9 1 rfl rfl (by kernel_rfl) qx
 obtain⟨a2,q2,h2⟩:=qg hu hx hw 2 10 1 rfl rfl (by kernel_rfl) qx
 refine⟨⟨a0,a1,a2⟩,⟨q0,q1,q2⟩,?_⟩
 have:=h0.cons rfl (h1.cons rfl (h2.cons rfl (CellsOK.stop hl)))
 rw[Fce]at this
 exact this
end Go.Proofs
