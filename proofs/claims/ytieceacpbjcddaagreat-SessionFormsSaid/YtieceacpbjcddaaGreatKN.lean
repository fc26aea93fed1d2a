/- Ground of laws of thronglaw30: contracts and plain lemmas; no condition beyond the row's own. -/
import Derived.Test.YtieceacpbjcddaaGreatKL
import Derived.Test.YtieceacpbjcddaaGreatKM
set_option linter.unusedSimpArgs false
set_option linter.unusedVariables false
set_option linter.defProp false
namespace Go.Proofs
open Go Go.V
set_option maxRecDepth 20000
set_option maxHeartbeats 4000000
theorem su{n:Int}(h:(Lit.int .i64 n).wf=true):zy n:=by
 simp[Lit.wf,IntKind.min,IntKind.max,IntKind.signed,IntKind.bits]at h
 unfold zy
 omega
theorem od:Codec Tryz.prog 2 Int zu zy:=(Codec.int Tryz.underlying2).weaken λ_ h=>su h
theorem k8:Codec Tryz.prog 3 Int zu zy:=(Codec.int Tryz.underlying3).weaken λ_ h=>su h
theorem ydd:Codec Tryz.prog 22 (List UInt8) (λl=>[qc l]) (λl=>l.length<=140737488355328):=
 (Codec.slice Tryz.underlying22 (k:=1) (by kernel_rfl) (by decide) (of_decide_eq_true (by kernel_rfl)) (Codec.byte Tryz.underlying5)).weaken λ_ h=>h.2
theorem zx6:Codec Tryz.prog 29 (List Int) (λl=>[yg l]) (λl=>l.length<=140737488355328/\∀n∈l,zy n):=
 (Codec.slice Tryz.underlying29 (k:=1) (by kernel_rfl) (by decide) (of_decide_eq_true (by kernel_rfl)) k8).weaken λ_ h=>⟨h.2,h.1⟩
theorem zao:Codec Tryz.prog 36 Vc z6 Vc.ok:=by
 refine⟨λ{H} enc w base held fuel cs x hx hw=>?_⟩
 have hu:=Tryz.underlying36
 have hl:cs.length=2:=(Kq hu hx).trans (by kernel_rfl)
 obtain⟨a0,q0,h0⟩:=xk hu hx hw 0 0 1 rfl rfl (by kernel_rfl) od
 obtain⟨a1,q1,h1⟩:=xk hu hx hw 1 1 1 rfl rfl (by kernel_rfl) od
 refine⟨(a0,a1),⟨q0,q1⟩,?_⟩
 have:=h0.cons rfl (h1.cons rfl (CellsOK.stop hl))
 rw[Fdc]at this
 exact this
theorem zzw:Codec Tryz.prog 24 Gnd zn (λg=>g.T.length<=140737488355328):=by
 refine⟨λ{H} enc w base held fuel cs x hx hw=>?_⟩
 have hu:=Tryz.underlying24
 have hl:cs.length=3:=(Kq hu hx).trans (by kernel_rfl)
 obtain⟨a0,q0,h0⟩:=xk hu hx hw 0 0 1 rfl rfl (by kernel_rfl) k8
 obtain⟨a1,q1,h1⟩:=xk hu hx hw 1 1 1 rfl rfl (by kernel_rfl) k8
 obtain⟨a2,q2,h2⟩:=xk hu hx hw 2 2 1 rfl rfl (by kernel_rfl) ydd
 refine⟨⟨a0,a1,a2⟩,q2,?_⟩
 have:=h0.cons rfl (h1.cons rfl (h2.cons rfl (CellsOK.stop hl)))
 rw[Fdc]at this
 exact this
theorem yco:Codec Tryz.prog 122 Cmd yo Cmd.sized:=by
 refine⟨λ{H} enc w base held fuel cs x hx hw=>?_⟩
 have hu:=Tryz.underlying122
 have hl:cs.length=10:=(Kq hu hx).trans (by kernel_rfl)
 obtain⟨a0,q0,h0⟩:=xk hu hx hw 0 0 1 rfl rfl (by kernel_rfl) k8
 obtain⟨a1,q1,h1⟩:=xk hu hx hw 1 1 1 rfl rfl (by kernel_rfl) k8
 obtain⟨a2,q2,h2⟩:=xk hu hx hw 2 2 1 rfl rfl (by kernel_rfl) k8
 obtain⟨a3,q3,h3⟩:=xk hu hx hw 3 3 1 rfl rfl (by kernel_rfl) k8
 obtain⟨a4,q4,h4⟩:=xk hu hx hw 4 4 1 rfl rfl (by kernel_rfl) zx6
 obtain⟨a5,q5,h5⟩:=xk hu hx hw 5 5 1 rfl rfl (by kernel_rfl) k8
 obtain⟨a6,q6,h6⟩:=xk hu hx hw 6 6 1 rfl rfl (by kernel_rfl) k8
 obtain⟨a7,q7,h7⟩:=xk hu hx hw 7 7 1 rfl rfl (by kernel_rfl) k8
 obtain⟨a8,q8,h8⟩:=xk hu hx hw 8 8 2 rfl rfl (by kernel_rfl) zao
 refine⟨⟨a0,a1,a2,a3,a4,a5,a6,a7,a8.1,a8.2⟩,q4.1,?_⟩
 have:=h0.cons rfl (h1.cons rfl (h2.cons rfl (h3.cons rfl (h4.cons rfl (h5.cons rfl (h6.cons rfl (h7.cons rfl (h8.cons rfl (CellsOK.stop hl)))))))))
 rw[Fdc]at this
 exact this
theorem ycn:Codec Tryz.prog 70 (List Cmd) (λl=>[lst 10 yo l]) (λl=>l.length<=140737488355328/\∀c∈l,c.sized):=
 (Codec.slice Tryz.underlying70 (k:=10) (by kernel_rfl) (by decide) (of_decide_eq_true (by kernel_rfl)) yco).weaken λ_ h=>⟨h.2,h.1⟩
end Go.Proofs
