/- Ground of laws of thronglaw24: contracts and plain lemmas; no condition beyond the row's own. -/
import Derived.Test.YtbemejeejgpkaaaGreatKN
import Derived.Test.YtbemejeejgpkaaaGreatKO
set_option linter.unusedSimpArgs false
set_option linter.unusedVariables false
namespace Go.Proofs
open Go Go.V
set_option maxRecDepth 20000
set_option maxHeartbeats 4000000
theorem za6{n:Int}(h:(Lit.int .i64 n).wf=true):yl n:=by
 simp[Lit.wf,IntKind.min,IntKind.max,IntKind.signed,IntKind.bits]at h
 unfold yl
 omega
theorem sx:Codec Tryz.prog 2 Int yh yl:=(Codec.int Tryz.underlying2).weaken λ_ h=>za6 h
theorem je:Codec Tryz.prog 3 Int yh yl:=(Codec.int Tryz.underlying3).weaken λ_ h=>za6 h
theorem yei:Codec Tryz.prog 22 (List UInt8) (λl=>[xu l]) (λl=>l.length<=140737488355328):=
 (Codec.slice Tryz.underlying22 (k:=1) (by kernel_rfl) (by decide) (of_decide_eq_true (by kernel_rfl)) (Codec.byte Tryz.underlying5)).weaken λ_ h=>h.2
theorem zzd:Codec Tryz.prog 29 (List Int) (λl=>[qn l]) (λl=>l.length<=140737488355328/\∀n∈l,yl n):=
 (Codec.slice Tryz.underlying29 (k:=1) (by kernel_rfl) (by decide) (of_decide_eq_true (by kernel_rfl)) je).weaken λ_ h=>⟨h.2,h.1⟩
theorem fq:Codec Tryz.prog 49 Vc zo Vc.ok:=by
 refine⟨λ{H} enc w base held fuel cs x hx hw=>?_⟩
 have hu:=Tryz.underlying49
 have hl:cs.length=2:=(H8 hu hx).trans (by kernel_rfl)
 obtain⟨a0,q0,h0⟩:=qt hu hx hw 0 0 1 rfl rfl (by kernel_rfl) sx
 obtain⟨a1,q1,h1⟩:=qt hu hx hw 1 1 1 rfl rfl (by kernel_rfl) sx
 refine⟨(a0,a1),⟨q0,q1⟩,?_⟩
 have:=h0.cons rfl (h1.cons rfl (CellsOK.stop hl))
 rw[Fcc]at this
 exact this
theorem ya4:Codec Tryz.prog 24 Gnd zp (λg=>g.T.length<=140737488355328):=by
 refine⟨λ{H} enc w base held fuel cs x hx hw=>?_⟩
 have hu:=Tryz.underlying24
 have hl:cs.length=3:=(H8 hu hx).trans (by kernel_rfl)
 obtain⟨a0,q0,h0⟩:=qt hu hx hw 0 0 1 rfl rfl (by kernel_rfl) je
 obtain⟨a1,q1,h1⟩:=qt hu hx hw 1 1 1 rfl rfl (by kernel_rfl) je
 obtain⟨a2,q2,h2⟩:=qt hu hx hw 2 2 1 rfl rfl (by kernel_rfl) yei
 refine⟨⟨a0,a1,a2⟩,q2,?_⟩
 have:=h0.cons rfl (h1.cons rfl (h2.cons rfl (CellsOK.stop hl)))
 rw[Fcc]at this
 exact this
theorem yep:Codec Tryz.prog 145 Bld zk (λ_=>True):=by
 refine⟨λ{H} enc w base held fuel cs x hx hw=>?_⟩
 have hu:=Tryz.underlying145
 have hl:cs.length=6:=(H8 hu hx).trans (by kernel_rfl)
 obtain⟨a0,q0,h0⟩:=qt hu hx hw 0 0 1 rfl rfl (by kernel_rfl) je
 obtain⟨a1,q1,h1⟩:=qt hu hx hw 1 1 1 rfl rfl (by kernel_rfl) je
 obtain⟨a2,q2,h2⟩:=qt hu hx hw 2 2 1 rfl rfl (by kernel_rfl) je
 obtain⟨a3,q3,h3⟩:=qt hu hx hw 3 3 1 rfl rfl (by kernel_rfl) je
 obtain⟨a4,q4,h4⟩:=qt hu hx hw 4 4 1 rfl rfl (by kernel_rfl) je
 obtain⟨a5,q5,h5⟩:=qt hu hx hw 5 5 1 rfl rfl (by kernel_rfl) je
 refine⟨⟨a0,a1,a2,a3,a4,a5⟩,Tv,?_⟩
 have:=h0.cons rfl (h1.cons rfl (h2.cons rfl (h3.cons rfl (h4.cons rfl (h5.cons rfl (CellsOK.stop hl))))))
 rw[Fcc]at this
 exact this
theorem yeo:Codec Tryz.prog 25 (List Bld) (λl=>[lst 6 zk l]) (λl=>l.length<=140737488355328):=
 (Codec.slice Tryz.underlying25 (k:=6) (by kernel_rfl) (by decide) (of_decide_eq_true (by kernel_rfl)) yep).weaken λ_ h=>h.2
theorem zda:Codec Tryz.prog 51 Unt zf (λu=>u.pos.ok):=by
 refine⟨λ{H} enc w base held fuel cs x hx hw=>?_⟩
 have hu:=Tryz.underlying51
 have hl:cs.length=10:=(H8 hu hx).trans (by kernel_rfl)
 obtain⟨a0,q0,h0⟩:=qt hu hx hw 0 0 1 rfl rfl (by kernel_rfl) je
 obtain⟨a1,q1,h1⟩:=qt hu hx hw 1 1 1 rfl rfl (by kernel_rfl) je
 obtain⟨a2,q2,h2⟩:=qt hu hx hw 2 2 1 rfl rfl (by kernel_rfl) je
 obtain⟨a3,q3,h3⟩:=qt hu hx hw 3 3 2 rfl rfl (by kernel_rfl) fq
 obtain⟨a4,q4,h4⟩:=qt hu hx hw 4 5 1 rfl rfl (by kernel_rfl) je
 obtain⟨a5,q5,h5⟩:=qt hu hx hw 5 6 1 rfl rfl (by kernel_rfl) je
 obtain⟨a6,q6,h6⟩:=qt hu hx hw 6 7 1 rfl rfl (by kernel_rfl) je
 obtain⟨a7,q7,h7⟩:=qt hu hx hw 7 8 1 rfl rfl (by kernel_rfl) je
 obtain⟨a8,q8,h8⟩:=qt hu hx hw 8 9 1 rfl rfl (by kernel_rfl) je
 refine⟨⟨a0,a1,a2,a3,a4,a5,a6,a7,a8⟩,q3,?_⟩
 have:=h0.cons rfl (h1.cons rfl (h2.cons rfl (h3.cons rfl (h4.cons rfl (h5.cons rfl (h6.cons rfl (h7.cons rfl (h8.cons rfl (CellsOK.stop hl)))))))))
 rw[Fcc]at this
 exact this
theorem zc9:Codec Tryz.prog 26 (List Unt) (λl=>[lst 10 zf l]) (λl=>l.length<=140737488355328/\∀u∈l,u.pos.ok):=
 (Codec.slice Tryz.underlying26 (k:=10) (by kernel_rfl) (by decide) (of_decide_eq_true (by kernel_rfl)) zda).weaken λ_ h=>⟨h.2,h.1⟩
theorem zcb:Codec Tryz.prog 28 Wld zt (λw=>∀u∈w.U,u.pos.ok):=by
 refine⟨λ{H} enc w base held fuel cs x hx hw=>?_⟩
 have hu:=Tryz.underlying28
 have hl:cs.length=8:=(H8 hu hx).trans (by kernel_rfl)
 obtain⟨a0,q0,h0⟩:=qt hu hx hw 0 0 1 rfl rfl (by kernel_rfl) je
 obtain⟨a1,q1,h1⟩:=qt hu hx hw 1 1 1 rfl rfl (by kernel_rfl) je
 obtain⟨a2,q2,h2⟩:=qt hu hx hw 2 2 1 rfl rfl (by kernel_rfl) je
 obtain⟨a3,q3,h3⟩:=qt hu hx hw 3 3 3 rfl rfl (by kernel_rfl) ya4
 obtain⟨a4,q4,h4⟩:=qt hu hx hw 4 6 1 rfl rfl (by kernel_rfl) yeo
 obtain⟨a5,q5,h5⟩:=qt hu hx hw 5 7 1 rfl rfl (by kernel_rfl) zc9
 refine⟨⟨a0,a1,a2,a3,a4,a5⟩,q5.2,?_⟩
 have:=h0.cons rfl (h1.cons rfl (h2.cons rfl (h3.cons rfl (h4.cons rfl (h5.cons rfl (CellsOK.stop hl))))))
 rw[Fcc]at this
 exact this
theorem ydy:Codec Tryz.prog 79 Cmd qi Cmd.sized:=by
 refine⟨λ{H} enc w base held fuel cs x hx hw=>?_⟩
 have hu:=Tryz.underlying79
 have hl:cs.length=10:=(H8 hu hx).trans (by kernel_rfl)
 obtain⟨a0,q0,h0⟩:=qt hu hx hw 0 0 1 rfl rfl (by kernel_rfl) je
 obtain⟨a1,q1,h1⟩:=qt hu hx hw 1 1 1 rfl rfl (by kernel_rfl) je
 obtain⟨a2,q2,h2⟩:=qt hu hx hw 2 2 1 rfl rfl (by kernel_rfl) je
 obtain⟨a3,q3,h3⟩:=qt hu hx hw 3 3 1 rfl rfl (by kernel_rfl) je
 obtain⟨a4,q4,h4⟩:=qt hu hx hw 4 4 1 rfl rfl (by kernel_rfl) zzd
 obtain⟨a5,q5,h5⟩:=qt hu hx hw 5 5 1 rfl rfl (by kernel_rfl) je
 obtain⟨a6,q6,h6⟩:=qt hu hx hw 6 6 1 rfl rfl (by kernel_rfl) je
 obtain⟨a7,q7,h7⟩:=qt hu hx hw 7 7 1 rfl rfl (by kernel_rfl) je
 obtain⟨a8,q8,h8⟩:=qt hu hx hw 8 8 2 rfl rfl (by kernel_rfl) fq
 refine⟨⟨a0,a1,a2,a3,a4,a5,a6,a7,a8.1,a8.2⟩,q4.1,?_⟩
 have:=h0.cons rfl (h1.cons rfl (h2.cons rfl (h3.cons rfl (h4.cons rfl (h5.cons rfl (h6.cons rfl (h7.cons rfl (h8.cons rfl (CellsOK.stop hl)))))))))
 rw[Fcc]at this
 exact this
theorem ydw:Codec Tryz.prog 73 (List Cmd) (λl=>[lst 10 qi l]) (λl=>l.length<=140737488355328/\∀c∈l,c.sized):=
 (Codec.slice Tryz.underlying73 (k:=10) (by kernel_rfl) (by decide) (of_decide_eq_true (by kernel_rfl)) ydy).weaken λ_ h=>⟨h.2,h.1⟩
def Scr.good(s:Scr):Prop:=(∀u∈s.W.U,u.pos.ok)/\∀c∈s.L,c.sized
theorem scr_codec:Codec Tryz.prog 75 Scr Kv Scr.good:=by
 refine⟨λ{H} enc w base held fuel cs x hx hw=>?_⟩
 have hu:=Tryz.underlying75
 have hl:cs.length=9:=(H8 hu hx).trans (by kernel_rfl)
 obtain⟨a0,q0,h0⟩:=qt hu hx hw 0 0 8 rfl rfl (by kernel_rfl) zcb
 obtain⟨a1,q1,h1⟩:=qt hu hx hw 1 8 1 rfl rfl (by kernel_rfl) ydw
 refine⟨⟨a0,a1⟩,⟨q0,q1.2⟩,?_⟩
 have:=h0.cons rfl (h1.cons rfl (CellsOK.stop hl))
 rw[Fcc]at this
 exact this
end Go.Proofs
