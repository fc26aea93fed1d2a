/- Lemmas of thronglaw29; no conditions. -/
import Derived.Test.YtphhbmaalpdnoaaGreatLB
import Derived.Test.YtphhbmaalpdnoaaGreatLC
set_option linter.unusedSimpArgs false
set_option linter.unusedVariables false
set_option linter.defProp false
open List renaming length→Γ
open Option renaming some→Δ,none→Θ
namespace Go.Proofs
open Go Go.V Tryz
set_option maxRecDepth 20000
set_option maxHeartbeats 4000000
def Ft:Codec Tryz.prog 3 Int zx (λ_=>True):=(Codec.int underlying3).weaken λ_ _=>O
def zj8:Codec Tryz.prog 96 Int (λn=>[u64 n]) (λn=>0<=n/\n<=18446744073709551615):=(Codec.int underlying96).weaken λ_ h=>bounds_u64 h
def zhg:Codec Tryz.prog 22 (List UInt8) (λl=>[yn l]) (λl=>Γ l<=140737488355328):=
 (Codec.slice underlying22 (k:=1) κ ψ (of_decide_eq_true κ) (Codec.byte underlying5)).weaken λ_ h=>h.2
def ynj:Codec Tryz.prog 63 (List Int) (λl=>[yq l]) (λl=>Γ l<=140737488355328):=
 (Codec.slice underlying63 (k:=1) κ ψ (of_decide_eq_true κ) Ft).weaken λ_ h=>h.2
def yph:Codec Tryz.prog 24 Gnd zq (λg=>Γ g.T<=140737488355328):=by refine⟨λ{H} enc w base held fuel j x a c=>?_⟩;have b:=underlying24;have e:Γ j=3:=(M7 b a).trans κ;obtain⟨k,n,i⟩:=wj b a c 0 0 1 rfl rfl κ Ft;obtain⟨a1,l,h⟩:=wj b a c 1 1 1 rfl rfl κ Ft;obtain⟨a2,d,f⟩:=wj b a c 2 2 1 rfl rfl κ zhg;refine⟨⟨k,a1,a2⟩,d,?_⟩;have:=i.cons rfl (h.cons rfl (f.cons rfl (CellsOK.stop e)));rw[Fcr]at this;exact this
def zjr:Codec Tryz.prog 65 (Int×Int) (λv=>[int v.1,int v.2]) (λ_=>True):=by refine⟨λ{H} enc w base held fuel g x a c=>?_⟩;have b:=underlying65;have d:Γ g=2:=(M7 b a).trans κ;obtain⟨h,j,f⟩:=wj b a c 0 0 1 rfl rfl κ (Codec.int underlying2);obtain⟨a1,i,e⟩:=wj b a c 1 1 1 rfl rfl κ (Codec.int underlying2);refine⟨(h,a1),O,?_⟩;have:=f.cons rfl (e.cons rfl (CellsOK.stop d));rw[Fcr]at this;exact this
def ys9:Codec Tryz.prog 67 Cmd yg Cmd.sized:=by refine⟨λ{H} enc w base held fuel cs x hx hw=>?_⟩;have hu:=underlying67;have hl:Γ cs=10:=(M7 hu hx).trans κ;obtain⟨a0,q0,h0⟩:=wj hu hx hw 0 0 1 rfl rfl κ Ft;obtain⟨a1,q1,h1⟩:=wj hu hx hw 1 1 1 rfl rfl κ Ft;obtain⟨a2,q2,h2⟩:=wj hu hx hw 2 2 1 rfl rfl κ Ft;obtain⟨a3,q3,h3⟩:=wj hu hx hw 3 3 1 rfl rfl κ Ft;obtain⟨a4,q4,h4⟩:=wj hu hx hw 4 4 1 rfl rfl κ ynj;obtain⟨a5,q5,h5⟩:=wj hu hx hw 5 5 1 rfl rfl κ Ft;obtain⟨a6,q6,h6⟩:=wj hu hx hw 6 6 1 rfl rfl κ Ft;obtain⟨a7,q7,h7⟩:=wj hu hx hw 7 7 1 rfl rfl κ Ft;obtain⟨a8,q8,h8⟩:=wj hu hx hw 8 8 2 rfl rfl κ zjr;refine⟨⟨a0,a1,a2,a3,a4,a5,a6,a7,a8.1,a8.2⟩,q4,?_⟩;have:=h0.cons rfl (h1.cons rfl (h2.cons rfl (h3.cons rfl (h4.cons rfl (h5.cons rfl (h6.cons rfl (h7.cons rfl (h8.cons rfl (CellsOK.stop hl)))))))));rw[Fcr]at this;exact this
def ys8:Codec Tryz.prog 29 (List Cmd) (λl=>[lst 10 yg l]) (λl=>Γ l<=140737488355328/\∀c∈l,c.sized):=
 (Codec.slice underlying29 (k:=10) κ ψ (of_decide_eq_true κ) ys9).weaken λ_ h=>⟨h.2,h.1⟩
def ypr:Codec Tryz.prog 98 Frm xc (λf=>f.sized/\0<=f.hash/\f.hash<=18446744073709551615):=by refine⟨λ{H} enc w base held fuel k x a c=>?_⟩;have b:=underlying98;have g:Γ k=3:=(M7 b a).trans κ;obtain⟨l,n,j⟩:=wj b a c 0 0 1 rfl rfl κ Ft;obtain⟨a1,e,i⟩:=wj b a c 1 1 1 rfl rfl κ ys8;obtain⟨a2,d,h⟩:=wj b a c 2 2 1 rfl rfl κ zj8;refine⟨⟨l,a1,a2⟩,⟨e,d⟩,?_⟩;have:=j.cons rfl (i.cons rfl (h.cons rfl (CellsOK.stop g)));rw[Fcr]at this;exact this
def ypq:Codec Tryz.prog 83 (List Frm) (λl=>[lst 3 xc l]) (λl=>Γ l<=140737488355328/\∀f∈l,f.sized/\0<=f.hash/\f.hash<=18446744073709551615):=
 (Codec.slice underlying83 (k:=3) κ ψ (of_decide_eq_true κ) ypr).weaken λ_ h=>⟨h.2,h.1⟩
def Rep.hashed(r:Rep):Prop:=∀f∈r.F,0<=f.hash/\f.hash<=18446744073709551615
def yij:Codec Tryz.prog 85 Rep xy (λr=>r.sized/\Rep.hashed r):=by refine⟨λ{H} enc w base held fuel l x a d=>?_⟩;have b:=underlying85;have h:Γ l=5:=(M7 b a).trans κ;obtain⟨n,o,k⟩:=wj b a d 0 0 1 rfl rfl κ Ft;obtain⟨a1,g,j⟩:=wj b a d 1 1 3 rfl rfl κ yph;obtain⟨a2,c,i⟩:=wj b a d 2 4 1 rfl rfl κ ypq;refine⟨⟨n,a1,a2⟩,⟨⟨g,c.1,λf e=>(c.2 f e).1⟩,λf e=>(c.2 f e).2⟩,?_⟩;have:=k.cons rfl (j.cons rfl (i.cons rfl (CellsOK.stop h)));rw[Fcr]at this;exact this
def yuj:Codec Tryz.prog 87 Ask29 K3 (λa=>a.sized/\Rep.hashed a.R):=by refine⟨λ{H} enc w base held fuel j x b e=>?_⟩;have c:=underlying87;have g:Γ j=6:=(M7 c b).trans κ;obtain⟨k,d,i⟩:=wj c b e 0 0 5 rfl rfl κ yij;obtain⟨a1,f,h⟩:=wj c b e 1 5 1 rfl rfl κ zhg;refine⟨⟨k,a1⟩,⟨⟨d.1,f⟩,d.2⟩,?_⟩;have:=i.cons rfl (h.cons rfl (CellsOK.stop g));rw[Fcr]at this;exact this
def asks29_codec:Codec Tryz.prog 81 (List Ask29) (λl=>[lst 6 K3 l]) (λl=>Γ l<=140737488355328/\∀a∈l,a.sized/\Rep.hashed a.R):=
 (Codec.slice underlying81 (k:=6) κ ψ (of_decide_eq_true κ) yuj).weaken λ_ h=>⟨h.2,h.1⟩
end Go.Proofs
