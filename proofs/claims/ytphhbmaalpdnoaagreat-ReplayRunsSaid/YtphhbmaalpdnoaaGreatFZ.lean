/- Lemmas of thronglaw29; no conditions. -/
import Derived.Test.YtphhbmaalpdnoaaGreatRows
import Derived.Test.YtphhbmaalpdnoaaGreatLD
set_option linter.unusedSimpArgs false
set_option linter.unusedVariables false
set_option linter.defProp false
namespace Go.Proofs.YtphhbmaalpdnoaaGreat
open Go Go.V Go.ChangeShapes Go.WideShapes Go.ChangeAt Go.RowKit
theorem own:ownKnob Tryz.prog.godebug=none:=κ
theorem laid:laidOutB Tryz.prog=true:=κ
theorem slice_cells{P:Program}{w:World}{r:Reach}{base:Nat}{t e:TypeId}{v:Value}(ht:P.underlying t=some (.slice e))(h:Value.okWide P w r base t v):v.cells.toList=[v]:=by simp only[Value.okWide,ht]at h;cases v<;>simp_all [Cell.okWide,Cell.ok,Value.cells]
set_option maxRecDepth 100000 in
theorem replayRuns_lifted(os:Os)(started:os.Started)(H:Type)(enc:TypeId×Value->H):
  ReturnsInHanded {} Tryz.checked os 5 .any (Rows.replayRunsSpec.pre6 enc Tryz.prog Tryz.f5 Rows.replayRunsRow.domain false) (Rows.replayRunsSpec.post enc Tryz.prog Tryz.f5 false true false false):=by
 refine returnsInHanded_of_change_sized (C:=Tryz.checked) own started κ Tryz.func5
  (ChangeSpec.witness6 (enc:=enc) (C:=Tryz.checked) false ⟨#[],#[.slice none 0 0],[]⟩ 8 κ κ κ κ) ?_
 intro W base args ds gs before hval0 hW hcnd hsz _;have hval:∀(j:Nat) t v,Tryz.f5.params[j]?=some t->args[j]?=some v->Value.okWide Tryz.prog W .any base t v:=hval0;have hW':=hW;obtain⟨p,q,hA0,hV,rfl,hfz,hnd⟩:=hW;have hA:DataW.TrodAll enc Tryz.prog W 0 (fun _=>true) true Tryz.f5.params.toList args.toList ds p:=hA0;rw[Tryz.params5]at hA hval;obtain⟨v,d,rfl,rfl,hd⟩:=trodAll_one hA;obtain⟨rfl,rfl⟩:=trodVars_none hV;obtain⟨fuel,hd0⟩:=hd;have hw:∀n∈d.weights Tryz.prog 81,n<=reachBytes:=fun n hn=>by have h2:=List.all_eq_true.1 hsz n (DataW.weights_mem_each (j:=0) (t:=81) (d:=d) ξ ξ n hn);simpa using h2
 obtain⟨l,hl,hc⟩:=asks29_codec.out enc W 0 true fuel _ _ hd0 hw;have hv1:v.cells.toList=[v]:=slice_cells Tryz.underlying81 (hval 0 _ v rfl rfl);rw[hv1]at hc;have hv:VRel W T0 (lst 6 K3 l) v:=(hc.2 0 _ v rfl rfl).1;have hlt:∀x∈p,x.block<W.heap.size:=fun x hx=>hW'.lt x θp;clear hA0 hval0;refine(ytt Tryz.func5 rfl ξ (R:=fun r=>r=V.bool true) (yig l (fun a ha=>(hl.2 a ha).1) _ (fun r _=>r=V.bool true) rfl) hv).mono fun e W' ⟨r,u,he,hr,⟨T,hvr⟩,hb⟩=>?_;subst hr;have hu:u=.bool true:=VRel.eq_s hvr;subst hu;subst he;refine⟨_,rfl,ykj (pa:=p) (pv:=[]) hW' (fun _ _ _=>trodAll_cons_mk (shut_bool Tryz.underlying4 _) trodAll_mk0) (fun sp hsp=>?_) (fun _ _=>rfl) rfl (Below.kept hb _) (Below.froz hb) (ok_one κ rfl (okWide_bool_mk Tryz.underlying4 _))⟩;exact trodAll_mk1 (WideElems.Trod_stays laid κ (of_decide_eq_true κ) ⟨fuel,hd0⟩ (fun x hx=>hb.same (hlt x hx)) (fun x hx=>hsp x θp))
set_option maxHeartbeats 4000000 in
theorem closed:joinedFacts Tryz.pinned.checked.prog 5 Tryz.f5 Rows.replayRunsSpec Rows.replayRunsRow=true:=by
 unfold joinedFacts;repeat(refine(Bool.and_eq_true_iff).2 ⟨?_,?_⟩)
 all_goals(as_aux_lemma=>kernel_rfl)
theorem replayRuns_proved:Rows.ReplayRunsSaid:=
 OpenClaim.holds_of_wide 5 Tryz.f5 rfl rfl rfl rfl rfl rfl rfl ⟨rfl,rfl,rfl,rfl,rfl⟩ rfl rfl rfl rfl rfl κ Tryz.func5 closed
  (of_decide_eq_true κ) (by unfold Func.isWrapper;first|(rw[if_pos (by decide+kernel)];kernel_rfl)|(rw[if_neg (by decide+kernel)];exact⟨rfl,rfl⟩))
  (fun os started H enc _=>replayRuns_lifted os started H enc)
#print axioms replayRuns_proved
end Go.Proofs.YtphhbmaalpdnoaaGreat
