/- Ground of laws of throngtop: contracts and plain lemmas; no condition beyond the row's own. -/
import Derived.Test.YtphhbmaalpdnoaaGreatRows
import Derived.Test.YtphhbmaalpdnoaaGreatKO
import Derived.Test.YtphhbmaalpdnoaaGreatLC
set_option linter.unusedSimpArgs false
set_option linter.unusedVariables false
set_option linter.defProp false
namespace Go.Proofs.YtphhbmaalpdnoaaGreat
open Go Go.V Go.ChangeShapes Go.WideShapes Go.ChangeAt Go.RowKit
theorem own:ownKnob Tryz.prog.godebug=none:=κ
theorem laid:laidOutB Tryz.prog=true:=κ
theorem agg_cells{P:Program}{w:World}{r:Reach}{base:Nat}{t:TypeId}{fs:Array Field}{v:Value}(ht:P.underlying t=some (.struct fs))(h:Value.okWide P w r base t v):∃cs,v=.agg cs:=by simp only[Value.okWide,ht]at h;cases v<;>simp_all [Cell.okWide,Cell.ok]
set_option maxRecDepth 100000 in
theorem topSnapshot_lifted(os:Os)(started:os.Started)(H:Type)(enc:TypeId×Value->H):
  ReturnsInHanded {} Tryz.checked os 3 .any (Rows.topSnapshotSpec.pre6 enc Tryz.prog Tryz.f3 Rows.topSnapshotRow.domain false) (Rows.topSnapshotSpec.post enc Tryz.prog Tryz.f3 false true false false):=by
 refine returnsInHanded_of_change_sized (C:=Tryz.checked) own started κ Tryz.func3
  (ChangeSpec.witness6 (enc:=enc) (C:=Tryz.checked) false ⟨#[],#[.agg #[.int .i64 0,.int .i64 0,.int .i64 0,.int .i64 0,.int .i64 0,.slice none 0 0,.slice none 0 0,.slice none 0 0,.slice none 0 0,.int .i64 0,.int .i64 0]],[]⟩ 8 κ κ κ κ) ?_
 intro W base args ds gs before hval0 hW hcnd hsz _;have hval:∀(j:Nat) t v,Tryz.f3.params[j]?=some t->args[j]?=some v->Value.okWide Tryz.prog W .any base t v:=hval0;have hW':=hW;obtain⟨p,q,hA0,hV,rfl,hfz,hnd⟩:=hW;have hA:DataW.TrodAll enc Tryz.prog W 0 (fun _=>true) true Tryz.f3.params.toList args.toList ds p:=hA0;rw[Tryz.params3]at hA hval;obtain⟨v,d,rfl,rfl,hd⟩:=trodAll_one hA;obtain⟨rfl,rfl⟩:=trodVars_none hV;obtain⟨fuel,hd0⟩:=hd;have hw:∀n∈d.weights Tryz.prog 33,n<=reachBytes:=fun n hn=>by have h2:=List.all_eq_true.1 hsz n (DataW.weights_mem_each (j:=0) (t:=33) (d:=d) ξ ξ n hn);simpa using h2
 obtain⟨l,hl,hc⟩:=ask25_codec.out enc W 0 true fuel _ _ hd0 hw;obtain⟨cs,rfl⟩:=agg_cells Tryz.underlying33 (hval 0 _ v rfl rfl);have hv:VRel W T0 (.agg (Ns l)) (.agg cs):=by
  refine VRel.agg _ _ ?_ fun i x y hx hy=>(hc.2 i x y hx ?_).1
  ·exact hc.1.trans (by simp[Value.cells])
  ·simpa [Value.cells]using hy
 have hlt:∀x∈p,x.block<W.heap.size:=fun x hx=>hW'.lt x θj;clear hA0 hval0;refine(yra Tryz.func3 rfl ξ (R:=fun r=>r=V.bool true) (zjk l hl.1.1 hl.1.2 _ (fun r _=>r=V.bool true) rfl) hv).mono fun e W' ⟨r,u,he,hr,⟨T,hvr⟩,hb⟩=>?_;subst hr;have hu:u=.bool true:=VRel.eq_s hvr;subst hu;subst he;refine⟨_,rfl,yg8 (pa:=p) (pv:=[]) hW' (fun _ _ _=>trodAll_cons_mk (shut_bool Tryz.underlying4 _) trodAll_mk0) (fun sp hsp=>?_) (fun _ _=>rfl) rfl (Below.kept hb _) (Below.froz hb) (ok_one κ rfl (okWide_bool_mk Tryz.underlying4 _))⟩;exact trodAll_mk1 (WideElems.Trod_stays laid κ (of_decide_eq_true κ) ⟨fuel,hd0⟩ (fun x hx=>hb.same (hlt x hx)) (fun x hx=>hsp x θj))
set_option maxHeartbeats 4000000 in
theorem closed:joinedFacts Tryz.pinned.checked.prog 3 Tryz.f3 Rows.topSnapshotSpec Rows.topSnapshotRow=true:=by
 unfold joinedFacts;repeat(refine(Bool.and_eq_true_iff).2 ⟨?_,?_⟩)
 all_goals(as_aux_lemma=>kernel_rfl)
theorem topSnapshot_proved:Rows.TopSnapshotSaid:=
 OpenClaim.holds_of_wide 3 Tryz.f3 rfl rfl rfl rfl rfl rfl rfl ⟨rfl,rfl,rfl,rfl,rfl⟩ rfl rfl rfl rfl rfl κ Tryz.func3 closed
  (of_decide_eq_true κ) (by unfold Func.isWrapper;first|(rw[if_pos (by decide+kernel)];kernel_rfl)|(rw[if_neg (by decide+kernel)];exact⟨rfl,rfl⟩))
  (fun os started H enc _=>topSnapshot_lifted os started H enc)
#print axioms topSnapshot_proved
end Go.Proofs.YtphhbmaalpdnoaaGreat
