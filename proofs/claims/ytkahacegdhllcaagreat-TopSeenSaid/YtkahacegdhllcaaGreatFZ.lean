/- Ground of laws of throngtop: contracts and plain lemmas; no condition beyond the row's own. -/
import Derived.Test.YtkahacegdhllcaaGreatRows
import Derived.Test.YtkahacegdhllcaaGreatLG
set_option linter.unusedSimpArgs false
set_option linter.unusedVariables false
set_option linter.defProp false
namespace Go.Proofs.YtkahacegdhllcaaGreat
open Go Go.V Go.ChangeShapes Go.WideShapes Go.ChangeAt Go.RowKit
theorem own:ownKnob Tryz.prog.godebug=none:=κ
theorem laid:laidOutB Tryz.prog=true:=κ
theorem agg_cells{P:Program}{w:World}{r:Reach}{base:Nat}{t:TypeId}{fs:Array Field}{v:Value}(ht:P.underlying t=some (.struct fs))(h:Value.okWide P w r base t v):∃cs,v=.agg cs:=ψ0
set_option maxRecDepth 100000 in
theorem zb1(os:Os)(started:os.Started)(H:Type)(enc:TypeId×Value->H):
  ReturnsInHanded {} Tryz.checked os 3 .any (Rows.topSeenSpec.pre6 enc Tryz.prog Tryz.f3 Rows.topSeenRow.domain false) (Rows.topSeenSpec.post enc Tryz.prog Tryz.f3 false true false false):=by
 refine returnsInHanded_of_change_sized (C:=Tryz.checked) own started κ Tryz.func3
  (ChangeSpec.witness6 (enc:=enc) (C:=Tryz.checked) false ⟨#[],#[.agg #[.int .i64 0,.int .i64 0,.slice none 0 0,.int .i64 0,.int .i64 0,.int .i64 0,.slice none 0 0]],[]⟩ 8 κ κ κ κ) ?_
 intro W base args ds gs before hval0 hW hcnd hsz _;have hval:∀(j:Nat) t v,Tryz.f3.params[j]?=some t->args[j]?=some v->Value.okWide Tryz.prog W .any base t v:=hval0;have hW':=hW;obtain⟨p,q,hA0,hV,rfl,hfz,hnd⟩:=hW;have hA:DataW.TrodAll enc Tryz.prog W 0 (λ_=>true) true Tryz.f3.params.toList args.toList ds p:=hA0;rw[Tryz.params3]at hA hval;obtain⟨v,d,rfl,rfl,hd⟩:=trodAll_one hA;obtain⟨rfl,rfl⟩:=trodVars_none hV;have⟨fuel,hd0⟩:=hd;have hw:∀n∈d.weights Tryz.prog 27,n<=reachBytes:=λn hn=>ψ1;have⟨l,hl,hc⟩:=scr30_codec.out enc W 0 true fuel _ _ hd0 hw;obtain⟨cs,rfl⟩:=agg_cells Tryz.underlying27 (hval 0 _ v rfl rfl);have hv:VRel W T0 (.agg (Ah l)) (.agg cs):=by
  refine VRel.agg _ _ ?_ λi x y hx hy=>(hc.2 i x y hx ?_).1
  ·exact hc.1.trans (by simp[Value.cells])
  ·simpa [Value.cells]using hy
 have hlt:∀x∈p,x.block<W.heap.size:=λx hx=>hW'.lt x θb;clear hA0 hval0;refine(ut Tryz.func3 rfl ζ (R:=λr=>r=V.bool true) (zns l hl _ (λr _=>r=V.bool true) rfl) hv).mono λe W' ⟨r,u,he,hr,⟨T,hvr⟩,hb⟩=>?_;subst hr;have hu:u=.bool true:=VRel.eq_s hvr;subst hu;subst he;refine⟨_,rfl,nt (pa:=p) (pv:=[]) hW' (λ_ _ _=>trodAll_cons_mk (shut_bool Tryz.underlying4 _) trodAll_mk0) (λsp hsp=>?_) (λ_ _=>rfl) rfl (Below.kept hb _) (Below.froz hb) (ok_one κ rfl (okWide_bool_mk Tryz.underlying4 _))⟩;exact trodAll_mk1 (WideElems.Trod_stays laid κ (of_decide_eq_true κ) ⟨fuel,hd0⟩ (λx hx=>hb.same (hlt x hx)) (λx hx=>hsp x θb))
set_option maxHeartbeats 4000000 in
theorem closed:joinedFacts Tryz.pinned.checked.prog 3 Tryz.f3 Rows.topSeenSpec Rows.topSeenRow=true:=by
 unfold joinedFacts;repeat(refine(Fbh).2 ⟨?_,?_⟩)
 all_goals(as_aux_lemma=>kernel_rfl)
theorem topSeen_proved:Rows.TopSeenSaid:=
 OpenClaim.holds_of_wide 3 Tryz.f3 rfl rfl rfl rfl rfl rfl rfl ⟨rfl,rfl,rfl,rfl,rfl⟩ rfl rfl rfl rfl rfl κ Tryz.func3 closed
  (of_decide_eq_true κ) (by unfold Func.isWrapper;first|(rw[if_pos θm];kernel_rfl)|(rw[if_neg θm];exact⟨rfl,rfl⟩))
  (λos started H enc _=>zb1 os started H enc)
end Go.Proofs.YtkahacegdhllcaaGreat
