/- The ground on which laws of thronglaw26 are proved: contracts of functions and plain lemmas; no condition beyond the row's own. -/
import Derived.Test.YtimehecofabmjaaGreatRows
import Derived.Test.YtimehecofabmjaaGreatSI
import Derived.Test.YtimehecofabmjaaGreatSJ
set_option linter.unusedSimpArgs false
set_option linter.unusedVariables false
namespace Go.Proofs
open Go Go.V
set_option linter.unusedVariables false

set_option maxHeartbeats 1000000 in
theorem imageBytes_law (l : List Ask26) (hl : l.length ≤ 140737488355328) (hn : ∀ a ∈ l, ∀ u ∈ a.W.U, u.pos.ok) (st : Store) (R : AV → Store → Prop) (h : R (V.bool true) st) : ACalls Tryz.prog 7 [lst 9 ask26C l] st R := by
  refine ACalls.of_body (c := cfg 104) infoOK Tryz.func7 (by rfl) (by rfl) (by rfl) (by rfl) ?_
  refine AWp.loop (σ := Nat) ⟨fun i => [(0, .av (lst 9 ask26C l)), (3, .av (int (i : Nat)))], fun _ => [], fun i st' => i ≤ l.length ∧ st' = st, fun i => l.length - i⟩ infoOK ?_ ?_
  · exact ⟨0, trivial, ⟨Nat.zero_le _, rfl⟩, ⟨LV.le_refl _, LV.le_refl _, trivial⟩, trivial⟩
  rintro i st' ⟨hi, rfl⟩
  refine bcase_intro (fun h1 => ?_) (fun h1 => wakes26_spec _ _ (ret h))
  have hlt : i < l.length := lt_len h1
  refine bcd (fun h2 => ?_) (fun h2 => wakes26_spec _ _ (ret h))
  refine ⟨i, rfl, optK_intro _ (rws_get hlt) ?_⟩
  refine heavy26_spec l[i] _ _ (fun z hz => ?_)
  refine bcase_intro (fun c1 => ret h) (fun c1 => ?_)
  obtain ⟨hw, hx, hU, _⟩ := heavy26_fits (a := l[i]) fun hh => by rw [hz.2 hh] at c1; cases c1
  have hni := hn _ (List.getElem_mem hlt)
  have next : ∀ A : Fr, A.t 0 = .av (lst 9 ask26C l) → A.t 3 = .av (int (((i : Int) + 1))) → ∃ s : Nat, l.length - s < l.length - i ∧ (s ≤ l.length ∧ st' = st') ∧ fitsT A [(0, .av (lst 9 ask26C l)), (3, .av (int (s : Nat)))] ∧ fitsB A [] := by
    intro A h0 h3
    refine ⟨i + 1, by omega, ⟨hlt, rfl⟩, ⟨by rw [h0]; exact LV.le_refl _, by rw [h3]; exact LV.le_refl _, trivial⟩, trivial⟩
  refine ⟨i, rfl, optK_intro _ (rws_get hlt) ?_⟩
  refine copyWorld_spec l[i].W hw _ _ ?_
  by_cases hm : mayP l[i].W
  · have hwn := may_nums hm
    have hll := imgL_len hwn
    refine ibytes_spec l[i].W hw hni _ _ (fun hh => absurd hm hh) (fun _ => ?_)
    refine ihash_spec l[i].W hw hni _ _ (fun hh => absurd hm hh) (fun _ => ?_)
    refine ⟨i, rfl, optK_intro _ (rws_get hlt) ?_⟩
    refine rmay_spec l[i].W hw hni _ _ (fun z1 hz1 => ?_)
    rw [hz1.2 hm]
    generalize hh0 : fnvSum fnvStart (worldL l[i].W) = hh
    refine ADraw.of_sched infoOK (by rfl) (by rfl) sch7_12 (by rfl) ?_
    refine ⟨num26_spec _ _ _ ⟨trivial, ?_⟩, trivial⟩
    refine ⟨num26_spec _ _ _ ⟨trivial, ?_⟩, trivial⟩
    refine ⟨i, rfl, optK_intro _ (rws_get hlt) ?_⟩
    refine ⟨rbytes_spec l[i].W hwn _ _ ⟨trivial, ?_⟩, trivial⟩
    refine ⟨eqBytes_spec (imgL l[i].W) (imgL l[i].W) (by omega) _ _ ⟨trivial, ?_⟩, trivial⟩
    rw [decide_eq_true rfl]
    refine ⟨i, rfl, optK_intro _ (rws_get hlt) ?_⟩
    refine ⟨rhash_spec l[i].W hwn _ _ ⟨trivial, ?_⟩, trivial⟩
    rw [hh0]
    refine bcne (fun c => absurd rfl c) (fun _ => ?_)
    refine ⟨i, rfl, optK_intro _ (rws_get hlt) ?_⟩
    refine ⟨eqWorld_spec l[i].W l[i].W hw _ _ ⟨trivial, ?_⟩, trivial⟩
    rw [decide_eq_true rfl]
    refine in64 (by omega) ?_
    exact next _ rfl rfl
  · refine ibytes_spec l[i].W hw hni _ _ (fun _ => ?_) (fun hh => absurd hh hm)
    refine ihash_spec l[i].W hw hni _ _ (fun _ => ?_) (fun hh => absurd hh hm)
    refine ⟨i, rfl, optK_intro _ (rws_get hlt) ?_⟩
    refine rmay_spec l[i].W hw hni _ _ (fun z1 hz1 => ?_)
    have hzf : z1 = false := by
      cases z1 with
      | false => rfl
      | true => exact absurd (hz1.1 rfl) hm
    subst hzf
    refine num26_spec _ _ _ ?_
    refine num26_spec _ _ _ ?_
    refine in64 (by omega) ?_
    exact next _ rfl rfl
end Go.Proofs
namespace Go.Proofs.YtimehecofabmjaaGreat
open Go Go.V Go.ChangeShapes Go.WideShapes Go.ChangeAt Go.RowKit
set_option linter.unusedVariables false
set_option linter.unusedSimpArgs false

theorem own : ownKnob Tryz.prog.godebug = none := by kernel_rfl
theorem laid : laidOutB Tryz.prog = true := by kernel_rfl

theorem slice_cells {P : Program} {w : World} {r : Reach} {base : Nat} {t e : TypeId} {v : Value} (ht : P.underlying t = some (.slice e)) (h : Value.okWide P w r base t v) : v.cells.toList = [v] := by
  simp only [Value.okWide, ht] at h
  cases v <;> simp_all [Cell.okWide, Cell.ok, Value.cells]

set_option maxRecDepth 100000 in
theorem imageBytes_lifted (os : Os) (started : os.Started) (H : Type) (enc : TypeId × Value → H) :
    ReturnsInHanded {} Tryz.checked os 7 .any (Rows.imageBytesSpec.pre6 enc Tryz.prog Tryz.f7 Rows.imageBytesRow.domain false) (Rows.imageBytesSpec.post enc Tryz.prog Tryz.f7 false true false false) := by
  refine returnsInHanded_of_change_sized (C := Tryz.checked) own started (by kernel_rfl) Tryz.func7
    (ChangeSpec.witness6 (enc := enc) (C := Tryz.checked) false ⟨#[], #[.slice none 0 0], []⟩ 8 (by kernel_rfl) (by kernel_rfl) (by kernel_rfl) (by kernel_rfl)) ?_
  intro W base args ds gs before hval0 hW hcnd hsz _
  have hval : ∀ (j : Nat) t v, Tryz.f7.params[j]? = some t → args[j]? = some v → Value.okWide Tryz.prog W .any base t v := hval0
  have hW' := hW
  obtain ⟨p, q, hA0, hV, rfl, hfz, hnd⟩ := hW
  have hA : DataW.TrodAll enc Tryz.prog W 0 (fun _ => true) true Tryz.f7.params.toList args.toList ds p := hA0
  rw [Tryz.params7] at hA hval
  obtain ⟨v, d, rfl, rfl, hd⟩ := trodAll_one hA
  obtain ⟨rfl, rfl⟩ := trodVars_none hV
  obtain ⟨fuel, hd0⟩ := hd
  have hw : ∀ n ∈ d.weights Tryz.prog 22, n ≤ reachBytes := fun n hn => by
    have h2 := List.all_eq_true.1 hsz n (DataW.weights_mem_each (j := 0) (t := 22) (d := d) (by rfl) (by rfl) n hn)
    simpa using h2
  obtain ⟨l, hl, hc⟩ := asks26_codec.out enc W 0 true fuel _ _ hd0 hw
  have hv1 : v.cells.toList = [v] := slice_cells Tryz.underlying22 (hval 0 _ v rfl rfl)
  rw [hv1] at hc
  have hv : VRel W T0 (lst 9 ask26C l) v := (hc.2 0 _ v rfl rfl).1
  have hlt : ∀ x ∈ p, x.block < W.heap.size := fun x hx => hW'.lt x (by simpa using hx)
  clear hA0 hval0
  refine (calls_of_acalls Tryz.func7 rfl (by rfl) (R := fun r => r = V.bool true) (imageBytes_law l hl.1 hl.2 _ (fun r _ => r = V.bool true) rfl) hv).mono fun e W' ⟨r, u, he, hr, ⟨T, hvr⟩, hb⟩ => ?_
  subst hr
  have hu : u = .bool true := VRel.eq_s hvr
  subst hu
  subst he
  refine ⟨_, rfl, post_of_old (pa := p) (pv := []) hW' (fun _ _ _ => trodAll_cons_mk (shut_bool Tryz.underlying4 _) trodAll_mk0) (fun sp hsp => ?_) (fun _ _ => rfl) rfl (Below.kept hb _) (Below.froz hb) (ok_one (by kernel_rfl) rfl (okWide_bool_mk Tryz.underlying4 _))⟩
  exact trodAll_mk1 (WideElems.Trod_stays laid (by kernel_rfl) (of_decide_eq_true (by kernel_rfl)) ⟨fuel, hd0⟩ (fun x hx => hb.same (hlt x hx)) (fun x hx => hsp x (by simpa using hx)))

theorem imageBytes_proved : Rows.ImageBytesSaid :=
  OpenClaim.holds_of_wide 7 Tryz.f7 rfl rfl rfl rfl rfl rfl rfl ⟨rfl, rfl, rfl, rfl, rfl⟩ rfl rfl rfl rfl rfl (by kernel_rfl) Tryz.func7 (by kernel_rfl)
    (of_decide_eq_true (by kernel_rfl)) (by unfold Func.isWrapper; first | (rw [if_pos (by decide +kernel)]; kernel_rfl) | (rw [if_neg (by decide +kernel)]; exact ⟨rfl, rfl⟩))
    (fun os started H enc _ => imageBytes_lifted os started H enc)
#print axioms imageBytes_proved
end Go.Proofs.YtimehecofabmjaaGreat
