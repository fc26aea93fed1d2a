/- The ground on which laws of thronglaw26 are proved: contracts of functions and plain lemmas; no condition beyond the row's own. -/
import Derived.Test.YtimehecofabmjaaGreatRows
import Derived.Test.YtimehecofabmjaaGreatFI6B
import Derived.Test.YtimehecofabmjaaGreatSJ
set_option linter.unusedSimpArgs false
set_option linter.unusedVariables false
namespace Go.Proofs
open Go Go.V
set_option linter.unusedVariables false

theorem rparse_frozen (b : List UInt8) (hb : b.length ≤ 1048576) : ACalls Tryz.prog 12 [byts b] Store.empty fun r _ => ResQ b r :=
  ACalls.frozen (Q := fun r S => Ref3 b r S) (rparse_key b hb _ fun r S h => h) fun r S h => by
    rcases h with ⟨g1, rfl⟩ | ⟨g1, g2, rfl⟩ | ⟨g1, g2, vB, vU, g3, g4, rfl⟩
    · exact ⟨_, .inl ⟨g1, rfl⟩, fun Oth M w v hs hv => tup2_borrow (fun u hu => mono_borrow (zero_le _ _ _ hu)) hv⟩
    · exact ⟨_, .inr (.inl ⟨g1, g2, rfl⟩), fun Oth M w v hs hv => tup2_borrow (fun u hu => mono_borrow (zero_le _ _ _ hu)) hv⟩
    · exact ⟨_, .inr (.inr ⟨g1, g2, rfl⟩), fun Oth M w v hs hv => tup2_borrow (fun u hu => wldVV_borrow g3 g4 hs hu) hv⟩

theorem rparse_spec (b : List UInt8) (hb : b.length ≤ 1048576) (st : Store) (R : AV → Store → Prop) (h0 : imgE b ≠ 0 → R (.tup [.agg (wldC w00), int (imgE b)]) st) (h1 : imgE b = 0 → ¬ mayP (imgW b) → R (.tup [.agg (wldC w00), int 1]) st)
    (h2 : imgE b = 0 → mayP (imgW b) → R (.tup [.agg (wldC (imgW b)), int 0]) st) : ACalls Tryz.prog 12 [byts b] st R :=
  lift0 (rparse_frozen b hb) st R fun r hr => by
    rcases hr with ⟨g1, rfl⟩ | ⟨g1, g2, rfl⟩ | ⟨g1, g2, rfl⟩
    · exact h0 g1
    · exact h1 g1 g2
    · exact h2 g1 g2

theorem i3_spec (b : List UInt8) (hb : b.length ≤ 1048576) (st : Store) (R : AV → Store → Prop) (h0 : imgE b ≠ 0 → R (.tup [.agg (z6 ++ [nil, nil]), int (imgE b)]) st) (h1 : imgE b = 0 → ¬ mayP (imgW b) → R (.tup [.agg (z6 ++ [nil, nil]), int 1]) st)
    (h2 : imgE b = 0 → mayP (imgW b) → ∀ vT vB vU N, Own3 N (imgW b) vT vB vU → Disj N st → R (.tup [.agg (wldV3 (imgW b) vT vB vU), int 0]) (N.un st)) : ACalls Tryz.prog 11 [byts b] st R := by
  rw [← empty_un st]
  refine ACalls.post (ACalls.frame (R' := fun r st' => ∃ a', st' = a'.un st ∧ Post3 b r a' ∧ Disj a' st) (disj_emptyL st) (iparse3_key b hb (fun r S => Post3 b r S) fun r S h => h) fun r a' h1 hd => ⟨a', rfl, h1, hd⟩) (Store.Le.refl _) fun r st' ⟨a', e, h3, hd⟩ => ?_
  rcases h3 with ⟨g1, rfl⟩ | ⟨g1, g2, rfl⟩ | ⟨g1, g2, vT, vB, vU, g3, rfl⟩
  · exact ⟨_, st, AV.le_refl _, e ▸ un_le_r, h0 g1⟩
  · exact ⟨_, st, AV.le_refl _, e ▸ un_le_r, h1 g1 g2⟩
  · exact ⟨_, _, AV.le_refl _, Store.Le.refl _, e ▸ h2 g1 g2 vT vB vU a' g3 hd⟩

theorem Own3.unL {N st : Store} {w : Wld} {vT vB vU : AV} (h : Own3 N w vT vB vU) (hd : Disj N st) : Own3 (N.un st) w vT vB vU :=
  ⟨h.rT.unL hd, h.rB.unL hd, h.rU.unL hd, h.nTB, h.nTU, h.nBU⟩

theorem eqWorldO_spec {g : Store} {w : Wld} {vT vB vU : AV} (ho : Own3 g w vT vB vU) (hw : w.fits) (b : Wld) (R : AV → Store → Prop) (h : R (V.bool (decide (w = b))) g) : ACalls Tryz.prog 14 [.agg (wldV3 w vT vB vU), .agg (wldC b)] g R :=
  ACalls.read (ys := [.agg (wldC w), .agg (wldC b)]) (Q := fun r => r = V.bool (decide (w = b))) (fun Oth M W vs sto hr => by
    obtain ⟨x, y, rfl, h1, h2⟩ := reads2 hr
    exact Reads.cons (own_borrow ho sto h1) (Reads.cons (mono_borrow h2) Reads.nil)) (eqWorld_spec w b hw _ _ rfl) (fun r hr => by subst hr; exact flat_s _) (fun r hr => by subst hr; exact h)

set_option maxHeartbeats 2000000 in
theorem imageParses_law (l : List Ask26) (hl : l.length ≤ 140737488355328) (st : Store) (R : AV → Store → Prop) (h : R (V.bool true) st) : ACalls Tryz.prog 3 [lst 9 ask26C l] st R := by
  refine ACalls.of_body (c := cfg 67) infoOK Tryz.func3 (by rfl) (by rfl) (by rfl) (by rfl) ?_
  refine AWp.loop (σ := Nat) ⟨fun i => [(0, .av (lst 9 ask26C l)), (3, .av (int (i : Nat)))], fun _ => [], fun i st' => i ≤ l.length ∧ st' = st, fun i => l.length - i⟩ infoOK ?_ ?_
  · exact ⟨0, trivial, ⟨Nat.zero_le _, rfl⟩, ⟨LV.le_refl _, LV.le_refl _, trivial⟩, trivial⟩
  rintro i st' ⟨hi, rfl⟩
  refine bcase_intro (fun h1 => ?_) (fun h1 => wakes26_spec _ _ (ret h))
  have hlt : i < l.length := lt_len h1
  refine bcd (fun h2 => ?_) (fun h2 => wakes26_spec _ _ (ret h))
  refine ⟨i, rfl, optK_intro _ (rws_get hlt) ?_⟩
  refine heavy26_spec l[i] _ _ (fun z hz => ?_)
  refine bcase_intro (fun c1 => ret h) (fun c1 => ?_)
  obtain ⟨hw, hx, _⟩ := heavy26_fits (a := l[i]) fun hh => by rw [hz.2 hh] at c1; cases c1
  have next : ∀ A : Fr, A.t 0 = .av (lst 9 ask26C l) → A.t 3 = .av (int (((i : Int) + 1))) → ∃ s : Nat, l.length - s < l.length - i ∧ (s ≤ l.length ∧ st' = st') ∧ fitsT A [(0, .av (lst 9 ask26C l)), (3, .av (int (s : Nat)))] ∧ fitsB A [] := by
    intro A h0 h3
    refine ⟨i + 1, by omega, ⟨hlt, rfl⟩, ⟨by rw [h0]; exact LV.le_refl _, by rw [h3]; exact LV.le_refl _, trivial⟩, trivial⟩
  refine ⟨i, rfl, optK_intro _ (rws_get hlt) ?_⟩
  refine copyBytes_spec l[i].X (by omega) _ _ ?_
  refine i3_spec l[i].X (by omega) _ _ (fun he => ?_) (fun he hm => ?_) (fun he hm vT vB vU N ho hd => ?_)
  · refine ⟨i, rfl, optK_intro _ (rws_get hlt) ?_⟩
    refine rparse_spec l[i].X (by omega) _ _ (fun _ => ?_) (fun hh => absurd hh he) (fun hh => absurd hh he)
    generalize imgE l[i].X = e at he
    refine num26_spec _ _ _ ?_
    refine bcne (fun c => absurd rfl c) (fun _ => ?_)
    refine ACalls.le (ys := [.agg (wldC w00), .agg (wldC w00)]) ⟨zero_leL, AV.le_refl _, trivial⟩ ?_
    refine eqWorld_spec w00 w00 w00_fits _ _ ?_
    rw [decide_eq_true rfl]
    refine ⟨i, rfl, optK_intro _ (rws_get hlt) ?_⟩
    refine eqBytes_spec l[i].X l[i].X (by omega) _ _ ?_
    rw [decide_eq_true rfl]
    refine spoil0_spec _ _ ?_
    refine in64 (by omega) ?_
    exact next _ rfl rfl
  · refine ⟨i, rfl, optK_intro _ (rws_get hlt) ?_⟩
    refine rparse_spec l[i].X (by omega) _ _ (fun hh => absurd he hh) (fun _ _ => ?_) (fun _ hh => absurd hh hm)
    refine num26_spec _ _ _ ?_
    refine ACalls.le (ys := [.agg (wldC w00), .agg (wldC w00)]) ⟨zero_leL, AV.le_refl _, trivial⟩ ?_
    refine eqWorld_spec w00 w00 w00_fits _ _ ?_
    rw [decide_eq_true rfl]
    refine ⟨i, rfl, optK_intro _ (rws_get hlt) ?_⟩
    refine eqBytes_spec l[i].X l[i].X (by omega) _ _ ?_
    rw [decide_eq_true rfl]
    refine spoil0_spec _ _ ?_
    refine in64 (by omega) ?_
    exact next _ rfl rfl
  · have o1 := (rows_some ho.rT).2
    have o2 := (rows_some ho.rB).2
    have o3 := (rows_some ho.rU).2
    have oall : (wldV3 (imgW l[i].X) vT vB vU).all AV.one = true := by
      show (true && (true && (true && (true && (true && (vT.one && (vB.one && (vU.one && true)))))))) = true
      rw [o1, o2, o3]; rfl
    have hfit := img_fits he
    have hg := hm.1.1.2.1.1
    have ha := gnd_area hg
    have hBl := hm.1.1.2.1.2.1.1
    have hUl := hm.1.1.2.1.2.2
    refine storeK_boxL (i := ti30) (xs := wldV3 (imgW l[i].X) vT vB vU) (l := z6 ++ [nil, nil]) (b := 5) (o := 0) (v := .agg (wldV3 (imgW l[i].X) vT vB vU)) rfl oall rfl (by rfl) (by show 0 + 8 ≤ 8; decide) ?_
    refine ⟨i, rfl, optK_intro _ (rws_get hlt) ?_⟩
    refine rparse_spec l[i].X (by omega) _ _ (fun hh => absurd he hh) (fun _ hh => absurd hm hh) (fun _ _ => ?_)
    refine num26_spec _ _ _ ?_
    refine eqWorldO_spec (ho.unL hd) hfit (imgW l[i].X) _ ?_
    rw [decide_eq_true rfl]
    refine ⟨i, rfl, optK_intro _ (rws_get hlt) ?_⟩
    refine eqBytes_spec l[i].X l[i].X (by omega) _ _ ?_
    rw [decide_eq_true rfl]
    refine ACalls.frame hd (spoilW_spec ho (by omega) (by omega) (by omega) (fun r s => r = .tup [] ∧ s = Store.empty) ⟨rfl, rfl⟩) (fun r a' hh _ => ?_)
    obtain ⟨rfl, rfl⟩ := hh
    rw [empty_un]
    refine in64 (by omega) ?_
    exact next _ rfl rfl
end Go.Proofs
namespace Go.Proofs.YtimehecofabmjaaGreat
open Go Go.V Go.ChangeShapes Go.WideShapes Go.ChangeAt Go.RowKit
set_option linter.unusedVariables false
set_option linter.unusedSimpArgs false

theorem own : ownKnob Tryz.prog.godebug = none := by kernel_rfl
theorem laid : laidOutB Tryz.prog = true := by kernel_rfl

theorem slice_cells {P : Program} {w : World} {r : Reach} {base : Nat} {t e : TypeId} {v : Value} (ht : P.underlying t = some (.slice e)) (h : Value.okWide P w r base t v) : v.cells.toList = [v] := by
  simp only [Value.okWide, ht] at h
  cases v <;> simp_all [Cell.okWide, Cell.ok, Value.cells]

set_option maxRecDepth 100000 in
theorem imageParses_lifted (os : Os) (started : os.Started) (H : Type) (enc : TypeId × Value → H) :
    ReturnsInHanded {} Tryz.checked os 3 .any (Rows.imageParsesSpec.pre6 enc Tryz.prog Tryz.f3 Rows.imageParsesRow.domain false) (Rows.imageParsesSpec.post enc Tryz.prog Tryz.f3 false true false false) := by
  refine returnsInHanded_of_change_sized (C := Tryz.checked) own started (by kernel_rfl) Tryz.func3
    (ChangeSpec.witness6 (enc := enc) (C := Tryz.checked) false ⟨#[], #[.slice none 0 0], []⟩ 8 (by kernel_rfl) (by kernel_rfl) (by kernel_rfl) (by kernel_rfl)) ?_
  intro W base args ds gs before hval0 hW hcnd hsz _
  have hval : ∀ (j : Nat) t v, Tryz.f3.params[j]? = some t → args[j]? = some v → Value.okWide Tryz.prog W .any base t v := hval0
  have hW' := hW
  obtain ⟨p, q, hA0, hV, rfl, hfz, hnd⟩ := hW
  have hA : DataW.TrodAll enc Tryz.prog W 0 (fun _ => true) true Tryz.f3.params.toList args.toList ds p := hA0
  rw [Tryz.params3] at hA hval
  obtain ⟨v, d, rfl, rfl, hd⟩ := trodAll_one hA
  obtain ⟨rfl, rfl⟩ := trodVars_none hV
  obtain ⟨fuel, hd0⟩ := hd
  have hw : ∀ n ∈ d.weights Tryz.prog 22, n ≤ reachBytes := fun n hn => by
    have h2 := List.all_eq_true.1 hsz n (DataW.weights_mem_each (j := 0) (t := 22) (d := d) (by rfl) (by rfl) n hn)
    simpa using h2
  obtain ⟨l, hl, hc⟩ := asks26_codec.out enc W 0 true fuel _ _ hd0 hw
  have hv1 : v.cells.toList = [v] := slice_cells Tryz.underlying22 (hval 0 _ v rfl rfl)
  rw [hv1] at hc
  have hv : VRel W T0 (lst 9 ask26C l) v := (hc.2 0 _ v rfl rfl).1
  have hlt : ∀ x ∈ p, x.block < W.heap.size := fun x hx => hW'.lt x (by simpa using hx)
  clear hA0 hval0
  refine (calls_of_acalls Tryz.func3 rfl (by rfl) (R := fun r => r = V.bool true) (imageParses_law l hl.1 _ (fun r _ => r = V.bool true) rfl) hv).mono fun e W' ⟨r, u, he, hr, ⟨T, hvr⟩, hb⟩ => ?_
  subst hr
  have hu : u = .bool true := VRel.eq_s hvr
  subst hu
  subst he
  refine ⟨_, rfl, post_of_old (pa := p) (pv := []) hW' (fun _ _ _ => trodAll_cons_mk (shut_bool Tryz.underlying4 _) trodAll_mk0) (fun sp hsp => ?_) (fun _ _ => rfl) rfl (Below.kept hb _) (Below.froz hb) (ok_one (by kernel_rfl) rfl (okWide_bool_mk Tryz.underlying4 _))⟩
  exact trodAll_mk1 (WideElems.Trod_stays laid (by kernel_rfl) (of_decide_eq_true (by kernel_rfl)) ⟨fuel, hd0⟩ (fun x hx => hb.same (hlt x hx)) (fun x hx => hsp x (by simpa using hx)))

theorem imageParses_proved : Rows.ImageParsesSaid :=
  OpenClaim.holds_of_wide 3 Tryz.f3 rfl rfl rfl rfl rfl rfl rfl ⟨rfl, rfl, rfl, rfl, rfl⟩ rfl rfl rfl rfl rfl (by kernel_rfl) Tryz.func3 (by kernel_rfl)
    (of_decide_eq_true (by kernel_rfl)) (by unfold Func.isWrapper; first | (rw [if_pos (by decide +kernel)]; kernel_rfl) | (rw [if_neg (by decide +kernel)]; exact ⟨rfl, rfl⟩))
    (fun os started H enc _ => imageParses_lifted os started H enc)
#print axioms imageParses_proved
end Go.Proofs.YtimehecofabmjaaGreat
