/- The ground on which laws of thronglaw26 are proved: contracts of functions and plain lemmas; no condition beyond the row's own. -/
import Derived.Test.YtimehecofabmjaaGreatRows
import Derived.Test.YtimehecofabmjaaGreatSI
import Derived.Test.YtimehecofabmjaaGreatSJ
set_option linter.unusedSimpArgs false
set_option linter.unusedVariables false
namespace Go.Proofs
open Go Go.V
set_option linter.unusedVariables false

theorem copyBytesA_spec (l : List UInt8) (hl : l.length ≤ 1000000000000) (st : Store) (R : AV → Store → Prop) (h : ∀ v st', App 1 st v (rws u8C l) st' → R v st') : ACalls Tryz.prog 10 [lst 1 u8C l] st R := by
  refine ACalls.of_body (c := cfg 19) infoOK Tryz.func10 (by rfl) (by rfl) (by rfl) (by rfl) ?_
  refine AWp.loop (σ := Nat × AV) ⟨fun s => [(0, .av (lst 1 u8C l)), (3, .av s.2), (4, .av (int s.1))], fun _ => [], fun s st' => s.1 ≤ l.length ∧ App 1 st s.2 (rws u8C (l.take s.1)) st', fun s => l.length - s.1⟩ infoOK ?_ ?_
  · exact ⟨(0, _), trivial, ⟨Nat.zero_le _, App.start 1 st⟩, ⟨LV.le_refl _, LV.le_refl _, LV.le_refl _, trivial⟩, trivial⟩
  · rintro ⟨i, v⟩ st' ⟨hi, ha⟩
    simp only at hi
    refine bcase_intro (fun h1 => ?_) (fun h1 => ?_)
    · have hlt : i < l.length := lt_len h1
      refine ⟨i, rfl, optK_intro _ (rws_get hlt) ?_⟩
      refine ⟨by decide, ?_⟩
      refine appendK_app (ie := ti5) (rows' := [u8C l[i]]) ha ?_ ?_ ⟨?_, ?_⟩ (fun v2 st2 ha2 => ?_)
      · rfl
      · rfl
      · simp [rws_len, ti5]; omega
      · simp [rws_len]; omega
      · refine ⟨⟨by omega, by omega⟩, ?_⟩
        refine ⟨(i + 1, v2), ?_, ⟨hlt, ?_⟩, ⟨LV.le_refl _, LV.le_refl _, LV.le_refl _, trivial⟩, trivial⟩
        · show l.length - (i + 1) < l.length - i
          omega
        · rw [← rws_snoc hlt]; exact ha2
    · have hge : i = l.length := ge_len h1 hi
      subst hge
      rw [List.take_length] at ha
      exact ret (h v st' ha)


theorem img_inj {a b : Wld} (ha : mayP a) (hb : mayP b) : decide (imgL a = imgL b) = decide (a = b) := by
  rw [Bool.eq_iff_iff, decide_eq_true_iff, decide_eq_true_iff]
  constructor
  · intro e
    have h1 := (img_ok (may_nums ha)).1
    have h2 := (img_ok (may_nums hb)).1
    rw [e, h2] at h1
    exact h1.symm
  · rintro rfl; rfl

set_option maxHeartbeats 2000000 in
theorem imageBack_law (l : List Ask26) (hl : l.length ≤ 140737488355328) (hn : ∀ a ∈ l, ∀ u ∈ a.W.U, u.pos.ok) (st : Store) (R : AV → Store → Prop) (h : R (V.bool true) st) : ACalls Tryz.prog 4 [lst 9 ask26C l] st R := by
  refine ACalls.of_awp (c := cfg 135) infoOK Tryz.func4 (by rfl) (by rfl) (by rfl) (by rfl) ?_
  refine AWp.seq (AWp.of_vc infoOK ?_)
  refine AWp.seq ?_
  refine AWp.seq (AWp.of_vc infoOK ?_)
  refine AWp.block ?_
  refine AWp.loopA (σ := Nat) ⟨fun i => [(0, .av (lst 9 ask26C l)), (3, .av (int (i : Nat)))], fun _ => [], fun i st' => (i ≤ l.length ∧ ∀ j, (hj : j < l.length) → j < i → ¬ heavy26P l[j]) ∧ st' = st, fun i => l.length - i⟩ ?_ ?_
  · exact ⟨0, trivial, ⟨⟨Nat.zero_le _, fun j _ hj => by omega⟩, rfl⟩, ⟨LV.le_refl _, LV.le_refl _, trivial⟩, trivial⟩
  rintro i st' ⟨⟨hi, hlight⟩, rfl⟩
  refine AWp.seq (AWp.of_vc infoOK ?_)
  refine bcase_intro (fun h1 => ?_) (fun h1 => AWp.of_vc infoOK (wakes26_spec _ _ (ret h)))
  have hlt : i < l.length := lt_len h1
  refine bcd (fun h2 => ?_) (fun h2 => AWp.of_vc infoOK (wakes26_spec _ _ (ret h)))
  refine AWp.seq (AWp.block (AWp.seq (AWp.of_vc infoOK ?_)))
  refine ⟨i, rfl, optK_intro _ (rws_get hlt) ?_⟩
  refine heavy26_spec l[i] _ _ (fun z hz => ?_)
  refine bcase_intro (fun c1 => ret h) (fun c1 => ?_)
  have hnh : ¬ heavy26P l[i] := fun hh => by rw [hz.2 hh] at c1; cases c1
  obtain ⟨hw, hx, hU, _⟩ := heavy26_fits hnh
  have hni := hn _ (List.getElem_mem hlt)
  have hl2 : i + 1 ≤ l.length ∧ ∀ j, (hj : j < l.length) → j < i + 1 → ¬ heavy26P l[j] := ⟨hlt, fun j hj hji => by
    by_cases e : j = i
    · subst e; exact hnh
    · exact hlight j hj (by omega)⟩
  have next : ∀ A : Fr, A.t 0 = .av (lst 9 ask26C l) → A.t 3 = .av (int (((i : Int) + 1))) → ∃ s : Nat, l.length - s < l.length - i ∧ ((s ≤ l.length ∧ ∀ j, (hj : j < l.length) → j < s → ¬ heavy26P l[j]) ∧ st' = st') ∧ fitsT A [(0, .av (lst 9 ask26C l)), (3, .av (int (s : Nat)))] ∧ fitsB A [] := by
    intro A h0 h3
    exact ⟨i + 1, by omega, ⟨hl2, rfl⟩, ⟨by rw [h0]; exact LV.le_refl _, by rw [h3]; exact LV.le_refl _, trivial⟩, trivial⟩
  refine AWp.seq (AWp.of_vc infoOK ?_)
  refine ⟨i, rfl, optK_intro _ (rws_get hlt) ?_⟩
  by_cases hm : mayP l[i].W
  rotate_left
  · refine ibytes_spec l[i].W hw hni _ _ (fun _ => ?_) (fun hh => absurd hh hm)
    refine AWp.of_vc infoOK ?_
    refine num26_spec _ _ _ ?_
    refine AWp.of_vc infoOK ?_
    refine in64 (by omega) ?_
    exact next _ rfl rfl
  have hwn := may_nums hm
  have hll := imgL_len hwn
  obtain ⟨g1, g2⟩ := img_ok hwn
  refine ibytes_spec l[i].W hw hni _ _ (fun hh => absurd hm hh) (fun _ => ?_)
  refine AWp.seq (AWp.of_vc infoOK ?_)
  refine num26_spec _ _ _ ?_
  refine AWp.seq (AWp.of_vc infoOK ?_)
  refine iparse_spec (imgL l[i].W) (by omega) _ _ (fun he => absurd g2 he) (fun _ hh => absurd (by rw [g1]; exact hm) hh) (fun _ _ => ?_)
  rw [g1]
  have g3 := img_more hwn 0 []
  refine AWp.seq (AWp.of_vc infoOK ?_)
  refine copyBytesA_spec (imgL l[i].W) (by omega) _ _ (fun v st1 ha => ?_)
  refine ⟨by decide, ?_⟩
  refine appB ha (l := [0]) (by rfl) (by simp; omega) (fun v2 st2 ha2 => ?_)
  refine ACalls.drop (st' := st') ha2.has ?_
  refine ACalls.le (ys := [byts (imgL l[i].W ++ [0])]) ⟨ha2.le, trivial⟩ ?_
  refine iparse_spec (imgL l[i].W ++ [0]) (by rw [List.length_append]; simp; omega) _ _ (fun he => ?_) (fun he _ => absurd (he.symm.trans g3) (by decide)) (fun he _ => absurd (he.symm.trans g3) (by decide))
  rw [g3]
  refine AWp.seq (AWp.of_vc infoOK ?_)
  refine ADraw.of_sched infoOK (by rfl) (by rfl) sch4_10 (by rfl) ?_
  refine ⟨num26_spec _ _ _ ⟨trivial, ?_⟩, trivial⟩
  refine ⟨i, rfl, optK_intro _ (rws_get hlt) ?_⟩
  refine ⟨eqWorld_spec l[i].W l[i].W hw _ _ ⟨trivial, ?_⟩, trivial⟩
  rw [decide_eq_true rfl]
  refine ⟨num26_spec _ _ _ ⟨trivial, ?_⟩, trivial⟩
  generalize hbb : imgL l[i].W = bb at *
  refine AWp.meetA (σ := Unit) ⟨fun _ => [(0, .av (lst 9 ask26C l)), (3, .av (int (i : Nat))), (4, .av (byts bb))], fun _ => [], fun _ s => s = st'⟩ ?_ ?_
  · refine AWp.seq (AWp.of_vc infoOK ?_)
    refine AWp.of_vc infoOK ?_
    refine AWp.loop (σ := Nat) ⟨fun k => [(0, .av (lst 9 ask26C l)), (3, .av (int (i : Nat))), (4, .av (byts bb)), (10, .av (int (k : Nat)))], fun _ => [], fun k s => s = st' ∧ k ≤ 2000000, fun k => bb.length - k⟩ infoOK ?_ ?_
    · exact ⟨0, trivial, ⟨rfl, by decide⟩, ⟨LV.le_refl _, LV.le_refl _, LV.le_refl _, LV.le_refl _, trivial⟩, trivial⟩
    rintro k s ⟨rfl, hk2⟩
    refine bcase_intro (fun h3 => ?_) (fun h3 => ?_)
    rotate_left
    · exact ⟨(), rfl, ⟨LV.le_refl _, LV.le_refl _, LV.le_refl _, trivial⟩, trivial⟩
    have hk : k < bb.length := lt_len h3
    refine ⟨0, k, rfl, rfl, by omega, by rw [rws_len]; omega, ?_⟩
    refine ACalls.le (ys := [byts (bb.take k)]) ⟨by rw [rws_take]; exact AV.le_refl _, trivial⟩ ?_
    have hcut : imgE (bb.take k) = 11 := img_cut hwn (by rw [hbb]; exact (List.take_append_drop k bb).symm) (by
      intro e
      have := congrArg List.length e
      rw [List.length_drop] at this
      simp at this
      omega)
    refine iparse_spec (bb.take k) (by rw [List.length_take]; omega) _ _ (fun he => ?_) (fun he _ => absurd (he.symm.trans hcut) (by decide)) (fun he _ => absurd (he.symm.trans hcut) (by decide))
    rw [hcut]
    refine num26_spec _ _ _ ?_
    refine ACalls.le (ys := [.agg (wldC w00), .agg (wldC w00)]) ⟨AV.le_refl _, zero_leL, trivial⟩ ?_
    refine eqWorld_spec w00 w00 w00_fits _ _ ?_
    rw [decide_eq_true rfl]
    have hq : ((rws u8C bb).length : Int).tdiv 30 = ((rws u8C bb).length / 30 : Nat) := rfl
    have hql : (rws u8C bb).length = bb.length := rws_len bb
    refine in64 (by omega) ?_
    refine ⟨by decide, ?_⟩
    refine in64 (by rw [hq]; omega) ?_
    refine in64 (by rw [hq]; omega) ?_
    refine ⟨k + 1 + (rws u8C bb).length / 30, ?_, ⟨rfl, by omega⟩, ⟨LV.le_refl _, LV.le_refl _, LV.le_refl _, LV.le_refl _, trivial⟩, trivial⟩
    show bb.length - (k + 1 + (rws u8C bb).length / 30) < bb.length - k
    omega
  rintro _ s rfl
  refine AWp.seq (AWp.of_vc infoOK ?_)
  refine AWp.of_vc infoOK ?_
  refine AWp.loop (σ := Nat) ⟨fun k => [(0, .av (lst 9 ask26C l)), (3, .av (int (i : Nat))), (4, .av (byts bb)), (13, .av (int (k : Nat)))], fun _ => [], fun k s' => s' = s ∧ k ≤ i, fun k => i - k⟩ infoOK ?_ ?_
  · exact ⟨0, trivial, ⟨rfl, Nat.zero_le _⟩, ⟨LV.le_refl _, LV.le_refl _, LV.le_refl _, LV.le_refl _, trivial⟩, trivial⟩
  rintro k s' ⟨rfl, hk⟩
  refine bcd (fun h3 => ?_) (fun h3 => ?_)
  rotate_left
  · refine AWp.of_vc infoOK ?_
    refine in64 (by omega) ?_
    exact next _ rfl rfl
  have hki : k < i := by omega
  have hkl : k < l.length := by omega
  obtain ⟨hwk, _, _⟩ := heavy26_fits (hlight k hkl hki)
  have hnk := hn _ (List.getElem_mem hkl)
  refine ⟨k, rfl, optK_intro _ (rws_get hkl) ?_⟩
  have step : ∀ A : Fr, A.t 0 = .av (lst 9 ask26C l) → A.t 3 = .av (int (i : Nat)) → A.t 4 = .av (byts bb) → A.t 13 = .av (int (((k : Int) + 1))) →
      ∃ k' : Nat, i - k' < i - k ∧ (s' = s' ∧ k' ≤ i) ∧ fitsT A [(0, .av (lst 9 ask26C l)), (3, .av (int (i : Nat))), (4, .av (byts bb)), (13, .av (int (k' : Nat)))] ∧ fitsB A [] := by
    intro A q0 q3 q4 q13
    exact ⟨k + 1, by omega, ⟨rfl, by omega⟩, ⟨by rw [q0]; exact LV.le_refl _, by rw [q3]; exact LV.le_refl _, by rw [q4]; exact LV.le_refl _, by rw [q13]; exact LV.le_refl _, trivial⟩, trivial⟩
  by_cases hmk : mayP l[k].W
  · have hlk := imgL_len (may_nums hmk)
    refine ibytes_spec l[k].W hwk hnk _ _ (fun hh => absurd hmk hh) (fun _ => ?_)
    have hinj := img_inj hm hmk
    rw [hbb] at hinj
    refine ADraw.of_sched infoOK (by rfl) (by rfl) sch4_22 (by rfl) ?_
    refine ⟨num26_spec _ _ _ ⟨trivial, ?_⟩, trivial⟩
    refine ⟨i, rfl, optK_intro _ (rws_get hlt) ?_⟩
    refine ⟨k, rfl, optK_intro _ (rws_get hkl) ?_⟩
    refine ⟨eqBytes_spec bb (imgL l[k].W) (by omega) _ _ ⟨?_, ?_⟩, trivial⟩
    · repeat (first | exact trivial | refine ⟨rfl, ?_⟩ | refine ⟨⟨i, rfl, optK_intro _ (rws_get hlt) rfl⟩, ?_⟩ | refine ⟨⟨k, rfl, optK_intro _ (rws_get hkl) rfl⟩, ?_⟩)
    refine ⟨eqWorld_spec l[i].W l[k].W hw _ _ ⟨trivial, ?_⟩, trivial⟩
    rw [hinj]
    refine bcase_intro (fun c => absurd c (by simp)) (fun _ => ?_)
    refine in64 (by omega) ?_
    exact step _ rfl rfl rfl rfl
  · refine ibytes_spec l[k].W hwk hnk _ _ (fun _ => ?_) (fun hh => absurd hh hmk)
    refine ADraw.of_sched infoOK (by rfl) (by rfl) sch4_22 (by rfl) ?_
    refine ⟨num26_spec _ _ _ ⟨trivial, ?_⟩, trivial⟩
    refine ⟨⟨(by repeat (first | exact trivial | refine ⟨rfl, ?_⟩ | refine ⟨optR (optR (optR (optK_intro _ (setObj_self _ _ _) rfl))), ?_⟩)), ?_⟩, trivial⟩
    refine ⟨⟨(by repeat (first | exact trivial | refine ⟨rfl, ?_⟩ | refine ⟨optR (optR (optR (optK_intro _ (setObj_self _ _ _) rfl))), ?_⟩)), ?_⟩, trivial⟩
    refine in64 (by omega) ?_
    exact step _ rfl rfl rfl rfl
end Go.Proofs
namespace Go.Proofs.YtimehecofabmjaaGreat
open Go Go.V Go.ChangeShapes Go.WideShapes Go.ChangeAt Go.RowKit
set_option linter.unusedVariables false
set_option linter.unusedSimpArgs false

theorem own : ownKnob Tryz.prog.godebug = none := by kernel_rfl
theorem laid : laidOutB Tryz.prog = true := by kernel_rfl

theorem slice_cells {P : Program} {w : World} {r : Reach} {base : Nat} {t e : TypeId} {v : Value} (ht : P.underlying t = some (.slice e)) (h : Value.okWide P w r base t v) : v.cells.toList = [v] := by
  simp only [Value.okWide, ht] at h
  cases v <;> simp_all [Cell.okWide, Cell.ok, Value.cells]

set_option maxRecDepth 100000 in
theorem imageBack_lifted (os : Os) (started : os.Started) (H : Type) (enc : TypeId × Value → H) :
    ReturnsInHanded {} Tryz.checked os 4 .any (Rows.imageBackSpec.pre6 enc Tryz.prog Tryz.f4 Rows.imageBackRow.domain false) (Rows.imageBackSpec.post enc Tryz.prog Tryz.f4 false true false false) := by
  refine returnsInHanded_of_change_sized (C := Tryz.checked) own started (by kernel_rfl) Tryz.func4
    (ChangeSpec.witness6 (enc := enc) (C := Tryz.checked) false ⟨#[], #[.slice none 0 0], []⟩ 8 (by kernel_rfl) (by kernel_rfl) (by kernel_rfl) (by kernel_rfl)) ?_
  intro W base args ds gs before hval0 hW hcnd hsz _
  have hval : ∀ (j : Nat) t v, Tryz.f4.params[j]? = some t → args[j]? = some v → Value.okWide Tryz.prog W .any base t v := hval0
  have hW' := hW
  obtain ⟨p, q, hA0, hV, rfl, hfz, hnd⟩ := hW
  have hA : DataW.TrodAll enc Tryz.prog W 0 (fun _ => true) true Tryz.f4.params.toList args.toList ds p := hA0
  rw [Tryz.params4] at hA hval
  obtain ⟨v, d, rfl, rfl, hd⟩ := trodAll_one hA
  obtain ⟨rfl, rfl⟩ := trodVars_none hV
  obtain ⟨fuel, hd0⟩ := hd
  have hw : ∀ n ∈ d.weights Tryz.prog 22, n ≤ reachBytes := fun n hn => by
    have h2 := List.all_eq_true.1 hsz n (DataW.weights_mem_each (j := 0) (t := 22) (d := d) (by rfl) (by rfl) n hn)
    simpa using h2
  obtain ⟨l, hl, hc⟩ := asks26_codec.out enc W 0 true fuel _ _ hd0 hw
  have hv1 : v.cells.toList = [v] := slice_cells Tryz.underlying22 (hval 0 _ v rfl rfl)
  rw [hv1] at hc
  have hv : VRel W T0 (lst 9 ask26C l) v := (hc.2 0 _ v rfl rfl).1
  have hlt : ∀ x ∈ p, x.block < W.heap.size := fun x hx => hW'.lt x (by simpa using hx)
  clear hA0 hval0
  refine (calls_of_acalls Tryz.func4 rfl (by rfl) (R := fun r => r = V.bool true) (imageBack_law l hl.1 hl.2 _ (fun r _ => r = V.bool true) rfl) hv).mono fun e W' ⟨r, u, he, hr, ⟨T, hvr⟩, hb⟩ => ?_
  subst hr
  have hu : u = .bool true := VRel.eq_s hvr
  subst hu
  subst he
  refine ⟨_, rfl, post_of_old (pa := p) (pv := []) hW' (fun _ _ _ => trodAll_cons_mk (shut_bool Tryz.underlying4 _) trodAll_mk0) (fun sp hsp => ?_) (fun _ _ => rfl) rfl (Below.kept hb _) (Below.froz hb) (ok_one (by kernel_rfl) rfl (okWide_bool_mk Tryz.underlying4 _))⟩
  exact trodAll_mk1 (WideElems.Trod_stays laid (by kernel_rfl) (of_decide_eq_true (by kernel_rfl)) ⟨fuel, hd0⟩ (fun x hx => hb.same (hlt x hx)) (fun x hx => hsp x (by simpa using hx)))

theorem imageBack_proved : Rows.ImageBackSaid :=
  OpenClaim.holds_of_wide 4 Tryz.f4 rfl rfl rfl rfl rfl rfl rfl ⟨rfl, rfl, rfl, rfl, rfl⟩ rfl rfl rfl rfl rfl (by kernel_rfl) Tryz.func4 (by kernel_rfl)
    (of_decide_eq_true (by kernel_rfl)) (by unfold Func.isWrapper; first | (rw [if_pos (by decide +kernel)]; kernel_rfl) | (rw [if_neg (by decide +kernel)]; exact ⟨rfl, rfl⟩))
    (fun os started H enc _ => imageBack_lifted os started H enc)
#print axioms imageBack_proved
end Go.Proofs.YtimehecofabmjaaGreat
