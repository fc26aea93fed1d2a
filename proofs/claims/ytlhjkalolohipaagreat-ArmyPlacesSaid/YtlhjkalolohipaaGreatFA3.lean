/- The ground on which laws of thronglaw21 are proved: contracts of functions and plain lemmas; no condition beyond the row's own. -/
import Derived.Test.YtlhjkalolohipaaGreatRows
import Derived.Test.YtlhjkalolohipaaGreatSH
import Derived.Test.YtlhjkalolohipaaGreatSG
namespace Go.Proofs
open Go Go.V
set_option linter.unusedVariables false

set_option maxHeartbeats 1000000 in
theorem armyPlaces_law (a : Ask21) (hn : ∀ u ∈ a.W.U, u.pos.ok) (hp : ∀ v ∈ a.P, v.ok) (st : Store) (R : AV → Store → Prop) (h : R (V.bool true) st) : ACalls Tryz.prog 5 [.agg (ask21C a)] st R := by
  refine ACalls.of_awp (c := cfg 105) infoOK Tryz.func5 (by rfl) (by rfl) (by rfl) (by rfl) ?_
  refine AWp.seq (AWp.of_vc infoOK ?_)
  refine AWp.seq (AWp.of_vc infoOK ?_)
  refine heavy_spec a _ _ (fun z hz => ?_)
  refine bcase_intro (fun c1 => ret h) (fun c1 => ?_)
  have hnh : ¬ heavyP a := fun hh => by have := hz.2 hh; rw [this] at c1; cases c1
  unfold heavyP greatP at hnh
  have hw : a.W.fits := ⟨by unfold Gnd.fits; omega, by omega, by omega⟩
  have hI : a.I.length ≤ 30 := by omega
  refine AWp.seq (AWp.of_vc infoOK ?_)
  refine check21_spec a.W hw hn _ _ (fun zc hzc => ?_)
  refine AWp.seq ?_
  refine AWp.seq (AWp.of_vc infoOK ?_)
  refine AWp.block ?_
  refine AWp.loopA (σ := Nat) ⟨fun i => [(1, .bx 1 0), (3, .av (int (codeZ zc))), (4, .av (int (i : Nat)))], fun _ => [(1, ask21C a)], fun i st' => i ≤ a.P.length ∧ st' = st, fun i => a.P.length - i⟩ ?_ ?_
  · exact ⟨0, trivial, ⟨Nat.zero_le _, rfl⟩, ⟨LV.le_refl _, LV.le_refl _, LV.le_refl _, trivial⟩, ⟨rfl, trivial⟩⟩
  rintro i st' ⟨hi, rfl⟩
  refine AWp.seq (AWp.of_vc infoOK ?_)
  refine bcase_intro (fun h1 => ?_) (fun h1 => ?_)
  rotate_left
  · refine AWp.of_vc infoOK ?_
    exact awakes_spec _ _ (ret h)
  have hlt : i < a.P.length := lt_len h1
  refine AWp.seq (AWp.block (AWp.seq (AWp.of_vc infoOK ?_)))
  refine AWp.block ?_
  refine AWp.loopA (σ := Nat) ⟨fun k => [(1, .bx 1 0), (3, .av (int (codeZ zc))), (4, .av (int (i : Nat))), (5, .av (int (k : Nat)))], fun _ => [(1, ask21C a)], fun k s => k ≤ a.K.length ∧ s = st', fun k => a.K.length - k⟩ ?_ ?_
  · exact ⟨0, trivial, ⟨Nat.zero_le _, rfl⟩, ⟨LV.le_refl _, LV.le_refl _, LV.le_refl _, LV.le_refl _, trivial⟩, ⟨rfl, trivial⟩⟩
  rintro k st' ⟨hk, rfl⟩
  refine AWp.seq (AWp.of_vc infoOK ?_)
  refine bcase_intro (fun h2 => ?_) (fun h2 => ?_)
  rotate_left
  · refine AWp.of_vc infoOK ?_
    refine in64 (by omega) ?_
    refine ⟨i + 1, ?_, ⟨hlt, rfl⟩, ⟨LV.le_refl _, LV.le_refl _, LV.le_refl _, trivial⟩, ⟨rfl, trivial⟩⟩
    show a.P.length - (i + 1) < a.P.length - i
    omega
  have hkl : k < a.K.length := lt_len h2
  refine bcd (fun h3 => ?_) (fun h3 => ?_)
  rotate_left
  · refine AWp.of_vc infoOK ?_
    refine in64 (by omega) ?_
    refine ⟨i + 1, ?_, ⟨hlt, rfl⟩, ⟨LV.le_refl _, LV.le_refl _, LV.le_refl _, trivial⟩, ⟨rfl, trivial⟩⟩
    show a.P.length - (i + 1) < a.P.length - i
    omega
  refine AWp.seq (AWp.block (AWp.seq (AWp.of_vc infoOK ?_)))
  refine AWp.meetA (σ := Int) ⟨fun id => [(1, .bx 1 0), (3, .av (int (codeZ zc))), (4, .av (int (i : Nat))), (5, .av (int (k : Nat))), (6, .av (int id))], fun _ => [(1, ask21C a)], fun _ s => s = st'⟩ ?_ ?_
  · refine AWp.of_vc infoOK ?_
    refine bcase_intro (fun h4 => ?_) (fun h4 => ?_)
    · have hil : i < a.I.length := lt_len h4
      refine ⟨i, rfl, optK_intro _ (rws_get hil) ?_⟩
      exact ⟨a.I[i], rfl, ⟨LV.le_refl _, LV.le_refl _, LV.le_refl _, LV.le_refl _, LV.le_refl _, trivial⟩, ⟨rfl, trivial⟩⟩
    · exact ⟨0, rfl, ⟨LV.le_refl _, LV.le_refl _, LV.le_refl _, LV.le_refl _, LV.le_refl _, trivial⟩, ⟨rfl, trivial⟩⟩
  rintro id st' rfl
  refine AWp.seq (AWp.of_vc infoOK ?_)
  refine AWp.meetA (σ := Bool) ⟨fun kz => [(1, .bx 1 0), (3, .av (int (codeZ zc))), (4, .av (int (i : Nat))), (5, .av (int (k : Nat))), (6, .av (int id)), (7, .av (int (codeZ zc))), (8, .av (V.bool false)), (10, .av (V.bool kz))], fun _ => [(1, ask21C a)], fun kz s => s = st' ∧ (kz = true ↔ kindP a.K[k])⟩ ?_ ?_
  · refine AWp.of_vc infoOK ?_
    refine ⟨k, rfl, optK_intro _ (rws_get hkl) ?_⟩
    refine kof_spec a.K[k] _ _ (fun hkk => ?_) (fun hkk => ?_)
    · exact ⟨true, ⟨rfl, by simp [hkk]⟩, ⟨LV.le_refl _, LV.le_refl _, LV.le_refl _, LV.le_refl _, LV.le_refl _, LV.le_refl _, LV.le_refl _, LV.le_refl _, trivial⟩, ⟨rfl, trivial⟩⟩
    · exact ⟨false, ⟨rfl, by simp [hkk]⟩, ⟨LV.le_refl _, LV.le_refl _, LV.le_refl _, LV.le_refl _, LV.le_refl _, LV.le_refl _, LV.le_refl _, LV.le_refl _, trivial⟩, ⟨rfl, trivial⟩⟩
  rintro kz st' ⟨rfl, hkz⟩
  refine AWp.meetA (σ := Unit) ⟨fun _ => [(1, .bx 1 0), (3, .av (int (codeZ zc))), (4, .av (int (i : Nat))), (5, .av (int (k : Nat))), (6, .av (int id)), (7, .av (int (codeZ (zc && kz)))), (8, .av (V.bool false))], fun _ => [(1, ask21C a)], fun _ s => s = st'⟩ ?_ ?_
  · refine AWp.of_vc infoOK ?_
    refine bceq (fun c2 => ?_) (fun c2 => ?_)
    · refine bcnot (bcase_intro (fun c3 => ?_) (fun c3 => ?_))
      · refine ⟨(), rfl, ⟨LV.le_refl _, LV.le_refl _, LV.le_refl _, LV.le_refl _, LV.le_refl _, ?_, LV.le_refl _, trivial⟩, ⟨rfl, trivial⟩⟩
        rw [c3, Bool.and_true]
        exact LV.le_refl _
      · refine ⟨(), rfl, ⟨LV.le_refl _, LV.le_refl _, LV.le_refl _, LV.le_refl _, LV.le_refl _, ?_, LV.le_refl _, trivial⟩, ⟨rfl, trivial⟩⟩
        rw [c3, Bool.and_false]
        exact LV.le_refl _
    · have : zc = false := by cases zc with
        | false => rfl
        | true => exact absurd rfl c2
      subst this
      exact ⟨(), rfl, ⟨LV.le_refl _, LV.le_refl _, LV.le_refl _, LV.le_refl _, LV.le_refl _, LV.le_refl _, LV.le_refl _, trivial⟩, ⟨rfl, trivial⟩⟩
  rintro _ st' rfl
  have hpi := hp _ (List.getElem_mem hlt)
  have hzk : (zc && kz) = true ↔ mayP a.W ∧ kindP a.K[k] := by rw [Bool.and_eq_true, hzc, hkz]
  generalize (zc && kz) = zk at hzk
  refine AWp.meetA (σ := Bool) ⟨fun want => [(1, .bx 1 0), (3, .av (int (codeZ zc))), (4, .av (int (i : Nat))), (5, .av (int (k : Nat))), (6, .av (int id)), (7, .av (int (codeZ zk))), (8, .av (V.bool want))], fun _ => [(1, ask21C a)], fun want s => s = st' ∧ (want = true ↔ (mayP a.W ∧ kindP a.K[k]) ∧ clearP a.W id a.K[k] a.P[i])⟩ ?_ ?_
  · refine AWp.of_vc infoOK ?_
    refine bceq (fun c2 => ?_) (fun c2 => ?_)
    · have hzt : zk = true := by cases zk with
        | false => cases c2
        | true => rfl
      have hmk := hzk.1 hzt
      refine ADraw.of_sched infoOK (by rfl) (by rfl) sch5_18 (by rfl) ?_
      refine ⟨k, rfl, optK_intro _ (rws_get hkl) ?_⟩
      refine ⟨i, rfl, optK_intro _ (rws_get hlt) ?_⟩
      refine ⟨rplace_spec a.W hmk.1 hn id a.K[k] hmk.2 a.P[i] hpi _ _ (fun z hz => ⟨trivial, ?_⟩), trivial⟩
      refine ⟨⟨trivial, ?_⟩, trivial⟩
      exact ⟨z, ⟨rfl, by rw [hz]; exact ⟨fun hh => ⟨hmk, hh⟩, fun hh => hh.2⟩⟩, ⟨LV.le_refl _, LV.le_refl _, LV.le_refl _, LV.le_refl _, LV.le_refl _, LV.le_refl _, LV.le_refl _, trivial⟩, ⟨rfl, trivial⟩⟩
    · have hzf : zk = false := by cases zk with
        | false => rfl
        | true => exact absurd rfl c2
      refine ⟨false, ⟨rfl, ?_⟩, ⟨LV.le_refl _, LV.le_refl _, LV.le_refl _, LV.le_refl _, LV.le_refl _, LV.le_refl _, LV.le_refl _, trivial⟩, ⟨rfl, trivial⟩⟩
      simp only [Bool.false_eq_true, false_iff]
      exact fun hh => by have := hzk.2 hh.1; rw [hzf] at this; cases this
  rintro want st' ⟨rfl, hwant⟩
  have hap : ∀ R' : AV → Store → Prop, R' (.tup [V.bool want, int (codeZ zk)]) st' → ACalls Tryz.prog 21 [.agg (wldC a.W), int id, int a.K[k], .agg (vecC a.P[i])] st' R' := fun R' hR => by
    refine aplace_spec a.W hw hn id a.K[k] a.P[i] hpi st' R' (fun hno => ?_) (fun hm hkk zr hzr => ?_)
    · have hzf : zk = false := by
        cases zk with
        | false => rfl
        | true => exact absurd (hzk.1 rfl) hno
      have hwf : want = false := by
        cases want with
        | false => rfl
        | true => exact absurd (hwant.1 rfl).1 hno
      subst hzf hwf
      exact hR
    · have hzt : zk = true := hzk.2 ⟨hm, hkk⟩
      have hwt : zr = want := by rw [Bool.eq_iff_iff, hzr, hwant]; exact ⟨fun hh => ⟨⟨hm, hkk⟩, hh⟩, fun hh => hh.2⟩
      subst hzt hwt
      exact hR
  generalize codeZ zk = cz at hap
  refine AWp.of_vc infoOK ?_
  refine ADraw.of_sched infoOK (by rfl) (by rfl) sch5_19 (by rfl) ?_
  refine ⟨k, rfl, optK_intro _ (rws_get hkl) ?_⟩
  refine ⟨i, rfl, optK_intro _ (rws_get hlt) ?_⟩
  refine ⟨hap _ ⟨trivial, ?_⟩, trivial⟩
  refine ⟨⟨trivial, ?_⟩, trivial⟩
  refine ⟨⟨trivial, ?_⟩, trivial⟩
  refine num21_spec _ _ _ ?_
  refine bcne (fun c5 => absurd rfl c5) (fun _ => ?_)
  refine bcase_intro (fun c5 => absurd c5 (by simp)) (fun _ => ?_)
  refine AWp.of_vc infoOK ?_
  refine in64 (by omega) ?_
  refine ⟨k + 1, ?_, ⟨hkl, rfl⟩, ⟨LV.le_refl _, LV.le_refl _, LV.le_refl _, LV.le_refl _, trivial⟩, ⟨rfl, trivial⟩⟩
  show a.K.length - (k + 1) < a.K.length - k
  omega
end Go.Proofs
namespace Go.Proofs.YtlhjkalolohipaaGreat
open Go Go.V Go.ChangeShapes Go.WideShapes Go.ChangeAt Go.RowKit
set_option linter.unusedVariables false
set_option linter.unusedSimpArgs false

theorem own : ownKnob Tryz.prog.godebug = none := by kernel_rfl
theorem laid : laidOutB Tryz.prog = true := by kernel_rfl

theorem agg_cells {P : Program} {w : World} {r : Reach} {base : Nat} {t : TypeId} {fs : Array Field} {v : Value} (ht : P.underlying t = some (.struct fs)) (h : Value.okWide P w r base t v) : ∃ cs, v = .agg cs := by
  simp only [Value.okWide, ht] at h
  cases v <;> simp_all [Cell.okWide, Cell.ok]

set_option maxRecDepth 100000 in
theorem armyPlaces_lifted (os : Os) (started : os.Started) (H : Type) (enc : TypeId × Value → H) :
    ReturnsInHanded {} Tryz.checked os 5 .any (Rows.armyPlacesSpec.pre6 enc Tryz.prog Tryz.f5 Rows.armyPlacesRow.domain false) (Rows.armyPlacesSpec.post enc Tryz.prog Tryz.f5 false true false false) := by
  refine returnsInHanded_of_change_sized (C := Tryz.checked) own started (by kernel_rfl) Tryz.func5
    (ChangeSpec.witness6 (enc := enc) (C := Tryz.checked) false ⟨#[], #[.agg #[.int .i64 0, .int .i64 0, .int .i64 0, .int .i64 0, .int .i64 0, .slice none 0 0, .slice none 0 0, .slice none 0 0, .slice none 0 0, .slice none 0 0, .slice none 0 0]], []⟩ 8 (by kernel_rfl) (by kernel_rfl) (by kernel_rfl) (by kernel_rfl)) ?_
  intro W base args ds gs before hval0 hW hcnd hsz _
  have hval : ∀ (j : Nat) t v, Tryz.f5.params[j]? = some t → args[j]? = some v → Value.okWide Tryz.prog W .any base t v := hval0
  have hW' := hW
  obtain ⟨p, q, hA0, hV, rfl, hfz, hnd⟩ := hW
  have hA : DataW.TrodAll enc Tryz.prog W 0 (fun _ => true) true Tryz.f5.params.toList args.toList ds p := hA0
  rw [Tryz.params5] at hA hval
  obtain ⟨v, d, rfl, rfl, hd⟩ := trodAll_one hA
  obtain ⟨rfl, rfl⟩ := trodVars_none hV
  obtain ⟨fuel, hd0⟩ := hd
  have hw : ∀ n ∈ d.weights Tryz.prog 32, n ≤ reachBytes := fun n hn => by
    have h2 := List.all_eq_true.1 hsz n (DataW.weights_mem_each (j := 0) (t := 32) (d := d) (by rfl) (by rfl) n hn)
    simpa using h2
  obtain ⟨l, hl, hc⟩ := ask21_codec.out enc W 0 true fuel _ _ hd0 hw
  obtain ⟨cs, rfl⟩ := agg_cells Tryz.underlying32 (hval 0 _ v rfl rfl)
  have hv : VRel W T0 (.agg (ask21C l)) (.agg cs) := by
    refine VRel.agg _ _ ?_ fun i x y hx hy => (hc.2 i x y hx ?_).1
    · exact hc.1.trans (by simp [Value.cells])
    · simpa [Value.cells] using hy
  have hlt : ∀ x ∈ p, x.block < W.heap.size := fun x hx => hW'.lt x (by simpa using hx)
  clear hA0 hval0
  refine (calls_of_acalls Tryz.func5 rfl (by rfl) (R := fun r => r = V.bool true) (armyPlaces_law l hl.1 hl.2.2.2 _ (fun r _ => r = V.bool true) rfl) hv).mono fun e W' ⟨r, u, he, hr, ⟨T, hvr⟩, hb⟩ => ?_
  subst hr
  have hu : u = .bool true := VRel.eq_s hvr
  subst hu
  subst he
  refine ⟨_, rfl, post_of_old (pa := p) (pv := []) hW' (fun _ _ _ => trodAll_cons_mk (shut_bool Tryz.underlying4 _) trodAll_mk0) (fun sp hsp => ?_) (fun _ _ => rfl) rfl (Below.kept hb _) (Below.froz hb) (ok_one (by kernel_rfl) rfl (okWide_bool_mk Tryz.underlying4 _))⟩
  exact trodAll_mk1 (WideElems.Trod_stays laid (by kernel_rfl) (of_decide_eq_true (by kernel_rfl)) ⟨fuel, hd0⟩ (fun x hx => hb.same (hlt x hx)) (fun x hx => hsp x (by simpa using hx)))

theorem armyPlaces_proved : Rows.ArmyPlacesSaid :=
  OpenClaim.holds_of_wide 5 Tryz.f5 rfl rfl rfl rfl rfl rfl rfl ⟨rfl, rfl, rfl, rfl, rfl⟩ rfl rfl rfl rfl rfl (by kernel_rfl) Tryz.func5 (by kernel_rfl)
    (of_decide_eq_true (by kernel_rfl)) (by unfold Func.isWrapper; first | (rw [if_pos (by decide +kernel)]; kernel_rfl) | (rw [if_neg (by decide +kernel)]; exact ⟨rfl, rfl⟩))
    (fun os started H enc _ => armyPlaces_lifted os started H enc)
#print axioms armyPlaces_proved
end Go.Proofs.YtlhjkalolohipaaGreat
