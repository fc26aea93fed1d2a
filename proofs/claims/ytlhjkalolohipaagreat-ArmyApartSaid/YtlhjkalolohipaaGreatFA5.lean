/- The ground on which laws of thronglaw21 are proved: contracts of functions and plain lemmas; no condition beyond the row's own. -/
import Derived.Test.YtlhjkalolohipaaGreatRows
import Derived.Test.YtlhjkalolohipaaGreatVI
import Derived.Test.YtlhjkalolohipaaGreatSI
import Derived.Test.YtlhjkalolohipaaGreatSG
namespace Go.Proofs
open Go Go.V
set_option linter.unusedVariables false

theorem rat_spec (g : Gnd) (hg : gndP g) (p : Vc) (h0 : (0 ≤ p.1 ∧ p.1 < g.W * 65536) ∧ (0 ≤ p.2 ∧ p.2 < g.H * 65536)) (st : Store) (R : AV → Store → Prop) (h : R (int (tileAt g p : Nat)) st) : ACalls Tryz.prog 22 [.agg (gndC g), .agg (vecC p)] st R := by
  have hs := hg.1
  have hs2 := hg.2.1
  obtain ⟨e1, e2, _⟩ := tileAt_eq hg h0
  have ha := gnd_area hg
  refine ACalls.of_body (c := cfg 39) infoOK Tryz.func22 (by rfl) (by rfl) (by rfl) (by rfl) ?_
  refine bcd (fun c1 => absurd c1 (by omega)) (fun c1 => ?_)
  refine in64 (by omega) ?_
  refine bcd (fun c1 => absurd c1 (by omega)) (fun c1 => ?_)
  refine bcd (fun c1 => absurd c1 (by omega)) (fun c1 => ?_)
  refine in64 (by omega) ?_
  refine bcd (fun c1 => absurd c1 (by omega)) (fun c1 => ?_)
  have q1 : p.1.tdiv 65536 = p.1 / 65536 := Int.tdiv_eq_ediv_of_nonneg (by omega)
  have q2 : p.2.tdiv 65536 = p.2 / 65536 := Int.tdiv_eq_ediv_of_nonneg (by omega)
  have hx : 0 ≤ p.1 / 65536 ∧ p.1 / 65536 ≤ 128 := by omega
  have hy : 0 ≤ p.2 / 65536 ∧ p.2 / 65536 ≤ 128 := by omega
  have hm : 0 ≤ g.W * (p.2 / 65536) ∧ g.W * (p.2 / 65536) ≤ 128 * 128 := ⟨Int.mul_nonneg (by omega) hy.1, Int.mul_le_mul hs.2 hy.2 hy.1 (by decide)⟩
  refine ⟨by decide, ?_⟩
  refine in64 (by rw [q1]; omega) ?_
  refine ⟨by decide, ?_⟩
  refine in64 (by rw [q2]; omega) ?_
  refine in64 (by rw [q2]; omega) ?_
  refine in64 (by rw [q1, q2]; omega) ?_
  rw [q1, q2, ← e1]
  exact ret h

set_option maxHeartbeats 2000000 in
theorem armyApart_law (a : Ask21) (hn : ∀ u ∈ a.W.U, u.pos.ok) (st : Store) (R : AV → Store → Prop) (h : R (V.bool true) st) : ACalls Tryz.prog 6 [.agg (ask21C a)] st R := by
  refine ACalls.of_awp (c := cfg 161) infoOK Tryz.func6 (by rfl) (by rfl) (by rfl) (by rfl) ?_
  refine AWp.seq (AWp.of_vc infoOK ?_)
  refine AWp.seq (AWp.of_vc infoOK ?_)
  refine heavy_spec a _ _ (fun z hz => ?_)
  refine bcase_intro (fun c1 => ret h) (fun c1 => ?_)
  have hnh : ¬ heavyP a := fun hh => by have := hz.2 hh; rw [this] at c1; cases c1
  unfold heavyP greatP at hnh
  have hw : a.W.fits := ⟨by unfold Gnd.fits; omega, by omega, by omega⟩
  have hU : a.W.U.length ≤ 30 := by omega
  refine check_spec a.W hw hn _ _ (fun zc hzc => ?_)
  refine num21_spec _ _ _ ?_
  refine bcne (fun c2 => ret h) (fun c2 => ?_)
  have hm : mayP a.W := hzc.1 (by cases zc with
    | true => rfl
    | false => cases c2)
  have hg := hm.1.1.2.1.1
  refine AWp.seq ?_
  refine AWp.seq (AWp.of_vc infoOK ?_)
  refine AWp.block ?_
  refine AWp.loopA (σ := Nat) ⟨fun i => [(1, .bx 1 0), (3, .av (int (i : Nat)))], fun _ => [(1, ask21C a)], fun i st' => i ≤ a.W.U.length ∧ st' = st, fun i => a.W.U.length - i⟩ ?_ ?_
  · exact ⟨0, trivial, ⟨Nat.zero_le _, rfl⟩, ⟨LV.le_refl _, LV.le_refl _, trivial⟩, ⟨rfl, trivial⟩⟩
  rintro i st' ⟨hi, rfl⟩
  refine AWp.seq (AWp.of_vc infoOK ?_)
  refine bcase_intro (fun h1 => ?_) (fun h1 => ?_)
  rotate_left
  · refine AWp.of_vc infoOK ?_
    exact awakes_spec _ _ (ret h)
  have hlt : i < a.W.U.length := lt_len h1
  have hui := List.getElem_mem hlt
  refine AWp.seq (AWp.block (AWp.seq (AWp.of_vc infoOK ?_)))
  refine ⟨i, rfl, optK_intro _ (rws_get hlt) ?_⟩
  refine AWp.seq (AWp.of_vc infoOK ?_)
  refine bcne (fun c3 => ?_) (fun c3 => ?_)
  · refine AWp.of_vc infoOK ?_
    refine in64 (by omega) ?_
    refine ⟨i + 1, ?_, ⟨hlt, rfl⟩, ⟨LV.le_refl _, LV.le_refl _, trivial⟩, ⟨rfl, trivial⟩⟩
    show a.W.U.length - (i + 1) < a.W.U.length - i
    omega
  have hcl := hm.2.1 _ hui c3
  have hkd : kindP a.W.U[i].kind := (hm.1.2.2 _ hui).1.1.2.2
  have hfb := free_b hg hcl.1
  have hop := free_open hg hcl.1
  have hin : (0 ≤ a.W.U[i].pos.1 ∧ a.W.U[i].pos.1 < a.W.G.W * 65536) ∧ (0 ≤ a.W.U[i].pos.2 ∧ a.W.U[i].pos.2 < a.W.G.H * 65536) := by omega
  have htl := (tileAt_eq hg hin).2.1
  refine AWp.seq (AWp.of_vc infoOK ?_)
  refine aplace_spec a.W hw hn a.W.U[i].id a.W.U[i].kind a.W.U[i].pos (hn _ hui) _ _ (fun hno => absurd ⟨hm, hkd⟩ hno) (fun _ _ zp hzp => ?_)
  have hzt : zp = true := hzp.2 hcl
  subst hzt
  refine AWp.seq (AWp.of_vc infoOK ?_)
  refine num21_spec _ _ _ ?_
  refine AWp.seq (AWp.of_vc infoOK ?_)
  refine rat_spec a.W.G hg a.W.U[i].pos hin _ _ ?_
  refine AWp.seq (AWp.of_vc infoOK ?_)
  have htl5 : (a.W.G.T.getD (tileAt a.W.G a.W.U[i].pos) 0).toNat ≤ 5 := by
    rw [List.getD_eq_getElem?_getD, List.getElem?_eq_getElem htl, Option.getD_some]
    exact hg.2.2.2 _ (List.getElem_mem htl)
  have hgd : a.W.G.T.getD (tileAt a.W.G a.W.U[i].pos) 0 = a.W.G.T[tileAt a.W.G a.W.U[i].pos] := by rw [List.getD_eq_getElem?_getD, List.getElem?_eq_getElem htl, Option.getD_some]
  rw [hgd] at hop htl5
  refine ADraw.of_sched infoOK (by rfl) (by rfl) sch6_12 (by rfl) ?_
  refine ⟨_, rfl, optK_intro _ (rws_get htl) ?_⟩
  refine ⟨rkind_spec _ hkd _ _ ⟨?_, ?_⟩, trivial⟩
  · repeat (first | exact trivial | refine ⟨rfl, ?_⟩ | refine ⟨⟨_, rfl, optK_intro _ (rws_get htl) rfl⟩, ?_⟩)
  refine ⟨cost_spec _ (kCls_b _) _ htl5 _ _ ⟨trivial, ?_⟩, trivial⟩
  refine bceq (fun c5 => absurd c5 (by omega)) (fun c5 => ?_)
  refine AWp.seq (AWp.of_vc infoOK ?_)
  refine AWp.block ?_
  refine AWp.loopA (σ := Nat) ⟨fun k => [(1, .bx 1 0), (3, .av (int (i : Nat))), (4, .bx 4 0), (8, .av (int (k : Nat)))], fun _ => [(1, ask21C a), (4, untC a.W.U[i])], fun k s => k ≤ i ∧ s = st', fun k => i - k⟩ ?_ ?_
  · exact ⟨0, trivial, ⟨Nat.zero_le _, rfl⟩, ⟨LV.le_refl _, LV.le_refl _, LV.le_refl _, LV.le_refl _, trivial⟩, ⟨rfl, rfl, trivial⟩⟩
  rintro k st' ⟨hk, rfl⟩
  refine AWp.seq (AWp.of_vc infoOK ?_)
  refine bcd (fun h2 => ?_) (fun h2 => ?_)
  rotate_left
  · refine AWp.of_vc infoOK ?_
    refine in64 (by omega) ?_
    refine ⟨i + 1, ?_, ⟨hlt, rfl⟩, ⟨LV.le_refl _, LV.le_refl _, trivial⟩, ⟨rfl, trivial⟩⟩
    show a.W.U.length - (i + 1) < a.W.U.length - i
    omega
  have hki : k < i := by omega
  have hkl : k < a.W.U.length := by omega
  have huk := List.getElem_mem hkl
  refine AWp.seq (AWp.block (AWp.seq (AWp.of_vc infoOK ?_)))
  refine ⟨k, rfl, optK_intro _ (rws_get hkl) ?_⟩
  refine AWp.seq (AWp.of_vc infoOK ?_)
  refine bcne (fun c6 => ?_) (fun c6 => ?_)
  · refine AWp.of_vc infoOK ?_
    refine in64 (by omega) ?_
    refine ⟨k + 1, ?_, ⟨hki, rfl⟩, ⟨LV.le_refl _, LV.le_refl _, LV.le_refl _, LV.le_refl _, trivial⟩, ⟨rfl, rfl, trivial⟩⟩
    show i - (k + 1) < i - k
    omega
  have hkd2 : kindP a.W.U[k].kind := (hm.1.2.2 _ huk).1.1.2.2
  obtain ⟨hv1, hv2, hv3, hv4⟩ := apart_far hm hlt hki c3 c6
  obtain ⟨hno1, hno2⟩ := not_onto hm hlt hki c3 c6
  have r1 := rad_b a.W.U[i].kind
  have r2 := rad_b a.W.U[k].kind
  refine AWp.seq (AWp.of_vc infoOK ?_)
  refine rvsub_spec a.W.U[i].pos a.W.U[k].pos (hn _ hui) (hn _ huk) _ _ ?_
  rw [hv1]
  refine AWp.seq (AWp.of_vc infoOK ?_)
  refine ADraw.of_sched infoOK (by rfl) (by rfl) sch6_20 (by rfl) ?_
  refine ⟨rkind_spec _ hkd _ _ ⟨(by repeat (first | exact trivial | refine ⟨rfl, ?_⟩ | refine ⟨optR (optR (optR (optK_intro _ (setObj_self _ _ _) rfl))), ?_⟩)), ?_⟩, trivial⟩
  refine ⟨rkind_spec _ hkd2 _ _ ⟨trivial, ?_⟩, trivial⟩
  refine in64 (by omega) ?_
  refine ⟨⟨trivial, ?_⟩, trivial⟩
  refine AWp.seq (AWp.of_vc infoOK ?_)
  have s1 := sq_b hv2
  have s2 := sq_b hv3
  have s3 := sq_b (x := kRad a.W.U[i].kind + kRad a.W.U[k].kind) (by omega)
  refine in64 (by first | omega | (dsimp only; omega)) ?_
  refine in64 (by first | omega | (dsimp only; omega)) ?_
  refine in64 (by first | omega | (dsimp only; omega)) ?_
  refine in64 (by first | omega | (dsimp only; omega)) ?_
  refine bcd (fun c7 => absurd c7 hv4) (fun c7 => ?_)
  clear s1 s2 s3 hv4
  refine AWp.seq (AWp.of_vc infoOK ?_)
  refine copyWorldR_spec a.W hw (by omega) _ _ (fun v N hv hd => ?_)
  obtain ⟨b, cap, L, rfl, ho, g1, g2, g3⟩ := hv.at hlt
  have hob : (N.un st').obj b = some (.cells ((rws untC a.W.U).flatten ++ L)) := un_l hd ho
  have hlen : ((rws untC a.W.U).flatten ++ L).length = a.W.U.length * 10 + L.length := by rw [List.length_append, rws_flat_len untC_len]
  have hhas : ∀ x, ((N.un st').setObj b x).Has st' := fun x => by
    refine ⟨fun b2 y hy => ?_, fun b2 y hy => un_rt hy⟩
    have : b2 ≠ b := fun e => by
      subst e
      exact hd b2 (has_obj ho) (has_obj hy)
    rw [setObj_ne this]
    exact un_r hy
  have hset := rowsO_set (g := N.un st') (b := b) (L := L) g1 g2 g3 hlt (j := 3) (ys := vecC a.W.U[k].pos) (by show 3 + 2 ≤ 10; decide) (u' := { a.W.U[i] with pos := a.W.U[k].pos }) rfl
  generalize N.un st' = g at *
  refine AWp.seq (AWp.of_vc infoOK ?_)
  refine ⟨i, rfl, hlt, ?_⟩
  refine storeK_objL (i := ti43) (v := .agg (vecC a.W.U[k].pos)) (xs := vecC a.W.U[k].pos) (b := b) (o := 0 + i * 10 + 3) (l := (rws untC a.W.U).flatten ++ L) rfl rfl rfl hob (by rw [hlen]; show 0 + i * 10 + 3 + 2 ≤ _; omega) ?_
  have hh := hhas (.cells (splice ((rws untC a.W.U).flatten ++ L) (0 + i * 10 + 3) (vecC a.W.U[k].pos)))
  generalize g.setObj b _ = g' at *
  refine AWp.seq (AWp.of_vc infoOK ?_)
  refine aplace_spec a.W hw hn a.W.U[i].id a.W.U[i].kind a.W.U[k].pos (hn _ huk) _ _ (fun hno => absurd ⟨hm, hkd⟩ hno) (fun _ _ zp hzp => ?_)
  have hzf : zp = false := by
    cases zp with
    | false => rfl
    | true => exact absurd (hzp.1 rfl) hno1
  subst hzf
  refine AWp.of_vc infoOK ?_
  refine checkR_spec (w := setUs a.W (a.W.U.set i { a.W.U[i] with pos := a.W.U[k].pos })) hset (setUs_fits hw (by rw [List.length_set])) (fun u hu => ?_) _ (fun zz hzz => ?_)
  · rcases List.mem_or_eq_of_mem_set hu with hu | rfl
    · exact hn u hu
    · exact hn a.W.U[k] huk
  have hzf : zz = false := by
    cases zz with
    | false => rfl
    | true => exact absurd (hzz.1 rfl) hno2
  refine num21_spec _ _ _ ?_
  refine bcne (fun c8 => absurd (by rw [hzf]; rfl) c8) (fun _ => ?_)
  refine num21_spec _ _ _ ?_
  refine AWp.leS hh.toLe ?_
  refine AWp.of_vc infoOK ?_
  refine in64 (by omega) ?_
  refine ⟨k + 1, ?_, ⟨hki, rfl⟩, ⟨LV.le_refl _, LV.le_refl _, LV.le_refl _, LV.le_refl _, trivial⟩, ⟨rfl, rfl, trivial⟩⟩
  show i - (k + 1) < i - k
  omega
end Go.Proofs
namespace Go.Proofs.YtlhjkalolohipaaGreat
open Go Go.V Go.ChangeShapes Go.WideShapes Go.ChangeAt Go.RowKit
set_option linter.unusedVariables false
set_option linter.unusedSimpArgs false

theorem own : ownKnob Tryz.prog.godebug = none := by kernel_rfl
theorem laid : laidOutB Tryz.prog = true := by kernel_rfl

theorem agg_cells {P : Program} {w : World} {r : Reach} {base : Nat} {t : TypeId} {fs : Array Field} {v : Value} (ht : P.underlying t = some (.struct fs)) (h : Value.okWide P w r base t v) : ∃ cs, v = .agg cs := by
  simp only [Value.okWide, ht] at h
  cases v <;> simp_all [Cell.okWide, Cell.ok]

set_option maxRecDepth 100000 in
theorem armyApart_lifted (os : Os) (started : os.Started) (H : Type) (enc : TypeId × Value → H) :
    ReturnsInHanded {} Tryz.checked os 6 .any (Rows.armyApartSpec.pre6 enc Tryz.prog Tryz.f6 Rows.armyApartRow.domain false) (Rows.armyApartSpec.post enc Tryz.prog Tryz.f6 false true false false) := by
  refine returnsInHanded_of_change_sized (C := Tryz.checked) own started (by kernel_rfl) Tryz.func6
    (ChangeSpec.witness6 (enc := enc) (C := Tryz.checked) false ⟨#[], #[.agg #[.int .i64 0, .int .i64 0, .int .i64 0, .int .i64 0, .int .i64 0, .slice none 0 0, .slice none 0 0, .slice none 0 0, .slice none 0 0, .slice none 0 0, .slice none 0 0]], []⟩ 8 (by kernel_rfl) (by kernel_rfl) (by kernel_rfl) (by kernel_rfl)) ?_
  intro W base args ds gs before hval0 hW hcnd hsz _
  have hval : ∀ (j : Nat) t v, Tryz.f6.params[j]? = some t → args[j]? = some v → Value.okWide Tryz.prog W .any base t v := hval0
  have hW' := hW
  obtain ⟨p, q, hA0, hV, rfl, hfz, hnd⟩ := hW
  have hA : DataW.TrodAll enc Tryz.prog W 0 (fun _ => true) true Tryz.f6.params.toList args.toList ds p := hA0
  rw [Tryz.params6] at hA hval
  obtain ⟨v, d, rfl, rfl, hd⟩ := trodAll_one hA
  obtain ⟨rfl, rfl⟩ := trodVars_none hV
  obtain ⟨fuel, hd0⟩ := hd
  have hw : ∀ n ∈ d.weights Tryz.prog 32, n ≤ reachBytes := fun n hn => by
    have h2 := List.all_eq_true.1 hsz n (DataW.weights_mem_each (j := 0) (t := 32) (d := d) (by rfl) (by rfl) n hn)
    simpa using h2
  obtain ⟨l, hl, hc⟩ := ask21_codec.out enc W 0 true fuel _ _ hd0 hw
  obtain ⟨cs, rfl⟩ := agg_cells Tryz.underlying32 (hval 0 _ v rfl rfl)
  have hv : VRel W T0 (.agg (ask21C l)) (.agg cs) := by
    refine VRel.agg _ _ ?_ fun i x y hx hy => (hc.2 i x y hx ?_).1
    · exact hc.1.trans (by simp [Value.cells])
    · simpa [Value.cells] using hy
  have hlt : ∀ x ∈ p, x.block < W.heap.size := fun x hx => hW'.lt x (by simpa using hx)
  clear hA0 hval0
  refine (calls_of_acalls Tryz.func6 rfl (by rfl) (R := fun r => r = V.bool true) (armyApart_law l hl.1 _ (fun r _ => r = V.bool true) rfl) hv).mono fun e W' ⟨r, u, he, hr, ⟨T, hvr⟩, hb⟩ => ?_
  subst hr
  have hu : u = .bool true := VRel.eq_s hvr
  subst hu
  subst he
  refine ⟨_, rfl, post_of_old (pa := p) (pv := []) hW' (fun _ _ _ => trodAll_cons_mk (shut_bool Tryz.underlying4 _) trodAll_mk0) (fun sp hsp => ?_) (fun _ _ => rfl) rfl (Below.kept hb _) (Below.froz hb) (ok_one (by kernel_rfl) rfl (okWide_bool_mk Tryz.underlying4 _))⟩
  exact trodAll_mk1 (WideElems.Trod_stays laid (by kernel_rfl) (of_decide_eq_true (by kernel_rfl)) ⟨fuel, hd0⟩ (fun x hx => hb.same (hlt x hx)) (fun x hx => hsp x (by simpa using hx)))

theorem armyApart_proved : Rows.ArmyApartSaid :=
  OpenClaim.holds_of_wide 6 Tryz.f6 rfl rfl rfl rfl rfl rfl rfl ⟨rfl, rfl, rfl, rfl, rfl⟩ rfl rfl rfl rfl rfl (by kernel_rfl) Tryz.func6 (by kernel_rfl)
    (of_decide_eq_true (by kernel_rfl)) (by unfold Func.isWrapper; first | (rw [if_pos (by decide +kernel)]; kernel_rfl) | (rw [if_neg (by decide +kernel)]; exact ⟨rfl, rfl⟩))
    (fun os started H enc _ => armyApart_lifted os started H enc)
#print axioms armyApart_proved
end Go.Proofs.YtlhjkalolohipaaGreat
