/- The ground on which laws of thronglaw26 are proved: contracts of functions and plain lemmas; no condition beyond the row's own. -/
import Derived.Test.YtimehecofabmjaaGreatRows
import Derived.Test.YtimehecofabmjaaGreatSI
import Derived.Test.YtimehecofabmjaaGreatSJ
set_option linter.unusedSimpArgs false
set_option linter.unusedVariables false
namespace Go.Proofs
open Go Go.V
set_option linter.unusedVariables false

theorem disj_emptyL (st : Store) : Disj Store.empty st := fun b hb => (hb.elim (fun h => h rfl) (fun h => h rfl) : False).elim

theorem copyBytesT_spec_key (l : List UInt8) (hl : l.length ≤ 1000000) (R : AV → Store → Prop) (h : ∀ v N, RowsO 1 u8C N v l → (∀ i, N.tok i = none) → R v N) : ACalls Tryz.prog 10 [lst 1 u8C l] Store.empty R := by
  refine ACalls.of_body (c := cfg 19) infoOK Tryz.func10 (by rfl) (by rfl) (by rfl) (by rfl) ?_
  refine AWp.loop (σ := Nat × AV × Store) ⟨fun s => [(0, .av (lst 1 u8C l)), (3, .av s.2.1), (4, .av (int s.1))], fun _ => [], fun s st' => s.1 ≤ l.length ∧ st' = s.2.2 ∧ RowsO 1 u8C s.2.2 s.2.1 (l.take s.1) ∧ ∀ i, s.2.2.tok i = none, fun s => l.length - s.1⟩ infoOK ?_ ?_
  · exact ⟨(0, _, Store.empty), trivial, ⟨Nat.zero_le _, rfl, .inl ⟨rfl, rfl⟩, fun _ => rfl⟩, ⟨LV.le_refl _, LV.le_refl _, LV.le_refl _, trivial⟩, trivial⟩
  · rintro ⟨i, v, N⟩ st' ⟨hi, rfl, ha, hnt⟩
    dsimp only at hi ha hnt ⊢
    refine bcase_intro (fun h1 => ?_) (fun h1 => ?_)
    · have hlt : i < l.length := lt_len h1
      refine ⟨i, rfl, optK_intro _ (rws_get hlt) ?_⟩
      refine ⟨by decide, ?_⟩
      refine appRows (ie := ti5) rfl (fun _ => rfl) (by decide) ha l[i] rfl (by rw [List.length_take]; omega) (fun b cap L q1 q2 q3 q4 => ?_)
      refine ⟨⟨by omega, by omega⟩, ?_⟩
      refine ⟨(i + 1, _, _), ?_, ⟨hlt, rfl, ?_, hnt⟩, ⟨LV.le_refl _, LV.le_refl _, LV.le_refl _, trivial⟩, trivial⟩
      · show l.length - (i + 1) < l.length - i
        omega
      · dsimp only
        rw [List.take_succ_eq_append_getElem hlt]
        exact .inr ⟨b, cap, L, rfl, setObj_self _ _ _, q2, q3, q4⟩
    · have hge : i = l.length := ge_len h1 hi
      subst hge
      rw [List.take_length] at ha
      exact ret (h _ _ ha hnt)

theorem copyBytesT_spec (l : List UInt8) (hl : l.length ≤ 1000000) (st : Store) (R : AV → Store → Prop) (h : ∀ v N, RowsO 1 u8C N v l → (∀ i, N.tok i = none) → Disj N st → R v (N.un st)) : ACalls Tryz.prog 10 [lst 1 u8C l] st R := by
  rw [← empty_un st]
  exact ACalls.frame (disj_emptyL st) (copyBytesT_spec_key l hl (fun v N => RowsO 1 u8C N v l ∧ ∀ i, N.tok i = none) fun v N hv ht => ⟨hv, ht⟩) fun v N hv hd => h v N hv.1 hv.2 hd


theorem u8C_len (c : UInt8) : (u8C c).length = 1 := rfl
theorem del_has {N st : Store} {b : Nat} {y : AObj} (hd : Disj N st) (ho : N.obj b = some y) (x : AObj) : (((N.un st).setObj b x).delObj b).Has st := by
  refine ⟨fun i z hz => ?_, fun i z hz => un_rt hz⟩
  have hi : i ≠ b := fun e => by subst e; exact hd i (has_obj ho) (has_obj hz)
  show (bif Nat.beq i b then none else ((N.un st).setObj b x).obj i) = _
  rw [nbeq hi]
  show ((N.un st).setObj b x).obj i = _
  rw [setObj_ne hi]
  exact un_r hz

set_option maxHeartbeats 2000000 in
set_option maxRecDepth 20000 in
theorem imageTurned_law (l : List Ask26) (hl : l.length ≤ 140737488355328) (hn : ∀ a ∈ l, ∀ u ∈ a.W.U, u.pos.ok) (st : Store) (R : AV → Store → Prop) (h : R (V.bool true) st) : ACalls Tryz.prog 6 [lst 9 ask26C l] st R := by
  refine ACalls.of_awp (c := cfg 102) infoOK Tryz.func6 (by rfl) (by rfl) (by rfl) (by rfl) ?_
  refine AWp.seq (AWp.of_vc infoOK ?_)
  refine AWp.seq ?_
  refine AWp.seq (AWp.of_vc infoOK ?_)
  refine AWp.block ?_
  refine AWp.loopA (σ := Nat) ⟨fun i => [(0, .av (lst 9 ask26C l)), (3, .av (int (i : Nat)))], fun _ => [], fun i st' => i ≤ l.length ∧ st' = st, fun i => l.length - i⟩ ?_ ?_
  · exact ⟨0, trivial, ⟨Nat.zero_le _, rfl⟩, ⟨LV.le_refl _, LV.le_refl _, trivial⟩, trivial⟩
  rintro i st' ⟨hi, rfl⟩
  refine AWp.seq (AWp.of_vc infoOK ?_)
  refine bcase_intro (fun h1 => ?_) (fun h1 => AWp.of_vc infoOK (wakes26_spec _ _ (ret h)))
  have hlt : i < l.length := lt_len h1
  refine bcd (fun h2 => ?_) (fun h2 => AWp.of_vc infoOK (wakes26_spec _ _ (ret h)))
  refine AWp.seq (AWp.block (AWp.seq (AWp.of_vc infoOK ?_)))
  refine ⟨i, rfl, optK_intro _ (rws_get hlt) ?_⟩
  refine heavy26_spec l[i] _ _ (fun z hz => ?_)
  refine bcase_intro (fun c1 => ret h) (fun c1 => ?_)
  obtain ⟨hw, hx, hU, _⟩ := heavy26_fits (a := l[i]) fun hh => by rw [hz.2 hh] at c1; cases c1
  have hni := hn _ (List.getElem_mem hlt)
  have next : ∀ A : Fr, A.t 0 = .av (lst 9 ask26C l) → A.t 3 = .av (int (((i : Int) + 1))) → ∃ s : Nat, l.length - s < l.length - i ∧ (s ≤ l.length ∧ st' = st') ∧ fitsT A [(0, .av (lst 9 ask26C l)), (3, .av (int (s : Nat)))] ∧ fitsB A [] := by
    intro A h0 h3
    exact ⟨i + 1, by omega, ⟨hlt, rfl⟩, ⟨by rw [h0]; exact LV.le_refl _, by rw [h3]; exact LV.le_refl _, trivial⟩, trivial⟩
  refine AWp.seq (AWp.of_vc infoOK ?_)
  refine ⟨i, rfl, optK_intro _ (rws_get hlt) ?_⟩
  by_cases hm : mayP l[i].W
  rotate_left
  · refine ibytes_spec l[i].W hw hni _ _ (fun _ => ?_) (fun hh => absurd hh hm)
    refine AWp.of_vc infoOK ?_
    refine num26_spec _ _ _ ?_
    refine AWp.of_vc infoOK ?_
    refine in64 (by omega) ?_
    exact next _ rfl rfl
  have hwn := may_nums hm
  have hll := imgL_len hwn
  refine ibytes_spec l[i].W hw hni _ _ (fun hh => absurd hm hh) (fun _ => ?_)
  refine AWp.seq (AWp.of_vc infoOK ?_)
  refine num26_spec _ _ _ ?_
  generalize hbb : imgL l[i].W = bb at *
  refine AWp.seq (AWp.of_vc infoOK ?_)
  refine AWp.block ?_
  refine AWp.loopA (σ := Nat) ⟨fun k => [(0, .av (lst 9 ask26C l)), (3, .av (int (i : Nat))), (4, .av (byts bb)), (6, .av (int (k : Nat)))], fun _ => [], fun k s => s = st' ∧ k ≤ 2000000, fun k => bb.length - k⟩ ?_ ?_
  · exact ⟨0, trivial, ⟨rfl, by decide⟩, ⟨LV.le_refl _, LV.le_refl _, LV.le_refl _, LV.le_refl _, trivial⟩, trivial⟩
  rintro k st' ⟨rfl, hk2⟩
  refine AWp.seq (AWp.of_vc infoOK ?_)
  refine bcase_intro (fun h3 => ?_) (fun h3 => ?_)
  rotate_left
  · refine AWp.of_vc infoOK ?_
    refine in64 (by omega) ?_
    exact next _ rfl rfl
  have hk : k < bb.length := lt_len h3
  have hq : ((rws u8C bb).length : Int).tdiv 40 = ((rws u8C bb).length / 40 : Nat) := rfl
  have hql : (rws u8C bb).length = bb.length := rws_len bb
  have stepk : ∀ A : Fr, A.t 0 = .av (lst 9 ask26C l) → A.t 3 = .av (int (i : Nat)) → A.t 4 = .av (byts bb) → A.t 6 = .av (int ((k : Int) + 1 + ((rws u8C bb).length : Int).tdiv 40)) →
      ∃ s : Nat, bb.length - s < bb.length - k ∧ (st' = st' ∧ s ≤ 2000000) ∧ fitsT A [(0, .av (lst 9 ask26C l)), (3, .av (int (i : Nat))), (4, .av (byts bb)), (6, .av (int (s : Nat)))] ∧ fitsB A [] := by
    intro A h0 h3 h4 h6
    refine ⟨k + 1 + (rws u8C bb).length / 40, by omega, ⟨rfl, by omega⟩, ⟨by rw [h0]; exact LV.le_refl _, by rw [h3]; exact LV.le_refl _, by rw [h4]; exact LV.le_refl _, by rw [h6]; exact LV.le_refl _, trivial⟩, trivial⟩
  refine AWp.seq (AWp.block (AWp.seq (AWp.of_vc infoOK ?_)))
  refine copyBytesT_spec bb (by omega) _ _ (fun v N hv hnt hd => ?_)
  obtain ⟨b, cap, L, rfl, ho, g1, g2, g3⟩ := hv.at hk
  have hob : (N.un st').obj b = some (.cells ((rws u8C bb).flatten ++ L)) := un_l hd ho
  have hlen : ((rws u8C bb).flatten ++ L).length = bb.length * 1 + L.length := by rw [List.length_append, rws_flat_len u8C_len]
  refine AWp.seq (AWp.of_vc infoOK ?_)
  refine ⟨k, rfl, hk, ?_⟩
  have hhead : (((rws u8C bb).flatten ++ L).drop (0 + k * 1)).head? = some (.s (.int .u8 bb[k].toNat)) := by
    have hg := flatten_get (k := 1) (rows := rws u8C bb) (fun row hr => by obtain ⟨c, _, rfl⟩ := List.mem_map.1 hr; rfl) (j := 0) (rws_get hk) (x := .s (.int .u8 bb[k].toNat)) rfl
    have hlt2 := (List.getElem?_eq_some_iff.1 hg).1
    rw [List.head?_drop, show 0 + k * 1 = k * 1 + 0 by omega, List.getElem?_append_left hlt2]
    exact hg
  refine optK_intro _ hob (optK_intro _ hhead ?_)
  refine in64 (by omega) ?_
  refine ⟨by decide, ?_⟩
  have hrem : 0 ≤ ((i : Int) + (k : Int)).tmod 255 ∧ ((i : Int) + (k : Int)).tmod 255 < 255 := ⟨Int.tmod_nonneg _ (by omega), Int.tmod_lt_of_pos _ (by omega)⟩
  refine in64 (by omega) ?_
  refine ⟨k, rfl, hk, ?_⟩
  obtain ⟨x, hx⟩ : ∃ x : UInt8, bitsOf .xor .u8 ((bb[k].toNat : Nat) : Int) (IntKind.u8.wrap (1 + ((i : Int) + (k : Int)).tmod 255)) = (x.toNat : Int) := by
    generalize ((i : Int) + (k : Int)).tmod 255 = t at hrem
    refine ⟨bb[k] ^^^ UInt8.ofNat (1 + t).toNat, ?_⟩
    have hw : IntKind.u8.wrap (1 + t) = ((UInt8.ofNat (1 + t).toNat).toNat : Int) := by
      have : IntKind.u8.wrap (1 + t) = (1 + t) % 256 := by simp [IntKind.wrap, IntKind.bits, IntKind.signed]
      rw [this, UInt8.toNat_ofNat']
      omega
    rw [hw]
    exact bitsOf_u8 .xor _ _
  rw [hx]
  refine storeK_obj (i := ti5) (v := u8 x) (b := b) (o := 0 + k * 1) (l := (rws u8C bb).flatten ++ L) rfl rfl rfl hob (by rw [hlen]; omega) ?_
  have hsp : splice ((rws u8C bb).flatten ++ L) (0 + k * 1) [u8 x] = (rws u8C (bb.set k x)).flatten ++ L := by
    have := splice_rows (f := u8C) (k := 1) (L := L) u8C_len hk (j := 0) (ys := [u8 x]) (x' := x) (by simp) rfl
    rw [Nat.add_zero] at this
    rw [Nat.zero_add]
    exact this
  refine AWp.freeze (d := 7) (b := b) (k := 1) (n := bb.length) (cap := cap) (rows := rws u8C (bb.set k x)) (pad := L) rfl ?_ ?_ ?_ g1 ?_ ?_ ?_
  · rw [← hsp]
    exact setObj_self _ _ _
  · show (N.un st').tok b = none
    have h5 : st'.tok b = none := by
      cases hb : st'.tok b with
      | none => rfl
      | some y => exact absurd (has_tok' hb) (hd b (has_obj ho))
    unfold Store.un
    dsimp only
    rw [h5]
    exact hnt b
  · rw [rws_len, List.length_set]
  · intro row hr
    obtain ⟨c, _, rfl⟩ := List.mem_map.1 hr
    rfl
  · intro row hr y hy
    obtain ⟨c, _, rfl⟩ := List.mem_map.1 hr
    simp [u8C] at hy
    exact ⟨_, hy, rfl⟩
  refine AWp.leS (del_has hd ho _).toLe ?_
  have hsl : (bb.set k x).length = bb.length := List.length_set
  generalize bb.set k x = bx at hsl
  refine AWp.seq (AWp.of_vc infoOK ?_)
  refine iparse_spec bx (by omega) _ _ (fun he => ?_) (fun he hm2 => ?_) (fun he hm2 => ?_)
  · have hok : imgE bx = 1 ∨ imgE bx = 11 := (img_err bx).resolve_left he
    generalize imgE bx = e at he hok
    refine AWp.of_vc infoOK ?_
    refine num26_spec _ _ _ ?_
    refine bcne (fun _ => ?_) (fun hh => absurd hh he)
    refine ACalls.le (ys := [.agg (wldC w00), .agg (wldC w00)]) ⟨AV.le_refl _, zero_leL, trivial⟩ ?_
    refine eqWorld_spec w00 w00 w00_fits _ _ ?_
    rw [decide_eq_true rfl]
    refine num26_spec _ _ _ ?_
    refine bcne (fun n1 => ?_) (fun _ => ?_)
    · refine num26_spec _ _ _ ?_
      refine bcne (fun n2 => absurd hok (by omega)) (fun _ => ?_)
      refine AWp.of_vc infoOK ?_
      refine in64 (by omega) ?_
      refine ⟨by decide, ?_⟩
      refine in64 (by rw [hq]; omega) ?_
      refine in64 (by rw [hq]; omega) ?_
      exact stepk _ rfl rfl rfl rfl
    · refine AWp.of_vc infoOK ?_
      refine in64 (by omega) ?_
      refine ⟨by decide, ?_⟩
      refine in64 (by rw [hq]; omega) ?_
      refine in64 (by rw [hq]; omega) ?_
      exact stepk _ rfl rfl rfl rfl
  · refine AWp.of_vc infoOK ?_
    refine num26_spec _ _ _ ?_
    refine ACalls.le (ys := [.agg (wldC w00), .agg (wldC w00)]) ⟨AV.le_refl _, zero_leL, trivial⟩ ?_
    refine eqWorld_spec w00 w00 w00_fits _ _ ?_
    rw [decide_eq_true rfl]
    refine num26_spec _ _ _ ?_
    refine AWp.of_vc infoOK ?_
    refine in64 (by omega) ?_
    refine ⟨by decide, ?_⟩
    refine in64 (by rw [hq]; omega) ?_
    refine in64 (by rw [hq]; omega) ?_
    exact stepk _ rfl rfl rfl rfl
  · have hput := img_put he
    refine AWp.of_vc infoOK ?_
    refine num26_spec _ _ _ ?_
    refine ibytes_spec (imgW bx) (img_fits he) (img_pos _) _ _ (fun hh => absurd hm2 hh) (fun _ => ?_)
    refine num26_spec _ _ _ ?_
    refine eqBytes_spec bx (imgL (imgW bx)) (by omega) _ _ ?_
    rw [decide_eq_true hput]
    refine AWp.of_vc infoOK ?_
    refine in64 (by omega) ?_
    refine ⟨by decide, ?_⟩
    refine in64 (by rw [hq]; omega) ?_
    refine in64 (by rw [hq]; omega) ?_
    exact stepk _ rfl rfl rfl rfl
end Go.Proofs
namespace Go.Proofs.YtimehecofabmjaaGreat
open Go Go.V Go.ChangeShapes Go.WideShapes Go.ChangeAt Go.RowKit
set_option linter.unusedVariables false
set_option linter.unusedSimpArgs false

theorem own : ownKnob Tryz.prog.godebug = none := by kernel_rfl
theorem laid : laidOutB Tryz.prog = true := by kernel_rfl

theorem slice_cells {P : Program} {w : World} {r : Reach} {base : Nat} {t e : TypeId} {v : Value} (ht : P.underlying t = some (.slice e)) (h : Value.okWide P w r base t v) : v.cells.toList = [v] := by
  simp only [Value.okWide, ht] at h
  cases v <;> simp_all [Cell.okWide, Cell.ok, Value.cells]

set_option maxRecDepth 100000 in
theorem imageTurned_lifted (os : Os) (started : os.Started) (H : Type) (enc : TypeId × Value → H) :
    ReturnsInHanded {} Tryz.checked os 6 .any (Rows.imageTurnedSpec.pre6 enc Tryz.prog Tryz.f6 Rows.imageTurnedRow.domain false) (Rows.imageTurnedSpec.post enc Tryz.prog Tryz.f6 false true false false) := by
  refine returnsInHanded_of_change_sized (C := Tryz.checked) own started (by kernel_rfl) Tryz.func6
    (ChangeSpec.witness6 (enc := enc) (C := Tryz.checked) false ⟨#[], #[.slice none 0 0], []⟩ 8 (by kernel_rfl) (by kernel_rfl) (by kernel_rfl) (by kernel_rfl)) ?_
  intro W base args ds gs before hval0 hW hcnd hsz _
  have hval : ∀ (j : Nat) t v, Tryz.f6.params[j]? = some t → args[j]? = some v → Value.okWide Tryz.prog W .any base t v := hval0
  have hW' := hW
  obtain ⟨p, q, hA0, hV, rfl, hfz, hnd⟩ := hW
  have hA : DataW.TrodAll enc Tryz.prog W 0 (fun _ => true) true Tryz.f6.params.toList args.toList ds p := hA0
  rw [Tryz.params6] at hA hval
  obtain ⟨v, d, rfl, rfl, hd⟩ := trodAll_one hA
  obtain ⟨rfl, rfl⟩ := trodVars_none hV
  obtain ⟨fuel, hd0⟩ := hd
  have hw : ∀ n ∈ d.weights Tryz.prog 22, n ≤ reachBytes := fun n hn => by
    have h2 := List.all_eq_true.1 hsz n (DataW.weights_mem_each (j := 0) (t := 22) (d := d) (by rfl) (by rfl) n hn)
    simpa using h2
  obtain ⟨l, hl, hc⟩ := asks26_codec.out enc W 0 true fuel _ _ hd0 hw
  have hv1 : v.cells.toList = [v] := slice_cells Tryz.underlying22 (hval 0 _ v rfl rfl)
  rw [hv1] at hc
  have hv : VRel W T0 (lst 9 ask26C l) v := (hc.2 0 _ v rfl rfl).1
  have hlt : ∀ x ∈ p, x.block < W.heap.size := fun x hx => hW'.lt x (by simpa using hx)
  clear hA0 hval0
  refine (calls_of_acalls Tryz.func6 rfl (by rfl) (R := fun r => r = V.bool true) (imageTurned_law l hl.1 hl.2 _ (fun r _ => r = V.bool true) rfl) hv).mono fun e W' ⟨r, u, he, hr, ⟨T, hvr⟩, hb⟩ => ?_
  subst hr
  have hu : u = .bool true := VRel.eq_s hvr
  subst hu
  subst he
  refine ⟨_, rfl, post_of_old (pa := p) (pv := []) hW' (fun _ _ _ => trodAll_cons_mk (shut_bool Tryz.underlying4 _) trodAll_mk0) (fun sp hsp => ?_) (fun _ _ => rfl) rfl (Below.kept hb _) (Below.froz hb) (ok_one (by kernel_rfl) rfl (okWide_bool_mk Tryz.underlying4 _))⟩
  exact trodAll_mk1 (WideElems.Trod_stays laid (by kernel_rfl) (of_decide_eq_true (by kernel_rfl)) ⟨fuel, hd0⟩ (fun x hx => hb.same (hlt x hx)) (fun x hx => hsp x (by simpa using hx)))

theorem imageTurned_proved : Rows.ImageTurnedSaid :=
  OpenClaim.holds_of_wide 6 Tryz.f6 rfl rfl rfl rfl rfl rfl rfl ⟨rfl, rfl, rfl, rfl, rfl⟩ rfl rfl rfl rfl rfl (by kernel_rfl) Tryz.func6 (by kernel_rfl)
    (of_decide_eq_true (by kernel_rfl)) (by unfold Func.isWrapper; first | (rw [if_pos (by decide +kernel)]; kernel_rfl) | (rw [if_neg (by decide +kernel)]; exact ⟨rfl, rfl⟩))
    (fun os started H enc _ => imageTurned_lifted os started H enc)
#print axioms imageTurned_proved
end Go.Proofs.YtimehecofabmjaaGreat
