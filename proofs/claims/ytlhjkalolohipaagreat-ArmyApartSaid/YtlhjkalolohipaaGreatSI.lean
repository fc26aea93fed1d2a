/- The ground on which laws of thronglaw21 are proved: contracts of functions and plain lemmas; no condition beyond the row's own. -/
import Derived.Test.YtlhjkalolohipaaGreatVH
import Derived.Test.YtlhjkalolohipaaGreatSH
namespace Go.Proofs
open Go Go.V
set_option linter.unusedVariables false

theorem copyUntsR_spec_key (l : List Unt) (hl : l.length ≤ 1000000) (R : AV → Store → Prop) (h : ∀ v N, RowsO 10 untC N v l → R v N) : ACalls Tryz.prog 28 [lst 10 untC l] Store.empty R := by
  refine ACalls.of_body (c := cfg 19) infoOK Tryz.func28 (by rfl) (by rfl) (by rfl) (by rfl) ?_
  refine AWp.loop (σ := Nat × AV × Store) ⟨fun s => [(0, .av (lst 10 untC l)), (3, .av s.2.1), (4, .av (int s.1))], fun _ => [], fun s st' => s.1 ≤ l.length ∧ st' = s.2.2 ∧ RowsO 10 untC s.2.2 s.2.1 (l.take s.1), fun s => l.length - s.1⟩ infoOK ?_ ?_
  · exact ⟨(0, _, Store.empty), trivial, ⟨Nat.zero_le _, rfl, .inl ⟨rfl, rfl⟩⟩, ⟨LV.le_refl _, LV.le_refl _, LV.le_refl _, trivial⟩, trivial⟩
  · rintro ⟨i, v, N⟩ st' ⟨hi, rfl, ha⟩
    dsimp only at hi ha ⊢
    refine bcase_intro (fun h1 => ?_) (fun h1 => ?_)
    · have hlt : i < l.length := lt_len h1
      refine ⟨i, rfl, optK_intro _ (rws_get hlt) ?_⟩
      refine ⟨by decide, ?_⟩
      refine appRows (ie := ti45) rfl (fun _ => rfl) (by decide) ha l[i] rfl (by rw [List.length_take]; omega) (fun b cap L q1 q2 q3 q4 => ?_)
      refine ⟨⟨by omega, by omega⟩, ?_⟩
      refine ⟨(i + 1, _, _), ?_, ⟨hlt, rfl, ?_⟩, ⟨LV.le_refl _, LV.le_refl _, LV.le_refl _, trivial⟩, trivial⟩
      · show l.length - (i + 1) < l.length - i
        omega
      · dsimp only
        rw [List.take_succ_eq_append_getElem hlt]
        exact .inr ⟨b, cap, L, rfl, setObj_self _ _ _, q2, q3, q4⟩
    · have hge : i = l.length := ge_len h1 hi
      subst hge
      rw [List.take_length] at ha
      exact ret (h _ _ ha)

theorem copyUntsR_spec (l : List Unt) (hl : l.length ≤ 1000000) (st : Store) (R : AV → Store → Prop) (h : ∀ v N, RowsO 10 untC N v l → Disj N st → R v (N.un st)) : ACalls Tryz.prog 28 [lst 10 untC l] st R := by
  rw [← empty_un st]
  exact ACalls.frame (disj_emptyL st) (copyUntsR_spec_key l hl (fun v N => RowsO 10 untC N v l) fun v N hv => hv) fun v N hv hd => h v N hv hd


theorem copyWorldR_spec (w : Wld) (hw : w.fits) (hU : w.U.length ≤ 1000000) (st : Store) (R : AV → Store → Prop) (h : ∀ v N, RowsO 10 untC N v w.U → Disj N st → R (.agg (wldV w v)) (N.un st)) : ACalls Tryz.prog 13 [.agg (wldC w)] st R := by
  refine ACalls.of_body (c := cfg 18) infoOK Tryz.func13 (by rfl) (by rfl) (by rfl) (by rfl) ?_
  refine copyGround_spec w.G hw.1 _ _ ?_
  refine copyBlds_spec w.B hw.2.1 _ _ ?_
  refine copyUntsR_spec w.U hU _ _ (fun v N hv hd => ?_)
  have hv2 := hv
  rcases hv2 with ⟨rfl, _⟩ | ⟨b, cap, L, rfl, _⟩
  · exact ret (h _ N hv hd)
  · exact ret (h _ N hv hd)

theorem checkR_spec {g : Store} {w : Wld} {v : AV} (hv : RowsO 10 untC g v w.U) (hw : w.fits) (hn : ∀ u ∈ w.U, u.pos.ok) (R : AV → Store → Prop) (h : ∀ z : Bool, (z = true ↔ mayP w) → R (int (if z then 0 else 1)) g) : ACalls Tryz.prog 15 [.agg (wldV w v)] g R :=
  ACalls.read (ys := [.agg (wldC w)]) (Q := fun r => ∃ z : Bool, r = int (if z then 0 else 1) ∧ (z = true ↔ mayP w)) (fun Oth M W vs sto hr => by
    obtain ⟨x, rfl, h1⟩ := reads1 hr
    exact Reads.cons (wld_borrow hv sto h1) Reads.nil) (check_spec w hw hn _ _ fun z hz => ⟨z, rfl, hz⟩) (fun r ⟨z, e, _⟩ => e ▸ flat_s _) (fun r ⟨z, e, hz⟩ => e ▸ h z hz)

theorem setUs_fits {w : Wld} (h : w.fits) {us : List Unt} (hl : us.length = w.U.length) : (setUs w us).fits := ⟨h.1, h.2.1, by show us.length ≤ _; rw [hl]; exact h.2.2⟩

/-- One cell of a unit is stored. -/
theorem rowsO_set {g : Store} {b cap : Nat} {us : List Unt} {L : List AV} (h1 : us.length ≤ cap) (h2 : cap * 10 ≤ us.length * 10 + L.length) (h3 : cap ≤ 9223372036854775807) {i j : Nat} (hi : i < us.length) {ys : List AV} (hj : j + ys.length ≤ 10) {u' : Unt} (hu : untC u' = splice (untC us[i]) j ys) :
    RowsO 10 untC (g.setObj b (.cells (splice ((rws untC us).flatten ++ L) (0 + i * 10 + j) ys))) (.s (.slice (some ⟨b, 0, none⟩) us.length cap)) (us.set i u') := by
  refine .inr ⟨b, cap, L, by rw [List.length_set], ?_, by rw [List.length_set]; exact h1, by rw [List.length_set]; exact h2, h3⟩
  rw [setObj_self, Nat.zero_add, splice_rows untC_len hi hj hu]
end Go.Proofs
