/- The ground on which laws of thronglaw26 are proved: contracts of functions and plain lemmas; no condition beyond the row's own. -/
import Derived.Test.YtimehecofabmjaaGreatSI
import Derived.Test.YtimehecofabmjaaGreatVC
set_option linter.unusedSimpArgs false
set_option linter.unusedVariables false
namespace Go.Proofs
open Go Go.V
set_option linter.unusedVariables false

theorem bounds_i64 {n : Int} (h : (Lit.int .i64 n).wf = true) : InI64 n := by
  simp [Lit.wf, IntKind.min, IntKind.max, IntKind.signed, IntKind.bits] at h
  unfold InI64
  omega

theorem i64_codec : Codec Tryz.prog 2 Int intC InI64 := (Codec.int Tryz.underlying2).weaken fun _ h => bounds_i64 h
theorem int_codec : Codec Tryz.prog 3 Int intC InI64 := (Codec.int Tryz.underlying3).weaken fun _ h => bounds_i64 h
theorem bytes_codec : Codec Tryz.prog 24 (List UInt8) (fun l => [byts l]) (fun l => l.length ≤ 140737488355328) :=
  (Codec.slice Tryz.underlying24 (k := 1) (by kernel_rfl) (by decide) (of_decide_eq_true (by kernel_rfl)) (Codec.byte Tryz.underlying5)).weaken fun _ h => h.2
theorem vec_codec : Codec Tryz.prog 68 Vc vecC Vc.ok := by
  refine ⟨fun {H} enc w base held fuel cs x hx hw => ?_⟩
  have hu := Tryz.underlying68
  have hl : cs.length = 2 := (struct_len hu hx).trans (by kernel_rfl)
  obtain ⟨a0, q0, h0⟩ := struct_field hu hx hw 0 0 1 rfl rfl (by kernel_rfl) i64_codec
  obtain ⟨a1, q1, h1⟩ := struct_field hu hx hw 1 1 1 rfl rfl (by kernel_rfl) i64_codec
  refine ⟨(a0, a1), ⟨q0, q1⟩, ?_⟩
  have := h0.cons rfl (h1.cons rfl (CellsOK.stop hl))
  rw [List.drop_zero] at this
  exact this
theorem gnd_codec : Codec Tryz.prog 26 Gnd gndC (fun g => g.T.length ≤ 140737488355328) := by
  refine ⟨fun {H} enc w base held fuel cs x hx hw => ?_⟩
  have hu := Tryz.underlying26
  have hl : cs.length = 3 := (struct_len hu hx).trans (by kernel_rfl)
  obtain ⟨a0, q0, h0⟩ := struct_field hu hx hw 0 0 1 rfl rfl (by kernel_rfl) int_codec
  obtain ⟨a1, q1, h1⟩ := struct_field hu hx hw 1 1 1 rfl rfl (by kernel_rfl) int_codec
  obtain ⟨a2, q2, h2⟩ := struct_field hu hx hw 2 2 1 rfl rfl (by kernel_rfl) bytes_codec
  refine ⟨⟨a0, a1, a2⟩, q2, ?_⟩
  have := h0.cons rfl (h1.cons rfl (h2.cons rfl (CellsOK.stop hl)))
  rw [List.drop_zero] at this
  exact this
theorem bld_codec : Codec Tryz.prog 66 Bld bldC (fun _ => True) := by
  refine ⟨fun {H} enc w base held fuel cs x hx hw => ?_⟩
  have hu := Tryz.underlying66
  have hl : cs.length = 6 := (struct_len hu hx).trans (by kernel_rfl)
  obtain ⟨a0, q0, h0⟩ := struct_field hu hx hw 0 0 1 rfl rfl (by kernel_rfl) int_codec
  obtain ⟨a1, q1, h1⟩ := struct_field hu hx hw 1 1 1 rfl rfl (by kernel_rfl) int_codec
  obtain ⟨a2, q2, h2⟩ := struct_field hu hx hw 2 2 1 rfl rfl (by kernel_rfl) int_codec
  obtain ⟨a3, q3, h3⟩ := struct_field hu hx hw 3 3 1 rfl rfl (by kernel_rfl) int_codec
  obtain ⟨a4, q4, h4⟩ := struct_field hu hx hw 4 4 1 rfl rfl (by kernel_rfl) int_codec
  obtain ⟨a5, q5, h5⟩ := struct_field hu hx hw 5 5 1 rfl rfl (by kernel_rfl) int_codec
  refine ⟨⟨a0, a1, a2, a3, a4, a5⟩, trivial, ?_⟩
  have := h0.cons rfl (h1.cons rfl (h2.cons rfl (h3.cons rfl (h4.cons rfl (h5.cons rfl (CellsOK.stop hl))))))
  rw [List.drop_zero] at this
  exact this
theorem blds_codec : Codec Tryz.prog 27 (List Bld) (fun l => [lst 6 bldC l]) (fun l => l.length ≤ 140737488355328) :=
  (Codec.slice Tryz.underlying27 (k := 6) (by kernel_rfl) (by decide) (of_decide_eq_true (by kernel_rfl)) bld_codec).weaken fun _ h => h.2
theorem unt_codec : Codec Tryz.prog 70 Unt untC (fun u => u.pos.ok) := by
  refine ⟨fun {H} enc w base held fuel cs x hx hw => ?_⟩
  have hu := Tryz.underlying70
  have hl : cs.length = 10 := (struct_len hu hx).trans (by kernel_rfl)
  obtain ⟨a0, q0, h0⟩ := struct_field hu hx hw 0 0 1 rfl rfl (by kernel_rfl) int_codec
  obtain ⟨a1, q1, h1⟩ := struct_field hu hx hw 1 1 1 rfl rfl (by kernel_rfl) int_codec
  obtain ⟨a2, q2, h2⟩ := struct_field hu hx hw 2 2 1 rfl rfl (by kernel_rfl) int_codec
  obtain ⟨a3, q3, h3⟩ := struct_field hu hx hw 3 3 2 rfl rfl (by kernel_rfl) vec_codec
  obtain ⟨a4, q4, h4⟩ := struct_field hu hx hw 4 5 1 rfl rfl (by kernel_rfl) int_codec
  obtain ⟨a5, q5, h5⟩ := struct_field hu hx hw 5 6 1 rfl rfl (by kernel_rfl) int_codec
  obtain ⟨a6, q6, h6⟩ := struct_field hu hx hw 6 7 1 rfl rfl (by kernel_rfl) int_codec
  obtain ⟨a7, q7, h7⟩ := struct_field hu hx hw 7 8 1 rfl rfl (by kernel_rfl) int_codec
  obtain ⟨a8, q8, h8⟩ := struct_field hu hx hw 8 9 1 rfl rfl (by kernel_rfl) int_codec
  refine ⟨⟨a0, a1, a2, a3, a4, a5, a6, a7, a8⟩, q3, ?_⟩
  have := h0.cons rfl (h1.cons rfl (h2.cons rfl (h3.cons rfl (h4.cons rfl (h5.cons rfl (h6.cons rfl (h7.cons rfl (h8.cons rfl (CellsOK.stop hl)))))))))
  rw [List.drop_zero] at this
  exact this
theorem unts_codec : Codec Tryz.prog 28 (List Unt) (fun l => [lst 10 untC l]) (fun l => l.length ≤ 140737488355328 ∧ ∀ u ∈ l, u.pos.ok) :=
  (Codec.slice Tryz.underlying28 (k := 10) (by kernel_rfl) (by decide) (of_decide_eq_true (by kernel_rfl)) unt_codec).weaken fun _ h => ⟨h.2, h.1⟩

theorem wld_codec : Codec Tryz.prog 30 Wld wldC (fun w => ∀ u ∈ w.U, u.pos.ok) := by
  refine ⟨fun {H} enc w base held fuel cs x hx hw => ?_⟩
  have hu := Tryz.underlying30
  have hl : cs.length = 8 := (struct_len hu hx).trans (by kernel_rfl)
  obtain ⟨a0, q0, h0⟩ := struct_field hu hx hw 0 0 1 rfl rfl (by kernel_rfl) int_codec
  obtain ⟨a1, q1, h1⟩ := struct_field hu hx hw 1 1 1 rfl rfl (by kernel_rfl) int_codec
  obtain ⟨a2, q2, h2⟩ := struct_field hu hx hw 2 2 1 rfl rfl (by kernel_rfl) int_codec
  obtain ⟨a3, q3, h3⟩ := struct_field hu hx hw 3 3 3 rfl rfl (by kernel_rfl) gnd_codec
  obtain ⟨a4, q4, h4⟩ := struct_field hu hx hw 4 6 1 rfl rfl (by kernel_rfl) blds_codec
  obtain ⟨a5, q5, h5⟩ := struct_field hu hx hw 5 7 1 rfl rfl (by kernel_rfl) unts_codec
  refine ⟨⟨a0, a1, a2, a3, a4, a5⟩, q5.2, ?_⟩
  have := h0.cons rfl (h1.cons rfl (h2.cons rfl (h3.cons rfl (h4.cons rfl (h5.cons rfl (CellsOK.stop hl))))))
  rw [List.drop_zero] at this
  exact this

def Ask26.good (a : Ask26) : Prop := ∀ u ∈ a.W.U, u.pos.ok
theorem ask26_codec : Codec Tryz.prog 32 Ask26 ask26C Ask26.good := by
  refine ⟨fun {H} enc w base held fuel cs x hx hw => ?_⟩
  have hu := Tryz.underlying32
  have hl : cs.length = 9 := (struct_len hu hx).trans (by kernel_rfl)
  obtain ⟨a0, q0, h0⟩ := struct_field hu hx hw 0 0 8 rfl rfl (by kernel_rfl) wld_codec
  obtain ⟨a1, q1, h1⟩ := struct_field hu hx hw 1 8 1 rfl rfl (by kernel_rfl) bytes_codec
  refine ⟨⟨a0, a1⟩, q0, ?_⟩
  have := h0.cons rfl (h1.cons rfl (CellsOK.stop hl))
  rw [List.drop_zero] at this
  exact this
theorem asks26_codec : Codec Tryz.prog 22 (List Ask26) (fun l => [lst 9 ask26C l]) (fun l => l.length ≤ 140737488355328 ∧ ∀ a ∈ l, a.good) :=
  (Codec.slice Tryz.underlying22 (k := 9) (by kernel_rfl) (by decide) (of_decide_eq_true (by kernel_rfl)) ask26_codec).weaken fun _ h => ⟨h.2, h.1⟩
end Go.Proofs
namespace Go.Proofs
open Go Go.V
set_option linter.unusedVariables false

theorem w00_fits : w00.fits := ⟨by unfold Gnd.fits; decide, by decide, by decide⟩
theorem zero_leL : AV.le (.agg [int 0, int 0, int 0, int 0, int 0, nil, nil, nil]) (.agg (wldC w00)) := zero_le

set_option maxHeartbeats 1000000 in
theorem imageAny_law (l : List Ask26) (hl : l.length ≤ 140737488355328) (st : Store) (R : AV → Store → Prop) (h : R (V.bool true) st) : ACalls Tryz.prog 5 [lst 9 ask26C l] st R := by
  refine ACalls.of_body (c := cfg 68) infoOK Tryz.func5 (by rfl) (by rfl) (by rfl) (by rfl) ?_
  refine AWp.loop (σ := Nat) ⟨fun i => [(0, .av (lst 9 ask26C l)), (3, .av (int (i : Nat)))], fun _ => [], fun i st' => i ≤ l.length ∧ st' = st, fun i => l.length - i⟩ infoOK ?_ ?_
  · exact ⟨0, trivial, ⟨Nat.zero_le _, rfl⟩, ⟨LV.le_refl _, LV.le_refl _, trivial⟩, trivial⟩
  rintro i st' ⟨hi, rfl⟩
  refine bcase_intro (fun h1 => ?_) (fun h1 => wakes26_spec _ _ (ret h))
  have hlt : i < l.length := lt_len h1
  refine bcd (fun h2 => ?_) (fun h2 => wakes26_spec _ _ (ret h))
  refine ⟨i, rfl, optK_intro _ (rws_get hlt) ?_⟩
  refine heavy26_spec l[i] _ _ (fun z hz => ?_)
  refine bcase_intro (fun c1 => ret h) (fun c1 => ?_)
  obtain ⟨hw, hx, _⟩ := heavy26_fits (a := l[i]) fun hh => by rw [hz.2 hh] at c1; cases c1
  have next : ∀ A : Fr, A.t 0 = .av (lst 9 ask26C l) → A.t 3 = .av (int (((i : Int) + 1))) → ∃ s : Nat, l.length - s < l.length - i ∧ (s ≤ l.length ∧ st' = st') ∧ fitsT A [(0, .av (lst 9 ask26C l)), (3, .av (int (s : Nat)))] ∧ fitsB A [] := by
    intro A h0 h3
    refine ⟨i + 1, by omega, ⟨hlt, rfl⟩, ⟨by rw [h0]; exact LV.le_refl _, by rw [h3]; exact LV.le_refl _, trivial⟩, trivial⟩
  have bad : ∀ e : Int, e ≠ 0 → (e = 1 ∨ e = 11) → e = 1 ∨ e = 11 := fun e _ h => h
  refine ⟨i, rfl, optK_intro _ (rws_get hlt) ?_⟩
  refine iparse_spec l[i].X (by omega) _ _ (fun he => ?_) (fun he hm => ?_) (fun he hm => ?_)
  · have hok : imgE l[i].X = 1 ∨ imgE l[i].X = 11 := (img_err l[i].X).resolve_left he
    generalize imgE l[i].X = e at he hok
    refine num26_spec _ _ _ ?_
    refine bcne (fun _ => ?_) (fun hh => absurd hh he)
    refine ACalls.le (ys := [.agg (wldC w00), .agg (wldC w00)]) ⟨AV.le_refl _, zero_leL, trivial⟩ ?_
    refine eqWorld_spec w00 w00 w00_fits _ _ ?_
    rw [decide_eq_true rfl]
    refine num26_spec _ _ _ ?_
    refine bcne (fun n1 => ?_) (fun _ => ?_)
    · refine num26_spec _ _ _ ?_
      refine bcne (fun n2 => absurd hok (by omega)) (fun _ => ?_)
      refine in64 (by omega) ?_
      exact next _ rfl rfl
    · refine in64 (by omega) ?_
      exact next _ rfl rfl
  · refine num26_spec _ _ _ ?_
    refine ACalls.le (ys := [.agg (wldC w00), .agg (wldC w00)]) ⟨AV.le_refl _, zero_leL, trivial⟩ ?_
    refine eqWorld_spec w00 w00 w00_fits _ _ ?_
    rw [decide_eq_true rfl]
    refine num26_spec _ _ _ ?_
    refine in64 (by omega) ?_
    exact next _ rfl rfl
  · have hput := img_put he
    refine num26_spec _ _ _ ?_
    refine ibytes_spec (imgW l[i].X) (img_fits he) (img_pos _) _ _ (fun hn => absurd hm hn) (fun _ => ?_)
    refine num26_spec _ _ _ ?_
    refine ⟨i, rfl, optK_intro _ (rws_get hlt) ?_⟩
    have hll := imgL_len (may_nums hm)
    refine eqBytes_spec (imgL (imgW l[i].X)) l[i].X (by omega) _ _ ?_
    rw [decide_eq_true hput.symm]
    refine in64 (by omega) ?_
    exact next _ rfl rfl
end Go.Proofs
