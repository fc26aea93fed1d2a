/- The ground on which laws of thronglaw29 are proved: contracts of functions and plain lemmas; no condition beyond the row's own. -/
import Derived.Test.YtdggdegjcbnpmaaSD
import Derived.Test.YtdggdegjcbnpmaaVC
namespace Go.Proofs
open Go Go.V
set_option linter.unusedVariables false

theorem num_law (n : Int) (st : Store) (R : AV → Store → Prop) (h : R (int n) st) : ACalls Try.prog 15 [int n] st R := by
  refine ACalls.of_body (c := cfg 4) infoOK Try.func15 (by rfl) (by rfl) (by rfl) (by rfl) ?_
  exact ret h

theorem weight_spec (l : List Cmd) (hl : l.length ≤ 140737488355328) (hu : ∀ c ∈ l, c.sized) (st : Store) (R : AV → Store → Prop)
    (h : ∀ w : Int, l.length ≤ w → (w < 1048576 → ∀ c ∈ l, (c.U.length : Int) ≤ w) → w ≤ 281474976710656 → R (int w) st) : ACalls Try.prog 82 [lst 10 cmdC l] st R := by
  refine ACalls.of_body (c := cfg 26) infoOK Try.func82 (by rfl) (by rfl) (by rfl) (by rfl) ?_
  refine AWp.loop (σ := Nat × Int) ⟨fun s => [(0, .av (lst 10 cmdC l)), (3, .av (int s.2)), (4, .av (int (s.1 : Nat)))], fun _ => [],
    fun s st' => s.1 ≤ l.length ∧ st' = st ∧ (l.length : Int) ≤ s.2 ∧ s.2 ≤ 281474976710656 ∧ (s.2 < 1048576 → ∀ c ∈ l.take s.1, (c.U.length : Int) ≤ s.2), fun s => l.length - s.1⟩ infoOK ?_ ?_
  · refine ⟨(0, (l.length : Int)), trivial, ⟨Nat.zero_le _, rfl, Int.le_refl _, by simp only; omega, fun _ c hc => by simp at hc⟩, ⟨LV.le_refl _, ?_, LV.le_refl _, trivial⟩, trivial⟩
    rw [← rws_len (f := cmdC) l]
    exact LV.le_refl _
  rintro ⟨i, n⟩ st' ⟨hi, rfl, hn, hn2, hU⟩
  dsimp only at hi hn hn2 hU ⊢
  refine bcase_intro (fun h1 => ?_) (fun h1 => ?_)
  · have hlt : i < l.length := lt_len h1
    have hsz := hu _ (List.getElem_mem hlt)
    unfold Cmd.sized at hsz
    refine bcd (fun h2 => ?_) (fun h2 => ?_)
    · refine ⟨i, rfl, optK_intro _ (rws_get hlt) ?_⟩
      refine ⟨by rw [rws_len]; exact ⟨by omega, by omega⟩, ?_⟩
      refine ⟨⟨by omega, by omega⟩, ?_⟩
      refine ⟨(i + 1, n + (l[i].U.length : Int)), ?_, ⟨hlt, rfl, by simp only; omega, by simp only; omega, fun h3 c hc => ?_⟩, ⟨LV.le_refl _, ?_, LV.le_refl _, trivial⟩, trivial⟩
      · show l.length - (i + 1) < l.length - i
        omega
      · simp only at h3 ⊢
        rw [List.take_succ_eq_append_getElem hlt] at hc
        rcases List.mem_append.1 hc with hc | hc
        · have := hU (by omega) c hc; omega
        · rw [List.mem_singleton] at hc
          subst hc; omega
      · simp only
        rw [← rws_len (f := intC) l[i].U]
        exact LV.le_refl _
    · exact ret (h n hn (fun h3 => absurd h3 h2) hn2)
  · have hge : i = l.length := ge_len h1 hi
    subst hge
    rw [List.take_length] at hU
    exact ret (h n hn hU hn2)

theorem great_spec (g : Gnd) (st : Store) (R : AV → Store → Prop) (h : R (bool (decide ((g.T.length : Int) > 700))) st) : ACalls Try.prog 83 [.agg (gndC g), nil] st R := by
  refine ACalls.of_body (c := cfg 14) infoOK Try.func83 (by rfl) (by rfl) (by rfl) (by rfl) ?_
  rw [← rws_len (f := u8C) g.T] at h
  refine bcase_intro (fun h1 => ?_) (fun h1 => ?_)
  · rw [h1] at h; exact ret h
  · rw [h1] at h; exact ret h

theorem heavyR_spec (r : Rep) (hr : r.sized) (st : Store) (R : AV → Store → Prop) (h : ∀ b : Bool, (b = false → r.light) → R (bool b) st) : ACalls Try.prog 38 [.agg (repC r)] st R := by
  refine ACalls.of_body (c := cfg 27) infoOK Try.func38 (by rfl) (by rfl) (by rfl) (by rfl) ?_
  obtain ⟨ht, hf, hfs⟩ := hr
  refine AWp.loop (σ := Nat × Int) ⟨fun s => [(1, .bx 1 0), (3, .av (int s.2)), (4, .av (int (s.1 : Nat)))], fun _ => [(1, repC r)],
    fun s st' => s.1 ≤ r.F.length ∧ st' = st ∧ (weigh (r.F.take s.1) : Int) ≤ s.2 ∧ s.2 ≤ 400 ∧ ∀ f ∈ r.F.take s.1, ∀ c ∈ f.C, c.U.length ≤ 400, fun s => r.F.length - s.1⟩ infoOK ?_ ?_
  · exact ⟨(0, 0), trivial, ⟨Nat.zero_le _, rfl, by simp [weigh], by simp, fun f hf => by simp at hf⟩, ⟨LV.le_refl _, LV.le_refl _, LV.le_refl _, trivial⟩, ⟨rfl, trivial⟩⟩
  rintro ⟨i, n⟩ st' ⟨hi, rfl, hn, hn2, hU⟩
  dsimp only at hi hn hn2 hU ⊢
  refine bcase_intro (fun h1 => ?_) (fun h1 => ?_)
  · have hlt : i < r.F.length := lt_len h1
    have hsz := hfs _ (List.getElem_mem hlt)
    refine ⟨⟨by omega, by omega⟩, ?_⟩
    refine ⟨i, rfl, optK_intro _ (rws_get hlt) ?_⟩
    refine weight_spec r.F[i].C hsz.1 hsz.2 _ _ (fun w hw1 hw2 hw3 => ?_)
    refine ⟨⟨by omega, by omega⟩, ?_⟩
    refine bcd (fun h2 => ?_) (fun h2 => ?_)
    · exact ret (h true (fun h => by cases h))
    · refine ⟨⟨by omega, by omega⟩, ?_⟩
      refine ⟨(i + 1, n + 1 + w), ?_, ⟨hlt, rfl, ?_, by simp only; omega, fun f hf c hc => ?_⟩, ⟨LV.le_refl _, LV.le_refl _, LV.le_refl _, trivial⟩, ⟨rfl, trivial⟩⟩
      · show r.F.length - (i + 1) < r.F.length - i
        omega
      · simp only
        rw [weigh_take hlt]; omega
      · simp only at hf
        rw [List.take_succ_eq_append_getElem hlt] at hf
        rcases List.mem_append.1 hf with hf | hf
        · exact hU f hf c hc
        · rw [List.mem_singleton] at hf
          subst hf
          have := hw2 (by omega) c hc
          omega
  · have hge : i = r.F.length := ge_len h1 hi
    subst hge
    rw [List.take_length] at hn hU
    refine great_spec r.G _ _ ?_
    refine ret (h _ fun hb => ⟨by omega, hU, ?_⟩)
    have := of_decide_eq_false hb
    omega

theorem heavy_spec (a : Ask29) (ha : a.sized) (st : Store) (R : AV → Store → Prop) (h : ∀ b : Bool, (b = false → a.R.light ∧ a.X.length ≤ 3000) → R (bool b) st) : ACalls Try.prog 11 [.agg (askC a)] st R := by
  refine ACalls.of_body (c := cfg 12) infoOK Try.func11 (by rfl) (by rfl) (by rfl) (by rfl) ?_
  refine heavyR_spec a.R ha.1 _ _ (fun b hb => ?_)
  cases b with
  | true => exact ret (h true (fun h => by cases h))
  | false =>
    refine ret (h _ fun hx => ⟨hb rfl, ?_⟩)
    have := of_decide_eq_false hx
    rw [rws_len] at this
    omega

theorem wakes_spec (st : Store) (R : AV → Store → Prop) (h : R (bool true) st) : ACalls Try.prog 19 [] st R := by
  refine ACalls.of_body (c := cfg 32) infoOK Try.func19 (by rfl) (by rfl) (by rfl) (by rfl) ?_
  refine ⟨by decide, ?_⟩
  have le1 : AV.le (.agg [int 1, int 1, int 1, byts [0], nil]) (.agg (repC rep1)) := AV.le_aggL ⟨AV.le_refl _, AV.le_refl _, AV.le_refl _, AV.le_refl _, AV.le_nil 3, trivial⟩
  refine ACalls.le (ys := [.agg (repC rep1)]) ⟨le1, trivial⟩ (replayBytes_spec rep1 rep1_fits (fun hn => absurd rep1_ok hn) (fun _ _ => ?_) (fun _ hn => absurd rep1_len hn))
  refine repParse_spec (repL rep1) (by have := rep1_len; omega) _ _ ?_
  rw [wakes_eval]
  refine num_law 0 _ _ ?_
  refine num_law 0 _ _ ?_
  refine ACalls.le (ys := [.agg (repC rep1), .agg (repC rep1)]) ⟨AV.le_refl _, le1, trivial⟩ (eqReplay_spec rep1 rep1 rep1_fits _ _ ?_)
  rw [show decide (rep1 = rep1) = true by simp]
  exact ret h

set_option maxHeartbeats 1000000 in
theorem replayBytes_law (l : List Ask29) (hl : l.length ≤ 140737488355328) (hs : ∀ a ∈ l, a.sized) (st : Store) (R : AV → Store → Prop) (h : R (bool true) st) : ACalls Try.prog 3 [lst 6 askC l] st R := by
  refine ACalls.of_body (c := cfg 83) infoOK Try.func3 (by rfl) (by rfl) (by rfl) (by rfl) ?_
  refine AWp.loop (σ := Nat) ⟨fun i => [(0, .av (lst 6 askC l)), (3, .av (int (i : Nat)))], fun _ => [], fun i st' => i ≤ l.length ∧ st' = st, fun i => l.length - i⟩ infoOK ?_ ?_
  · exact ⟨0, trivial, ⟨Nat.zero_le _, rfl⟩, ⟨LV.le_refl _, LV.le_refl _, trivial⟩, trivial⟩
  rintro i st' ⟨hi, rfl⟩
  refine bcase_intro (fun h1 => ?_) (fun h1 => ?_)
  rotate_left
  · exact wakes_spec _ _ (ret h)
  have hlt : i < l.length := lt_len h1
  refine bcd (fun h2 => ?_) (fun h2 => ?_)
  rotate_left
  · exact wakes_spec _ _ (ret h)
  refine ⟨i, rfl, optK_intro _ (rws_get hlt) ?_⟩
  refine heavy_spec l[i] (hs _ (List.getElem_mem hlt)) _ _ (fun b hb => ?_)
  cases b with
  | true => exact ret h
  | false =>
  obtain ⟨hL, hX⟩ := hb rfl
  have hf := light_fits hL
  refine ⟨i, rfl, optK_intro _ (rws_get hlt) ?_⟩
  refine copyReplay_spec l[i].R hf _ _ ?_
  have next : ∀ A : Fr, A.t 0 = .av (lst 6 askC l) → A.t 3 = .av (int (((i : Int) + 1))) → ∃ s : Nat, l.length - s < l.length - i ∧ (s ≤ l.length ∧ st' = st') ∧ fitsT A [(0, .av (lst 6 askC l)), (3, .av (int (s : Nat)))] ∧ fitsB A [] := by
    intro A h0 h3
    refine ⟨i + 1, by omega, ⟨hlt, rfl⟩, ⟨by rw [h0]; exact LV.le_refl _, by rw [h3]; exact LV.le_refl _, trivial⟩, trivial⟩
  refine replayBytes_spec l[i].R hf (fun hn => ?_) (fun hp hle => ?_) (fun hp hn => absurd (light_len hL hp) hn)
  · refine ⟨i, rfl, optK_intro _ (rws_get hlt) ?_⟩
    refine replay26_spec l[i].R hf _ _ (yesno (fun hp => absurd hp hn) (fun _ => ?_))
    refine num_law 1 _ _ ?_
    refine ⟨⟨by omega, by omega⟩, ?_⟩
    exact next _ rfl rfl
  · refine ⟨i, rfl, optK_intro _ (rws_get hlt) ?_⟩
    refine replay26_spec l[i].R hf _ _ (yesno (fun _ => ?_) (fun hn => absurd hp hn))
    refine ⟨i, rfl, optK_intro _ (rws_get hlt) ?_⟩
    refine replayBytes26_spec l[i].R hp ?_
    rw [show decide (((repL l[i].R).length : Int) ≤ 1048576) = true by simp; omega]
    refine ADraw.of_sched infoOK (by rfl) (by rfl) sch3_12 (by rfl) ?_
    refine ⟨num_law 0 _ _ ⟨trivial, ?_⟩, trivial⟩
    refine ⟨eqBytes_spec (repL l[i].R) (repL l[i].R) (by omega) _ _ ⟨trivial, ?_⟩, trivial⟩
    rw [show decide (repL l[i].R = repL l[i].R) = true by simp]
    refine ⟨i, rfl, optK_intro _ (rws_get hlt) ?_⟩
    refine ⟨eqReplay_spec l[i].R l[i].R hf _ _ ⟨trivial, ?_⟩, trivial⟩
    rw [show decide (l[i].R = l[i].R) = true by simp]
    refine ⟨⟨by omega, by omega⟩, ?_⟩
    exact next _ rfl rfl
end Go.Proofs
namespace Go.Proofs
open Go Go.V
set_option linter.unusedVariables false

theorem int_codec : Codec Try.prog 3 Int intC (fun _ => True) := (Codec.int Try.underlying3).weaken fun _ _ => trivial
theorem u64_codec : Codec Try.prog 51 Int (fun n => [u64 n]) (fun n => 0 ≤ n ∧ n ≤ 18446744073709551615) := (Codec.int Try.underlying51).weaken fun _ h => bounds_u64 h
theorem bytes_codec : Codec Try.prog 24 (List UInt8) (fun l => [byts l]) (fun l => l.length ≤ 140737488355328) :=
  (Codec.slice Try.underlying24 (k := 1) (by kernel_rfl) (by decide) (of_decide_eq_true (by kernel_rfl)) (Codec.byte Try.underlying5)).weaken fun _ h => h.2
theorem ints_codec : Codec Try.prog 60 (List Int) (fun l => [ints l]) (fun l => l.length ≤ 140737488355328) :=
  (Codec.slice Try.underlying60 (k := 1) (by kernel_rfl) (by decide) (of_decide_eq_true (by kernel_rfl)) int_codec).weaken fun _ h => h.2

theorem gnd_codec : Codec Try.prog 26 Gnd gndC (fun g => g.T.length ≤ 140737488355328) := by
  refine ⟨fun {H} enc w base held fuel cs x hx hw => ?_⟩
  have hu := Try.underlying26
  have hl : cs.length = 3 := (struct_len hu hx).trans (by kernel_rfl)
  obtain ⟨a0, q0, h0⟩ := struct_field hu hx hw 0 0 1 rfl rfl (by kernel_rfl) int_codec
  obtain ⟨a1, q1, h1⟩ := struct_field hu hx hw 1 1 1 rfl rfl (by kernel_rfl) int_codec
  obtain ⟨a2, q2, h2⟩ := struct_field hu hx hw 2 2 1 rfl rfl (by kernel_rfl) bytes_codec
  refine ⟨⟨a0, a1, a2⟩, q2, ?_⟩
  have := h0.cons rfl (h1.cons rfl (h2.cons rfl (CellsOK.stop hl)))
  rw [List.drop_zero] at this
  exact this

theorem vec_codec : Codec Try.prog 59 (Int × Int) (fun v => [int v.1, int v.2]) (fun _ => True) := by
  refine ⟨fun {H} enc w base held fuel cs x hx hw => ?_⟩
  have hu := Try.underlying59
  have hl : cs.length = 2 := (struct_len hu hx).trans (by kernel_rfl)
  obtain ⟨a0, q0, h0⟩ := struct_field hu hx hw 0 0 1 rfl rfl (by kernel_rfl) (Codec.int Try.underlying2)
  obtain ⟨a1, q1, h1⟩ := struct_field hu hx hw 1 1 1 rfl rfl (by kernel_rfl) (Codec.int Try.underlying2)
  refine ⟨(a0, a1), trivial, ?_⟩
  have := h0.cons rfl (h1.cons rfl (CellsOK.stop hl))
  rw [List.drop_zero] at this
  exact this

theorem cmd_codec : Codec Try.prog 84 Cmd cmdC Cmd.sized := by
  refine ⟨fun {H} enc w base held fuel cs x hx hw => ?_⟩
  have hu := Try.underlying84
  have hl : cs.length = 10 := (struct_len hu hx).trans (by kernel_rfl)
  obtain ⟨a0, q0, h0⟩ := struct_field hu hx hw 0 0 1 rfl rfl (by kernel_rfl) int_codec
  obtain ⟨a1, q1, h1⟩ := struct_field hu hx hw 1 1 1 rfl rfl (by kernel_rfl) int_codec
  obtain ⟨a2, q2, h2⟩ := struct_field hu hx hw 2 2 1 rfl rfl (by kernel_rfl) int_codec
  obtain ⟨a3, q3, h3⟩ := struct_field hu hx hw 3 3 1 rfl rfl (by kernel_rfl) int_codec
  obtain ⟨a4, q4, h4⟩ := struct_field hu hx hw 4 4 1 rfl rfl (by kernel_rfl) ints_codec
  obtain ⟨a5, q5, h5⟩ := struct_field hu hx hw 5 5 1 rfl rfl (by kernel_rfl) int_codec
  obtain ⟨a6, q6, h6⟩ := struct_field hu hx hw 6 6 1 rfl rfl (by kernel_rfl) int_codec
  obtain ⟨a7, q7, h7⟩ := struct_field hu hx hw 7 7 1 rfl rfl (by kernel_rfl) int_codec
  obtain ⟨a8, q8, h8⟩ := struct_field hu hx hw 8 8 2 rfl rfl (by kernel_rfl) vec_codec
  refine ⟨⟨a0, a1, a2, a3, a4, a5, a6, a7, a8.1, a8.2⟩, q4, ?_⟩
  have := h0.cons rfl (h1.cons rfl (h2.cons rfl (h3.cons rfl (h4.cons rfl (h5.cons rfl (h6.cons rfl (h7.cons rfl (h8.cons rfl (CellsOK.stop hl)))))))))
  rw [List.drop_zero] at this
  exact this

theorem cmds_codec : Codec Try.prog 50 (List Cmd) (fun l => [lst 10 cmdC l]) (fun l => l.length ≤ 140737488355328 ∧ ∀ c ∈ l, c.sized) :=
  (Codec.slice Try.underlying50 (k := 10) (by kernel_rfl) (by decide) (of_decide_eq_true (by kernel_rfl)) cmd_codec).weaken fun _ h => ⟨h.2, h.1⟩

theorem frm_codec : Codec Try.prog 53 Frm frmC (fun f => f.sized ∧ 0 ≤ f.hash ∧ f.hash ≤ 18446744073709551615) := by
  refine ⟨fun {H} enc w base held fuel cs x hx hw => ?_⟩
  have hu := Try.underlying53
  have hl : cs.length = 3 := (struct_len hu hx).trans (by kernel_rfl)
  obtain ⟨a0, q0, h0⟩ := struct_field hu hx hw 0 0 1 rfl rfl (by kernel_rfl) int_codec
  obtain ⟨a1, q1, h1⟩ := struct_field hu hx hw 1 1 1 rfl rfl (by kernel_rfl) cmds_codec
  obtain ⟨a2, q2, h2⟩ := struct_field hu hx hw 2 2 1 rfl rfl (by kernel_rfl) u64_codec
  refine ⟨⟨a0, a1, a2⟩, ⟨q1, q2⟩, ?_⟩
  have := h0.cons rfl (h1.cons rfl (h2.cons rfl (CellsOK.stop hl)))
  rw [List.drop_zero] at this
  exact this

theorem frms_codec : Codec Try.prog 27 (List Frm) (fun l => [lst 3 frmC l]) (fun l => l.length ≤ 140737488355328 ∧ ∀ f ∈ l, f.sized ∧ 0 ≤ f.hash ∧ f.hash ≤ 18446744073709551615) :=
  (Codec.slice Try.underlying27 (k := 3) (by kernel_rfl) (by decide) (of_decide_eq_true (by kernel_rfl)) frm_codec).weaken fun _ h => ⟨h.2, h.1⟩

def Rep.hashed (r : Rep) : Prop := ∀ f ∈ r.F, 0 ≤ f.hash ∧ f.hash ≤ 18446744073709551615
theorem rep_codec : Codec Try.prog 29 Rep repC (fun r => r.sized ∧ Rep.hashed r) := by
  refine ⟨fun {H} enc w base held fuel cs x hx hw => ?_⟩
  have hu := Try.underlying29
  have hl : cs.length = 5 := (struct_len hu hx).trans (by kernel_rfl)
  obtain ⟨a0, q0, h0⟩ := struct_field hu hx hw 0 0 1 rfl rfl (by kernel_rfl) int_codec
  obtain ⟨a1, q1, h1⟩ := struct_field hu hx hw 1 1 3 rfl rfl (by kernel_rfl) gnd_codec
  obtain ⟨a2, q2, h2⟩ := struct_field hu hx hw 2 4 1 rfl rfl (by kernel_rfl) frms_codec
  refine ⟨⟨a0, a1, a2⟩, ⟨⟨q1, q2.1, fun f hf => (q2.2 f hf).1⟩, fun f hf => (q2.2 f hf).2⟩, ?_⟩
  have := h0.cons rfl (h1.cons rfl (h2.cons rfl (CellsOK.stop hl)))
  rw [List.drop_zero] at this
  exact this

theorem ask29_codec : Codec Try.prog 31 Ask29 askC (fun a => a.sized ∧ Rep.hashed a.R) := by
  refine ⟨fun {H} enc w base held fuel cs x hx hw => ?_⟩
  have hu := Try.underlying31
  have hl : cs.length = 6 := (struct_len hu hx).trans (by kernel_rfl)
  obtain ⟨a0, q0, h0⟩ := struct_field hu hx hw 0 0 5 rfl rfl (by kernel_rfl) rep_codec
  obtain ⟨a1, q1, h1⟩ := struct_field hu hx hw 1 5 1 rfl rfl (by kernel_rfl) bytes_codec
  refine ⟨⟨a0, a1⟩, ⟨⟨q0.1, q1⟩, q0.2⟩, ?_⟩
  have := h0.cons rfl (h1.cons rfl (CellsOK.stop hl))
  rw [List.drop_zero] at this
  exact this

theorem asks29_codec : Codec Try.prog 22 (List Ask29) (fun l => [lst 6 askC l]) (fun l => l.length ≤ 140737488355328 ∧ ∀ a ∈ l, a.sized ∧ Rep.hashed a.R) :=
  (Codec.slice Try.underlying22 (k := 6) (by kernel_rfl) (by decide) (of_decide_eq_true (by kernel_rfl)) ask29_codec).weaken fun _ h => ⟨h.2, h.1⟩
end Go.Proofs
