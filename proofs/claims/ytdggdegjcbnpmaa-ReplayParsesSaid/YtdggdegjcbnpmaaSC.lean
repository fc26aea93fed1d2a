/- The ground on which laws of thronglaw29 are proved: contracts of functions and plain lemmas; no condition beyond the row's own. -/
import Derived.Test.YtdggdegjcbnpmaaSB
namespace Go.Proofs
open Go Go.V
set_option linter.unusedVariables false

theorem fnvSum_spec (s : Int) (l : List UInt8) (hl : l.length ≤ 1000000000000) (st : Store) (R : AV → Store → Prop) (h : R (u64 (fnvSum s l)) st) : ACalls Try.prog 45 [u64 s, byts l] st R := by
  refine ACalls.of_body (c := cfg 20) infoOK Try.func45 (by rfl) (by rfl) (by rfl) (by rfl) ?_
  refine AWp.loop (σ := Nat) ⟨fun i => [(0, .av (u64 (fnvSum s (l.take i)))), (7, .av (byts l)), (8, .av (int l.length)), (9, .av (int (i : Nat)))], fun _ => [],
    fun i st' => i ≤ l.length ∧ st' = st, fun i => l.length - i⟩ infoOK ?_ ?_
  · refine ⟨0, trivial, ⟨Nat.zero_le _, rfl⟩, ⟨LV.le_refl _, LV.le_refl _, ?_, LV.le_refl _, trivial⟩, trivial⟩
    rw [← rws_len (f := u8C) l]
    exact LV.le_refl _
  · rintro i st' ⟨hi, rfl⟩
    refine bcase_intro (fun h1 => ?_) (fun h1 => ?_)
    · have hlt : i < l.length := by simpa using h1
      refine ⟨i, rfl, optK_intro _ (rws_get hlt) ?_⟩
      refine ⟨⟨by omega, by omega⟩, ?_⟩
      refine ⟨i + 1, ?_, ⟨hlt, rfl⟩, ⟨?_, LV.le_refl _, LV.le_refl _, LV.le_refl _, trivial⟩, trivial⟩
      · show l.length - (i + 1) < l.length - i
        omega
      · rw [fnvSum_take hlt]
        exact LV.le_refl _
    · have hge : i = l.length := by
        have : ¬ i < l.length := by simpa using h1
        omega
      subst hge
      refine ⟨_, st', AV.le_refl _, Store.Has.refl st', ?_⟩
      rw [← List.take_length (l := l)] at h
      exact h

theorem fnvSumV (s : Int) {l : List UInt8} {v : AV} (hv : AV.le v (byts l)) (hl : l.length ≤ 1000000000000) {st : Store} {R : AV → Store → Prop} (h : R (u64 (fnvSum s l)) st) : ACalls Try.prog 45 [u64 s, v] st R :=
  ACalls.le (ys := [u64 s, byts l]) ⟨AV.le_refl _, hv, trivial⟩ (fnvSum_spec s l hl st R h)

theorem fnvBytes_spec (s : Int) (st : Store) (R : AV → Store → Prop) (h : R (byts (eightL s)) st) : ACalls Try.prog 48 [u64 s] st R := by
  refine ACalls.of_body (c := cfg 14) infoOK Try.func48 (by rfl) (by rfl) (by rfl) (by rfl) ?_
  refine AWp.loop (σ := Nat × AV) ⟨fun x => [(0, .av (u64 (s / 256 ^ x.1))), (2, .av x.2), (3, .av (int (x.1 : Nat)))], fun _ => [],
    fun x st' => x.1 ≤ 8 ∧ App 1 st x.2 (rowsB ((eightL s).take x.1)) st', fun x => 8 - x.1⟩ infoOK ?_ ?_
  · refine ⟨(0, _), trivial, ⟨Nat.zero_le _, App.start 1 st⟩, ⟨?_, LV.le_refl _, LV.le_refl _, trivial⟩, trivial⟩
    show LV.le (.av (u64 s)) (.av (u64 (s / 256 ^ 0)))
    rw [Int.pow_zero, Int.ediv_one]
    exact LV.le_refl _
  · rintro ⟨i, v⟩ st' ⟨hi, ha⟩
    simp only at hi ha
    refine bcase_intro (fun h1 => ?_) (fun h1 => ?_)
    · have hlt : i < 8 := by simp at h1; omega
      refine ⟨by decide, ?_⟩
      refine appendK_app (ie := ti5) (rows' := [[.s (.int .u8 (IntKind.u8.wrap (s / 256 ^ i)))]]) ha ?_ ?_ ⟨?_, ?_⟩ (fun v2 st2 ha2 => ?_)
      · rfl
      · rfl
      · simp [rws_len, ti5]; omega
      · simp [rws_len]; omega
      · refine ⟨by decide, ?_⟩
        refine ⟨⟨by omega, by omega⟩, ?_⟩
        refine ⟨(i + 1, v2), ?_, ⟨hlt, ?_⟩, ⟨?_, LV.le_refl _, LV.le_refl _, trivial⟩, trivial⟩
        · show 8 - (i + 1) < 8 - i
          omega
        · show App 1 st v2 (rws u8C ((eightL s).take (i + 1))) st2
          rw [← eightL_snoc s hlt, ← rws_app]
          rw [lowB_wrap] at ha2
          exact ha2
        · show LV.le (.av (u64 ((s / 256 ^ i).fdiv (2 ^ (min (8 : Int).toNat IntKind.u64.bits))))) _
          rw [shr8]
          exact LV.le_refl _
    · have hge : i = 8 := by simp at h1; omega
      subst hge
      refine ⟨_, st, AV.le_trans ha.le ?_, ha.has, h⟩
      rw [List.take_of_length_le (by rw [eightL_len]; exact Nat.le_refl _)]
      exact AV.le_refl _
end Go.Proofs
namespace Go.Proofs
open Go Go.V
set_option linter.unusedVariables false

theorem startSum_spec2 (st : Store) (R : AV → Store → Prop) (h : R (u64 fnvStart) st) : ACalls Try.prog 46 [] st R := startSum_spec st R h

/-- 'wire.Raw' of what is no longer than it may be. -/
theorem raw_spec (l : List UInt8) (hl : l.length ≤ 1048576) (st : Store) (R : AV → Store → Prop) (h : R (.tup [byts (putZ l.length ++ l), int 0]) st) : ACalls Try.prog 42 [byts l] st R := by
  refine ACalls.of_body (c := cfg 12) infoOK Try.func42 (by rfl) (by rfl) (by rfl) (by rfl) ?_
  refine bcd (fun h1 => ?_) (fun h1 => ?_)
  · rw [rws_len] at h1
    omega
  refine putB (bs := []) _ (App.start 1 st) (by simp) (by rw [rws_len]; omega) (fun v st1 ha => ?_)
  rw [rws_len] at ha
  have := putZ_len (n := (l.length : Int)) (by omega)
  refine appB ha (l := l) (by rfl) (by simp; omega) (fun v2 st2 ha2 => ?_)
  exact retR h ha2.has (AV.le_tupL ⟨ha2.le, AV.le_refl _, trivial⟩)

theorem int_spec (n : Int) (hn : I62 n) (st : Store) (R : AV → Store → Prop) (h : R (.tup [byts (intZ n), int 0]) st) : ACalls Try.prog 88 [int n] st R := by
  refine ACalls.of_body (c := cfg 21) infoOK Try.func88 (by rfl) (by rfl) (by rfl) (by rfl) ?_
  unfold I62 at hn
  have fin : ∀ {v : AV} {st2 : Store} {l : List UInt8}, App 1 st v (rowsB ([] ++ l)) st2 → l = intZ n → ∃ r st', AV.le (.tup [v, int 0]) r ∧ st2.Has st' ∧ R r st' := by
    rintro v st2 l ha rfl
    exact retR h ha.has (AV.le_tupL ⟨ha.le, AV.le_refl _, trivial⟩)
  refine bcd (fun h1 => ?_) (fun h1 => ?_)
  · exact absurd h1 (Int.not_lt.2 (Int.le_of_lt hn.1))
  refine bcd (fun h1 => absurd h1 (Int.not_le.2 hn.2)) (fun h1 => ?_)
  refine bcd (fun h2 => ?_) (fun h2 => ?_)
  · have r1 : InI64 ((-2 : Int) * n) := ⟨by omega, by omega⟩
    have r2 : InI64 ((-2 : Int) * n - 1) := ⟨by omega, by omega⟩
    refine ⟨r1, r2, ?_⟩
    refine putB (bs := []) ((-2 : Int) * n - 1) (App.start 1 st) (by simp) (by omega) (fun v st1 ha => ?_)
    exact fin ha (by unfold intZ; rw [if_pos h2])
  · refine ⟨⟨by omega, by omega⟩, ?_⟩
    refine putB (bs := []) _ (App.start 1 st) (by simp) (by omega) (fun v st1 ha => ?_)
    exact fin ha (by unfold intZ; rw [if_neg h2])

theorem mapLay_spec (g : Gnd) (hg : gndP g) (st : Store) (R : AV → Store → Prop) (h : R (byts (gndL g)) st) : ACalls Try.prog 43 [.agg (gndC g)] st R := by
  refine ACalls.of_body (c := cfg 21 [4] []) infoOK Try.func43 (by rfl) (by rfl) (by rfl) (by rfl) ?_
  obtain ⟨h1, h2, h3, _⟩ := hg
  have hm := side_mul h1 h2
  have hw := putZ_len (n := g.W) (by omega)
  have hh := putZ_len (n := g.H) (by omega)
  refine ADraw.of_sched infoOK (by rfl) (by rfl) sch43_1 (by rfl) ?_
  refine ⟨⟨by decide, fun b hb => ⟨(by repeat (first | exact trivial | refine ⟨rfl, ?_⟩ | refine ⟨optR (optR (optR (optK_intro _ (setObj_self _ _ _) rfl))), ?_⟩)), ?_⟩⟩, trivial⟩
  refine ⟨optR (optR (optR (optK_intro _ (setTok_self _ _ _) ⟨(by repeat (first | exact trivial | refine ⟨rfl, ?_⟩ | refine ⟨optR (optR (optR (optK_intro _ (setObj_self _ _ _) rfl))), ?_⟩)), ?_⟩))), trivial⟩
  refine ⟨putB (bs := [84, 71]) _ (app_of_tok hb (by simp [rws])) (by simp) (by omega) (fun v st1 ha => ⟨(by repeat (first | exact trivial | refine ⟨rfl, ?_⟩ | refine ⟨optR (optR (optR (optK_intro _ (setObj_self _ _ _) rfl))), ?_⟩)), ?_⟩), trivial⟩
  refine ⟨putB _ ha (by simp; omega) (by omega) (fun v st1 ha => ⟨(by repeat (first | exact trivial | refine ⟨rfl, ?_⟩ | refine ⟨optR (optR (optR (optK_intro _ (setObj_self _ _ _) rfl))), ?_⟩)), ?_⟩), trivial⟩
  refine ⟨appB ha (l := g.T) (by rfl) (by simp; omega) (fun v st1 ha => ⟨(by repeat (first | exact trivial | refine ⟨rfl, ?_⟩ | refine ⟨optR (optR (optR (optK_intro _ (setObj_self _ _ _) rfl))), ?_⟩)), ?_⟩), trivial⟩
  refine ⟨⟨trivial, ?_⟩, trivial⟩
  refine startSum_spec _ _ ?_
  have e : ([84, 71] ++ putZ g.W ++ putZ g.H ++ g.T) = signL g := rfl
  rw [e] at ha
  have hl : (signL g).length ≤ 20000 := by simp only [← e, List.length_append, List.length_cons, List.length_nil]; omega
  refine fnvSumV _ ha.le (by omega) ?_
  refine fnvBytes_spec _ _ _ ?_
  refine appB ha (l := eightL (fnvSum fnvStart (signL g))) (by rfl) (by rw [eightL_len]; omega) (fun v st1 ha => ?_)
  exact retR h ha.has ha.le

theorem list_spec (l : List Int) (hl : l.length ≤ 64) (hn : ∀ n ∈ l, I64 n) {st0 st : Store} {v : AV} {bs : List UInt8} (ha : App 1 st0 v (rowsB bs) st) (hr : bs.length ≤ 90000000000000) {R : AV → Store → Prop}
    (h : ∀ v' st', App 1 st0 v' (rowsB (bs ++ idsL l)) st' → R v' st') : ACalls Try.prog 89 [v, ints l] st R := by
  refine ACalls.of_body (c := cfg 22) infoOK Try.func89 (by rfl) (by rfl) (by rfl) (by rfl) ?_
  have h9 := putZ_len (n := (l.length : Int)) (by omega)
  refine putB _ ha (by omega) (by rw [rws_len]; omega) (fun v st1 ha => ?_)
  rw [rws_len] at ha
  refine AWp.loop (σ := Nat × AV) ⟨fun s => [(0, .av s.2), (11, .av (ints l)), (12, .av (int l.length)), (13, .av (int s.1))], fun _ => [], fun s st' => s.1 ≤ l.length ∧ App 1 st0 s.2 (rowsB (bs ++ putZ l.length ++ numsL (l.take s.1))) st', fun s => l.length - s.1⟩ infoOK ?_ ?_
  · refine ⟨(0, v), trivial, ⟨Nat.zero_le _, by simpa [numsL] using ha⟩, ⟨LV.le_refl _, LV.le_refl _, ?_, LV.le_refl _, trivial⟩, trivial⟩
    rw [← rws_len (f := intC) l]
    exact LV.le_refl _
  · rintro ⟨i, v⟩ st' ⟨hi, ha⟩
    simp only at hi ha
    refine bcd (fun h1 => ?_) (fun h1 => ?_)
    · have hlt : i < l.length := by omega
      refine ⟨i, rfl, optK_intro _ (rws_get hlt) ?_⟩
      have hlen := numsL_len (l := l.take i) fun n hn' => (hn n (List.mem_of_mem_take hn')).2
      rw [List.length_take] at hlen
      refine putB _ ha (by simp; omega) (hn _ (List.getElem_mem hlt)).2 (fun v st1 ha => ?_)
      refine ⟨⟨by omega, by omega⟩, ?_⟩
      refine ⟨(i + 1, v), ?_, ⟨hlt, ?_⟩, ⟨LV.le_refl _, LV.le_refl _, LV.le_refl _, LV.le_refl _, trivial⟩, trivial⟩
      · show l.length - (i + 1) < l.length - i
        omega
      · rw [numsL_take hlt, ← List.append_assoc]
        exact ha
    · obtain rfl : i = l.length := by omega
      rw [List.take_length, List.append_assoc] at ha
      exact ret (h _ _ ha)

/-- The numbers that 'Lay' lays, into its own variable. -/
theorem layPut_spec (l : List Int) (hl : l.length ≤ 64) (hn : ∀ n ∈ l, I64 n) {p : Nat} {st0 st : Store} {v : AV} {bs : List UInt8} (ha : App 1 (st0.setObj p (.cells [v])) v (rowsB bs) st) (hr : bs.length ≤ 90000000000000) {R : AV → Store → Prop}
    (h : ∀ v' st', App 1 (st0.setObj p (.cells [v'])) v' (rowsB (bs ++ numsL l)) st' → R (.tup []) st') : ACalls Try.prog 87 [ints l, .s (.pointer (some ⟨p, 0, none⟩))] st R := by
  refine ACalls.of_body (c := cfg 15) infoOK Try.func87 (by rfl) (by rfl) (by rfl) (by rfl) ?_
  refine AWp.loop (σ := Nat × AV) ⟨fun s => [(1, .av (.s (.pointer (some ⟨p, 0, none⟩)))), (5, .av (ints l)), (6, .av (int l.length)), (7, .av (int s.1))], fun _ => [], fun s st' => s.1 ≤ l.length ∧ App 1 (st0.setObj p (.cells [s.2])) s.2 (rowsB (bs ++ numsL (l.take s.1))) st', fun s => l.length - s.1⟩ infoOK ?_ ?_
  · refine ⟨(0, v), trivial, ⟨Nat.zero_le _, by simpa [numsL] using ha⟩, ⟨LV.le_refl _, LV.le_refl _, ?_, LV.le_refl _, trivial⟩, trivial⟩
    rw [← rws_len (f := intC) l]
    exact LV.le_refl _
  · rintro ⟨i, v⟩ st' ⟨hi, ha⟩
    simp only at hi ha
    refine bcd (fun h1 => ?_) (fun h1 => ?_)
    · have hlt : i < l.length := by omega
      refine ⟨i, rfl, optK_intro _ (rws_get hlt) ?_⟩
      refine optK_intro _ ha.read ?_
      have hlen := numsL_len (l := l.take i) fun n hn' => (hn n (List.mem_of_mem_take hn')).2
      rw [List.length_take] at hlen
      refine putB _ ha (by simp; omega) (hn _ (List.getElem_mem hlt)).2 (fun v st1 ha => ?_)
      refine storeK_obj ha.cells ha.one (by rfl) ha.read (Nat.le_refl _) ?_
      refine ⟨⟨by omega, by omega⟩, ?_⟩
      refine ⟨(i + 1, v), ?_, ⟨hlt, ?_⟩, ⟨LV.le_refl _, LV.le_refl _, LV.le_refl _, LV.le_refl _, trivial⟩, trivial⟩
      · show l.length - (i + 1) < l.length - i
        omega
      · rw [numsL_take hlt, ← List.append_assoc]
        exact ha.setObj
    · obtain rfl : i = l.length := by omega
      rw [List.take_length] at ha
      exact ret (h _ _ ha)
end Go.Proofs
namespace Go.Proofs
open Go Go.V
set_option linter.unusedVariables false

theorem numsL1 (a : Int) : numsL [a] = putZ a := by simp [numsL]
theorem numsL2 (a b : Int) : numsL [a, b] = putZ a ++ putZ b := by simp [numsL]
theorem numsL3 (a b c : Int) : numsL [a, b, c] = putZ a ++ putZ b ++ putZ c := by simp [numsL]

set_option maxHeartbeats 1000000 in
theorem cmdLay_spec (c : Cmd) (hc : c.nums) {st0 st : Store} {v : AV} {bs : List UInt8} (ha : App 1 st0 v (rowsB bs) st) (hr : bs.length ≤ 80000000000000) {R : AV → Store → Prop}
    (h : ∀ v' st', App 1 st0 v' (rowsB (bs ++ cmdL c)) st' → R v' st') : ACalls Try.prog 47 [v, .agg (cmdC c)] st R := by
  refine ACalls.of_body (c := cfg 104 [2] []) infoOK Try.func47 (by rfl) (by rfl) (by rfl) (by rfl) ?_
  have hlen := cmdL_len hc
  obtain ⟨c1, c2, c3, c4, c5, c6, c7, c8, c9, c10, c11⟩ := hc
  refine optR (optK_intro _ ha.cells fun p hp => ?_)
  have hb := ha.boxed hp (x := .cells [v])
  have h0 := ha.fresh hp
  have fin : ∀ {v2 : AV} {st2 : Store} {l : List UInt8}, App 1 (st0.setObj p (.cells [v2])) v2 (rowsB l) st2 → l = bs ++ cmdL c → ∃ r st', AV.le v2 r ∧ st2.Has st' ∧ R r st' := by
    rintro v2 st2 l hA rfl
    obtain ⟨st3, h3, h4⟩ := hA.dropObj h0
    exact retR (h _ _ h3) h4 (AV.le_refl _)
  clear ha
  refine ⟨by decide, ?_⟩
  refine layPut_spec [c.K, c.P, c.S] (by simp) (by simp; exact ⟨c1, c2, c3⟩) hb (by omega) (fun v st ha => ?_)
  rw [numsL3] at ha
  have l1 := putZ_len c1.2
  have l2 := putZ_len c2.2
  have l3 := putZ_len c3.2
  refine bceq (fun k1 => ?_) (fun k1 => ?_)
  · have t : tailL c = putZ c.N ++ intZ c.X ++ intZ c.Y := by unfold tailL; simp [k1]
    refine ⟨by decide, ?_⟩
    refine layPut_spec [c.N] (by simp) (by simp; exact c4) ha (by simp; omega) (fun v st ha => ?_)
    refine int_spec c.X c8 _ _ ?_
    refine int_spec c.Y c9 _ _ ?_
    first | refine optK_intro _ (ha.read) ?_ | refine optR (optK_intro _ (ha.read) ?_) | refine optR (optR (optK_intro _ (ha.read) ?_))
    have l4 := putZ_len c4.2
    have l5 := intZ_len c8
    have l6 := intZ_len c9
    have l7 := congrArg List.length (numsL1 c.N)
    refine appB ha (l := intZ c.X) (by rfl) (by simp; omega) (fun v st ha => ?_)
    refine appB ha (l := intZ c.Y) (by rfl) (by simp; omega) (fun v st ha => ?_)
    refine storeK_obj ha.cells ha.one (by rfl) ha.read (Nat.le_refl _) ?_
    first | refine optK_intro _ (setObj_self _ _ _) ?_ | refine optR (optK_intro _ (setObj_self _ _ _) ?_) | refine optR (optR (optK_intro _ (setObj_self _ _ _) ?_))
    exact fin ha.setObj (by simp [cmdL, t, numsL])
  refine bceq (fun k2 => ?_) (fun k2 => ?_)
  · have t : tailL c = idsL c.U ++ putZ c.T := by unfold tailL; simp [k2]
    first | refine optK_intro _ (ha.read) ?_ | refine optR (optK_intro _ (ha.read) ?_) | refine optR (optR (optK_intro _ (ha.read) ?_))
    refine list_spec c.U c10 c11 ha (by simp; omega) (fun v st ha => ?_)
    refine storeK_obj ha.cells ha.one (by rfl) ha.read (Nat.le_refl _) ?_
    have l4 := idsL_len c10 c11
    refine ⟨by decide, ?_⟩
    refine layPut_spec [c.T] (by simp) (by simp; exact c5) ha.setObj (by simp; omega) (fun v st ha => ?_)
    first | refine optK_intro _ (ha.read) ?_ | refine optR (optK_intro _ (ha.read) ?_) | refine optR (optR (optK_intro _ (ha.read) ?_))
    exact fin ha (by simp [cmdL, t, numsL])
  refine bceq (fun k3 => ?_) (fun k3 => ?_)
  · have t : tailL c = idsL c.U := by unfold tailL; simp [k3]
    first | refine optK_intro _ (ha.read) ?_ | refine optR (optK_intro _ (ha.read) ?_) | refine optR (optR (optK_intro _ (ha.read) ?_))
    refine list_spec c.U c10 c11 ha (by simp; omega) (fun v st ha => ?_)
    refine storeK_obj ha.cells ha.one (by rfl) ha.read (Nat.le_refl _) ?_
    first | refine optK_intro _ (setObj_self _ _ _) ?_ | refine optR (optK_intro _ (setObj_self _ _ _) ?_) | refine optR (optR (optK_intro _ (setObj_self _ _ _) ?_))
    exact fin ha.setObj (by simp [cmdL, t, numsL])
  refine bceq (fun k4 => ?_) (fun k4 => ?_)
  · have t : tailL c = putZ c.T ++ putZ c.W ++ putZ c.H := by unfold tailL; simp [k4]
    refine ⟨by decide, ?_⟩
    refine layPut_spec [c.T, c.W, c.H] (by simp) (by simp; exact ⟨c5, c6, c7⟩) ha (by simp; omega) (fun v st ha => ?_)
    first | refine optK_intro _ (ha.read) ?_ | refine optR (optK_intro _ (ha.read) ?_) | refine optR (optR (optK_intro _ (ha.read) ?_))
    exact fin ha (by simp [cmdL, t, numsL])
  refine bceq (fun k5 => ?_) (fun k5 => ?_)
  · have t : tailL c = putZ c.N := by unfold tailL; simp [k5]
    refine ⟨by decide, ?_⟩
    refine layPut_spec [c.N] (by simp) (by simp; exact c4) ha (by simp; omega) (fun v st ha => ?_)
    first | refine optK_intro _ (ha.read) ?_ | refine optR (optK_intro _ (ha.read) ?_) | refine optR (optR (optK_intro _ (ha.read) ?_))
    exact fin ha (by simp [cmdL, t, numsL])
  refine bceq (fun k6 => ?_) (fun k6 => ?_)
  · have t : tailL c = idsL c.U ++ putZ c.N := by unfold tailL; simp [k6]
    first | refine optK_intro _ (ha.read) ?_ | refine optR (optK_intro _ (ha.read) ?_) | refine optR (optR (optK_intro _ (ha.read) ?_))
    refine list_spec c.U c10 c11 ha (by simp; omega) (fun v st ha => ?_)
    refine storeK_obj ha.cells ha.one (by rfl) ha.read (Nat.le_refl _) ?_
    have l4 := idsL_len c10 c11
    refine ⟨by decide, ?_⟩
    refine layPut_spec [c.N] (by simp) (by simp; exact c4) ha.setObj (by simp; omega) (fun v st ha => ?_)
    first | refine optK_intro _ (ha.read) ?_ | refine optR (optK_intro _ (ha.read) ?_) | refine optR (optR (optK_intro _ (ha.read) ?_))
    exact fin ha (by simp [cmdL, t, numsL])
  refine bceq (fun k7 => ?_) (fun k7 => ?_)
  · have t : tailL c = putZ c.N ++ putZ c.T := by unfold tailL; simp [k7]
    refine ⟨by decide, ?_⟩
    refine layPut_spec [c.N, c.T] (by simp) (by simp; exact ⟨c4, c5⟩) ha (by simp; omega) (fun v st ha => ?_)
    first | refine optK_intro _ (ha.read) ?_ | refine optR (optK_intro _ (ha.read) ?_) | refine optR (optR (optK_intro _ (ha.read) ?_))
    exact fin ha (by simp [cmdL, t, numsL])
  · have t : tailL c = [] := by unfold tailL; simp [k1, k2, k3, k4, k5, k6, k7]
    first | refine optK_intro _ (ha.read) ?_ | refine optR (optK_intro _ (ha.read) ?_) | refine optR (optR (optK_intro _ (ha.read) ?_))
    exact fin ha (by simp [cmdL, t])
end Go.Proofs
namespace Go.Proofs
open Go Go.V
set_option linter.unusedVariables false

/-- A reference's number, in memory of its own. -/
theorem num3_own (n : Int) (hn : I64 n) {st : Store} {R : AV → Store → Prop} (h : ∀ v st', App 1 st v (rowsB (putZ n)) st' → R v st') : ACalls Try.prog 97 [int n] st R := by
  refine ACalls.of_body (c := cfg 20) infoOK Try.func97 (by rfl) (by rfl) (by rfl) (by rfl) ?_
  refine AWp.loop (σ := AV × Int × List UInt8) ⟨fun s => [(3, .av s.1), (0, .av (int s.2.1))], fun _ => [], fun s st' => App 1 st s.1 (rowsB s.2.2) st' ∧ s.2.2 ++ putZ s.2.1 = putZ n ∧ I64 s.2.1, fun s => s.2.1.toNat⟩ infoOK ?_ ?_
  · exact ⟨(_, n, []), trivial, ⟨App.start 1 st, rfl, hn⟩, ⟨LV.le_refl _, LV.le_refl _, trivial⟩, trivial⟩
  · rintro ⟨v, m, bs⟩ st1 ⟨ha, heq, hm⟩
    dsimp only at ha heq hm ⊢
    unfold I64 at hm
    have hlen : bs.length ≤ 9 := by
      have h1 := congrArg List.length heq
      simp only [List.length_append] at h1
      have := putZ_len hn.2
      omega
    refine bcd (fun h1 => ?_) (fun h1 => ?_)
    · refine ⟨by decide, by decide, ?_⟩
      refine appB ha (l := [lowB m ||| 128]) ?_ (by simp; omega) (fun v st2 ha => ?_)
      · show some [[AV.s (.int .u8 (bitsOf .or .u8 (IntKind.u8.wrap (m.tmod 128)) 128))]] = _
        rw [or128, lowB_mod _ (by omega)]
        rfl
      refine ⟨by decide, ⟨?_, ?_⟩, ?_⟩
      · rw [Int.tdiv_eq_ediv_of_nonneg (by omega)]; omega
      · rw [Int.tdiv_eq_ediv_of_nonneg (by omega)]; omega
      refine ⟨(v, m / 128, bs ++ [lowB m ||| 128]), ?_, ⟨ha, ?_, ?_⟩, ⟨LV.le_refl _, ?_, trivial⟩, trivial⟩
      · show (m / 128).toNat < m.toNat
        omega
      · simp only
        rw [← heq, putZ_big h1, List.append_assoc]
        rfl
      · show I64 (m / 128)
        unfold I64; omega
      · show LV.le (.av (int (m.tdiv 128))) (.av (int (m / 128)))
        rw [Int.tdiv_eq_ediv_of_nonneg (by omega)]
        exact LV.le_refl _
    · refine ⟨by decide, ?_⟩
      refine appB ha (l := [lowB m]) ?_ (by simp; omega) (fun v st2 ha => ?_)
      · show some [[AV.s (.int .u8 (IntKind.u8.wrap m))]] = _
        rw [lowB_wrap]
        rfl
      rw [← putZ_small (by omega), heq] at ha
      exact ret (h _ _ ha)

theorem num3_spec (n : Int) (hn : I64 n) {st : Store} {R : AV → Store → Prop} (h : R (byts (putZ n)) st) : ACalls Try.prog 97 [int n] st R :=
  ACalls.lessen (num3_own n hn fun v st' ha => ⟨_, _, ha.le, ha.has, h⟩)

theorem int3_spec (n : Int) (hn : I62 n) {st : Store} {R : AV → Store → Prop} (h : R (byts (intZ n)) st) : ACalls Try.prog 98 [int n] st R := by
  refine ACalls.of_body (c := cfg 12) infoOK Try.func98 (by rfl) (by rfl) (by rfl) (by rfl) ?_
  unfold I62 at hn
  unfold intZ at h
  refine bcd (fun h1 => ?_) (fun h1 => ?_)
  · rw [if_pos h1] at h
    have r1 : InI64 ((-2 : Int) * n) := ⟨by omega, by omega⟩
    have r2 : InI64 ((-2 : Int) * n - 1) := ⟨by omega, by omega⟩
    refine ⟨r1, r2, ?_⟩
    exact num3_spec ((-2 : Int) * n - 1) (by unfold I64; omega) (ret h)
  · rw [if_neg h1] at h
    refine ⟨⟨by omega, by omega⟩, ?_⟩
    exact num3_spec (2 * n) (by unfold I64; omega) (ret h)

theorem eight3_spec (s : Int) {st : Store} {R : AV → Store → Prop} (h : R (byts (eightL s)) st) : ACalls Try.prog 55 [u64 s] st R := by
  refine ACalls.of_body (c := cfg 18) infoOK Try.func55 (by rfl) (by rfl) (by rfl) (by rfl) ?_
  refine AWp.loop (σ := Nat × AV) ⟨fun x => [(0, .av (u64 s)), (3, .av x.2), (4, .av (int (x.1 : Nat)))], fun _ => [],
    fun x st' => x.1 ≤ 8 ∧ App 1 st x.2 (rowsB ((eightL s).take x.1)) st', fun x => 8 - x.1⟩ infoOK ?_ ?_
  · exact ⟨(0, _), trivial, ⟨Nat.zero_le _, App.start 1 st⟩, ⟨LV.le_refl _, LV.le_refl _, LV.le_refl _, trivial⟩, trivial⟩
  · rintro ⟨i, v⟩ st' ⟨hi, ha⟩
    simp only at hi ha
    refine bcd (fun h1 => ?_) (fun h1 => ?_)
    · have hlt : i < 8 := by omega
      refine ⟨⟨by omega, by omega⟩, ⟨by omega, ?_⟩⟩
      refine ⟨by decide, ?_⟩
      refine appB ha (l := [lowB (s / 256 ^ i)]) ?_ (by simp; omega) (fun v st2 ha => ?_)
      · show some [[AV.s (.int .u8 (IntKind.u8.wrap (s.fdiv (2 ^ (min ((8 : Int) * (i : Int)).toNat IntKind.u64.bits)))))]] = _
        rw [shr8i s i hlt, lowB_wrap]
        rfl
      refine ⟨⟨by omega, by omega⟩, ?_⟩
      refine ⟨(i + 1, v), ?_, ⟨hlt, ?_⟩, ⟨LV.le_refl _, LV.le_refl _, LV.le_refl _, trivial⟩, trivial⟩
      · show 8 - (i + 1) < 8 - i
        omega
      · rw [eightL_snoc s hlt] at ha
        exact ha
    · have hge : i = 8 := by omega
      subst hge
      rw [List.take_of_length_le (by rw [eightL_len]; exact Nat.le_refl _)] at ha
      exact retR h ha.has ha.le

theorem sum3_spec (s : Int) {l : List UInt8} {v : AV} (hv : AV.le v (byts l)) (hl : l.length ≤ 1000000000000) {st : Store} {R : AV → Store → Prop} (h : R (u64 (fnvSum s l)) st) : ACalls Try.prog 56 [u64 s, v] st R := by
  refine ACalls.le (ys := [u64 s, byts l]) ⟨AV.le_refl _, hv, trivial⟩ ?_
  refine ACalls.of_body (c := cfg 21) infoOK Try.func56 (by rfl) (by rfl) (by rfl) (by rfl) ?_
  refine AWp.loop (σ := Nat) ⟨fun i => [(0, .av (u64 (fnvSum s (l.take i)))), (1, .av (byts l)), (5, .av (int (i : Nat)))], fun _ => [],
    fun i st' => i ≤ l.length ∧ st' = st, fun i => l.length - i⟩ infoOK ?_ ?_
  · exact ⟨0, trivial, ⟨Nat.zero_le _, rfl⟩, ⟨LV.le_refl _, LV.le_refl _, LV.le_refl _, trivial⟩, trivial⟩
  · rintro i st' ⟨hi, rfl⟩
    refine bcase_intro (fun h1 => ?_) (fun h1 => ?_)
    · have hlt : i < l.length := lt_len h1
      refine ⟨i, rfl, optK_intro _ (rws_get hlt) ?_⟩
      refine ⟨⟨by omega, by omega⟩, ?_⟩
      refine ⟨i + 1, ?_, ⟨hlt, rfl⟩, ⟨?_, LV.le_refl _, LV.le_refl _, trivial⟩, trivial⟩
      · show l.length - (i + 1) < l.length - i
        omega
      · rw [fnvSum_take hlt]
        exact LV.le_refl _
    · have hge : i = l.length := ge_len h1 hi
      subst hge
      exact ret (by rw [List.take_length]; exact h)

theorem mapBytes5_spec (g : Gnd) (hg : gndP g) {st : Store} {R : AV → Store → Prop} (h : R (byts (gndL g)) st) : ACalls Try.prog 96 [.agg (gndC g)] st R := by
  refine ACalls.of_body (c := cfg 23 [4] []) infoOK Try.func96 (by rfl) (by rfl) (by rfl) (by rfl) ?_
  have hs := (gndL_len hg).1
  obtain ⟨h1, h2, h3, _⟩ := hg
  have hm := side_mul h1 h2
  have hw := putZ_len (n := g.W) (by omega)
  have hh := putZ_len (n := g.H) (by omega)
  refine ⟨by decide, fun b hb => ?_⟩
  refine num3_spec _ (by unfold I64; omega) ?_
  refine appB (bs := [84, 71]) (app_of_tok hb (by simp)) (l := putZ g.W) (by rfl) (by simp; omega) (fun v st1 ha => ?_)
  refine num3_spec _ (by unfold I64; omega) ?_
  refine appB ha (l := putZ g.H) (by rfl) (by simp; omega) (fun v st1 ha => ?_)
  refine appB ha (l := g.T) (by rfl) (by simp; omega) (fun v st1 ha => ?_)
  have e : ([84, 71] ++ putZ g.W ++ putZ g.H ++ g.T) = signL g := rfl
  rw [e] at ha
  refine sum3_spec _ ha.le (by omega) ?_
  refine eight3_spec _ ?_
  refine appB ha (l := eightL (fnvSum fnvStart (signL g))) (by rfl) (by rw [eightL_len]; omega) (fun v st1 ha => ?_)
  exact retR h ha.has ha.le

theorem units21_spec (l : List Int) (hl : l.length ≤ 64) (hn : ∀ n ∈ l, I64 n) {st : Store} {R : AV → Store → Prop} (h : R (byts (idsL l)) st) : ACalls Try.prog 99 [ints l] st R := by
  refine ACalls.of_body (c := cfg 22) infoOK Try.func99 (by rfl) (by rfl) (by rfl) (by rfl) ?_
  refine num3_own _ (by rw [rws_len]; unfold I64; omega) (fun v st1 ha => ?_)
  rw [rws_len] at ha
  have h9 := putZ_len (n := (l.length : Int)) (by omega)
  refine AWp.loop (σ := Nat × AV) ⟨fun s => [(0, .av (ints l)), (3, .av s.2), (4, .av (int s.1))], fun _ => [], fun s st' => s.1 ≤ l.length ∧ App 1 st s.2 (rowsB (putZ l.length ++ numsL (l.take s.1))) st', fun s => l.length - s.1⟩ infoOK ?_ ?_
  · exact ⟨(0, v), trivial, ⟨Nat.zero_le _, by simpa [numsL] using ha⟩, ⟨LV.le_refl _, LV.le_refl _, LV.le_refl _, trivial⟩, trivial⟩
  · rintro ⟨i, v⟩ st' ⟨hi, ha⟩
    simp only at hi ha
    refine bcase_intro (fun h1 => ?_) (fun h1 => ?_)
    · have hlt : i < l.length := lt_len h1
      refine ⟨i, rfl, optK_intro _ (rws_get hlt) ?_⟩
      have hlen := numsL_len (l := l.take i) fun n hn' => (hn n (List.mem_of_mem_take hn')).2
      rw [List.length_take] at hlen
      have hni := hn _ (List.getElem_mem hlt)
      have := putZ_len hni.2
      refine num3_spec _ hni ?_
      refine appB ha (l := putZ l[i]) (by rfl) (by simp; omega) (fun v st1 ha => ?_)
      refine ⟨⟨by omega, by omega⟩, ?_⟩
      refine ⟨(i + 1, v), ?_, ⟨hlt, ?_⟩, ⟨LV.le_refl _, LV.le_refl _, LV.le_refl _, trivial⟩, trivial⟩
      · show l.length - (i + 1) < l.length - i
        omega
      · rw [numsL_take hlt, ← List.append_assoc]
        exact ha
    · have hge : i = l.length := ge_len h1 hi
      subst hge
      rw [List.take_length] at ha
      exact retR h ha.has ha.le

theorem put26_spec (l : List Int) (hn : ∀ n ∈ l, I64 n) {st0 st : Store} {v : AV} {bs : List UInt8} (ha : App 1 st0 v (rowsB bs) st) (hr : bs.length + 9 * l.length ≤ 90000000000000) {R : AV → Store → Prop}
    (h : ∀ v' st', App 1 st0 v' (rowsB (bs ++ numsL l)) st' → R v' st') : ACalls Try.prog 53 [v, ints l] st R := by
  refine ACalls.of_body (c := cfg 20) infoOK Try.func53 (by rfl) (by rfl) (by rfl) (by rfl) ?_
  refine AWp.loop (σ := Nat × AV) ⟨fun s => [(0, .av s.2), (1, .av (ints l)), (5, .av (int s.1))], fun _ => [], fun s st' => s.1 ≤ l.length ∧ App 1 st0 s.2 (rowsB (bs ++ numsL (l.take s.1))) st', fun s => l.length - s.1⟩ infoOK ?_ ?_
  · exact ⟨(0, v), trivial, ⟨Nat.zero_le _, by simpa [numsL] using ha⟩, ⟨LV.le_refl _, LV.le_refl _, LV.le_refl _, trivial⟩, trivial⟩
  · rintro ⟨i, v⟩ st' ⟨hi, ha⟩
    simp only at hi ha
    refine bcase_intro (fun h1 => ?_) (fun h1 => ?_)
    · have hlt : i < l.length := lt_len h1
      refine ⟨i, rfl, optK_intro _ (rws_get hlt) ?_⟩
      have hlen := numsL_len (l := l.take i) fun n hn' => (hn n (List.mem_of_mem_take hn')).2
      rw [List.length_take] at hlen
      have hni := hn _ (List.getElem_mem hlt)
      have := putZ_len hni.2
      refine num3_spec _ hni ?_
      refine appB ha (l := putZ l[i]) (by rfl) (by simp; omega) (fun v st1 ha => ?_)
      refine ⟨⟨by omega, by omega⟩, ?_⟩
      refine ⟨(i + 1, v), ?_, ⟨hlt, ?_⟩, ⟨LV.le_refl _, LV.le_refl _, LV.le_refl _, trivial⟩, trivial⟩
      · show l.length - (i + 1) < l.length - i
        omega
      · rw [numsL_take hlt, ← List.append_assoc]
        exact ha
    · have hge : i = l.length := ge_len h1 hi
      subst hge
      rw [List.take_length] at ha
      exact ret (h _ _ ha)

theorem raw26_spec (g : Gnd) (hg : gndP g) {st0 st : Store} {v : AV} {bs : List UInt8} (ha : App 1 st0 v (rowsB bs) st) (hr : bs.length ≤ 80000000000000) {R : AV → Store → Prop}
    (h : ∀ v' st', App 1 st0 v' (rowsB (bs ++ (putZ (gndL g).length ++ gndL g))) st' → R v' st') : ACalls Try.prog 52 [v, .agg (gndC g)] st R := by
  refine ACalls.of_body (c := cfg 15) infoOK Try.func52 (by rfl) (by rfl) (by rfl) (by rfl) ?_
  have hs := (gndL_len hg).2
  refine mapBytes5_spec g hg ?_
  refine ⟨by decide, ?_⟩
  refine put26_spec [((rowsB (gndL g)).length : Int)] ?_ ha (by simp; omega) (fun v st1 ha => ?_)
  · rw [rws_len]; simp; unfold I64; omega
  rw [rws_len, numsL1] at ha
  have h9 := putZ_len (n := ((gndL g).length : Int)) (by omega)
  refine appB ha (l := gndL g) (by rfl) (by simp; omega) (fun v st1 ha => ?_)
  rw [List.append_assoc] at ha
  exact ret (h _ _ ha)
end Go.Proofs
namespace Go.Proofs
open Go Go.V
set_option linter.unusedVariables false

set_option maxHeartbeats 1000000 in
theorem cmdBytes21_spec (c : Cmd) (hc : c.nums) {st : Store} {R : AV → Store → Prop} (h : R (byts (cmdL c)) st) : ACalls Try.prog 54 [.agg (cmdC c)] st R := by
  refine ACalls.of_body (c := cfg 102) infoOK Try.func54 (by rfl) (by rfl) (by rfl) (by rfl) ?_
  have hlen := cmdL_len hc
  obtain ⟨c1, c2, c3, c4, c5, c6, c7, c8, c9, c10, c11⟩ := hc
  have fin : ∀ {v2 : AV} {st2 : Store} {l : List UInt8}, App 1 st v2 (rowsB l) st2 → l = cmdL c → ∃ r st', AV.le v2 r ∧ st2.Has st' ∧ R r st' := by
    rintro v2 st2 l hA rfl
    exact retR h hA.has hA.le
  have l1 := putZ_len c1.2
  have l2 := putZ_len c2.2
  have l3 := putZ_len c3.2
  have l4 := putZ_len c4.2
  have l5 := putZ_len c5.2
  have l6 := putZ_len c6.2
  have l7 := putZ_len c7.2
  have l8 := intZ_len c8
  have l9 := intZ_len c9
  have l10 := idsL_len c10 c11
  refine ADraw.of_sched infoOK (by rfl) (by rfl) sch54_1 (by rfl) ?_
  refine ⟨num3_own c.K c1 (fun v st1 ha => ⟨(by repeat (first | exact trivial | refine ⟨rfl, ?_⟩ | refine ⟨optR (optR (optR (optK_intro _ (setObj_self _ _ _) rfl))), ?_⟩)), ?_⟩), trivial⟩
  refine ⟨num3_spec c.P c2 ⟨(by repeat (first | exact trivial | refine ⟨rfl, ?_⟩ | refine ⟨optR (optR (optR (optK_intro _ (setObj_self _ _ _) rfl))), ?_⟩)), ?_⟩, trivial⟩
  refine ⟨appB ha (l := putZ c.P) (by rfl) (by omega) (fun v st1 ha => ⟨(by repeat (first | exact trivial | refine ⟨rfl, ?_⟩ | refine ⟨optR (optR (optR (optK_intro _ (setObj_self _ _ _) rfl))), ?_⟩)), ?_⟩), trivial⟩
  refine ⟨⟨trivial, ?_⟩, trivial⟩
  refine num3_spec c.S c3 ?_
  refine appB ha (l := putZ c.S) (by rfl) (by simp; omega) (fun v st1 ha => ?_)
  refine bceq (fun k1 => ?_) (fun k1 => ?_)
  · have t : tailL c = putZ c.N ++ intZ c.X ++ intZ c.Y := by unfold tailL; simp [k1]
    refine num3_spec c.N c4 ?_
    refine appB ha (l := putZ c.N) (by rfl) (by simp; omega) (fun v st1 ha => ?_)
    refine int3_spec c.X c8 ?_
    refine appB ha (l := intZ c.X) (by rfl) (by simp; omega) (fun v st1 ha => ?_)
    refine int3_spec c.Y c9 ?_
    refine appB ha (l := intZ c.Y) (by rfl) (by simp; omega) (fun v st1 ha => ?_)
    exact fin ha (by simp [cmdL, t])
  refine bceq (fun k2 => ?_) (fun k2 => ?_)
  · have t : tailL c = idsL c.U ++ putZ c.T := by unfold tailL; simp [k2]
    refine ADraw.of_sched infoOK (by rfl) (by rfl) sch54_9 (by rfl) ?_
    refine ⟨units21_spec c.U c10 c11 ⟨(by repeat (first | exact trivial | refine ⟨rfl, ?_⟩ | refine ⟨optR (optR (optR (optK_intro _ (setObj_self _ _ _) rfl))), ?_⟩)), ?_⟩, trivial⟩
    refine ⟨appB ha (l := idsL c.U) (by rfl) (by simp; omega) (fun v st1 ha => ⟨(by repeat (first | exact trivial | refine ⟨rfl, ?_⟩ | refine ⟨optR (optR (optR (optK_intro _ (setObj_self _ _ _) rfl))), ?_⟩)), ?_⟩), trivial⟩
    refine ⟨num3_spec c.T c5 ⟨(by repeat (first | exact trivial | refine ⟨rfl, ?_⟩ | refine ⟨optR (optR (optR (optK_intro _ (setObj_self _ _ _) rfl))), ?_⟩)), ?_⟩, trivial⟩
    refine ⟨appB ha (l := putZ c.T) (by rfl) (by simp; omega) (fun v st1 ha => ⟨(by repeat (first | exact trivial | refine ⟨rfl, ?_⟩ | refine ⟨optR (optR (optR (optK_intro _ (setObj_self _ _ _) rfl))), ?_⟩)), ?_⟩), trivial⟩
    refine ⟨⟨trivial, ?_⟩, trivial⟩
    exact fin ha (by simp [cmdL, t])
  refine bceq (fun k3 => ?_) (fun k3 => ?_)
  · have t : tailL c = idsL c.U := by unfold tailL; simp [k3]
    refine units21_spec c.U c10 c11 ?_
    refine appB ha (l := idsL c.U) (by rfl) (by simp; omega) (fun v st1 ha => ?_)
    exact fin ha (by simp [cmdL, t])
  refine bceq (fun k4 => ?_) (fun k4 => ?_)
  · have t : tailL c = putZ c.T ++ putZ c.W ++ putZ c.H := by unfold tailL; simp [k4]
    refine num3_spec c.T c5 ?_
    refine appB ha (l := putZ c.T) (by rfl) (by simp; omega) (fun v st1 ha => ?_)
    refine num3_spec c.W c6 ?_
    refine appB ha (l := putZ c.W) (by rfl) (by simp; omega) (fun v st1 ha => ?_)
    refine num3_spec c.H c7 ?_
    refine appB ha (l := putZ c.H) (by rfl) (by simp; omega) (fun v st1 ha => ?_)
    exact fin ha (by simp [cmdL, t])
  refine bceq (fun k5 => ?_) (fun k5 => ?_)
  · have t : tailL c = putZ c.N := by unfold tailL; simp [k5]
    refine num3_spec c.N c4 ?_
    refine appB ha (l := putZ c.N) (by rfl) (by simp; omega) (fun v st1 ha => ?_)
    exact fin ha (by simp [cmdL, t])
  refine bceq (fun k6 => ?_) (fun k6 => ?_)
  · have t : tailL c = idsL c.U ++ putZ c.N := by unfold tailL; simp [k6]
    refine ADraw.of_sched infoOK (by rfl) (by rfl) sch54_19 (by rfl) ?_
    refine ⟨units21_spec c.U c10 c11 ⟨(by repeat (first | exact trivial | refine ⟨rfl, ?_⟩ | refine ⟨optR (optR (optR (optK_intro _ (setObj_self _ _ _) rfl))), ?_⟩)), ?_⟩, trivial⟩
    refine ⟨appB ha (l := idsL c.U) (by rfl) (by simp; omega) (fun v st1 ha => ⟨(by repeat (first | exact trivial | refine ⟨rfl, ?_⟩ | refine ⟨optR (optR (optR (optK_intro _ (setObj_self _ _ _) rfl))), ?_⟩)), ?_⟩), trivial⟩
    refine ⟨num3_spec c.N c4 ⟨(by repeat (first | exact trivial | refine ⟨rfl, ?_⟩ | refine ⟨optR (optR (optR (optK_intro _ (setObj_self _ _ _) rfl))), ?_⟩)), ?_⟩, trivial⟩
    refine ⟨appB ha (l := putZ c.N) (by rfl) (by simp; omega) (fun v st1 ha => ⟨(by repeat (first | exact trivial | refine ⟨rfl, ?_⟩ | refine ⟨optR (optR (optR (optK_intro _ (setObj_self _ _ _) rfl))), ?_⟩)), ?_⟩), trivial⟩
    refine ⟨⟨trivial, ?_⟩, trivial⟩
    exact fin ha (by simp [cmdL, t])
  refine bceq (fun k7 => ?_) (fun k7 => ?_)
  · have t : tailL c = putZ c.N ++ putZ c.T := by unfold tailL; simp [k7]
    refine ADraw.of_sched infoOK (by rfl) (by rfl) sch54_21 (by rfl) ?_
    refine ⟨num3_spec c.N c4 ⟨(by repeat (first | exact trivial | refine ⟨rfl, ?_⟩ | refine ⟨optR (optR (optR (optK_intro _ (setObj_self _ _ _) rfl))), ?_⟩)), ?_⟩, trivial⟩
    refine ⟨appB ha (l := putZ c.N) (by rfl) (by simp; omega) (fun v st1 ha => ⟨(by repeat (first | exact trivial | refine ⟨rfl, ?_⟩ | refine ⟨optR (optR (optR (optK_intro _ (setObj_self _ _ _) rfl))), ?_⟩)), ?_⟩), trivial⟩
    refine ⟨num3_spec c.T c5 ⟨(by repeat (first | exact trivial | refine ⟨rfl, ?_⟩ | refine ⟨optR (optR (optR (optK_intro _ (setObj_self _ _ _) rfl))), ?_⟩)), ?_⟩, trivial⟩
    refine ⟨appB ha (l := putZ c.T) (by rfl) (by simp; omega) (fun v st1 ha => ⟨(by repeat (first | exact trivial | refine ⟨rfl, ?_⟩ | refine ⟨optR (optR (optR (optK_intro _ (setObj_self _ _ _) rfl))), ?_⟩)), ?_⟩), trivial⟩
    refine ⟨⟨trivial, ?_⟩, trivial⟩
    exact fin ha (by simp [cmdL, t])
  · have t : tailL c = [] := by unfold tailL; simp [k1, k2, k3, k4, k5, k6, k7]
    exact fin ha (by simp [cmdL, t])

/-- The bytes of a replay that may be, and whether they are not too many. -/
theorem replayBytes26_spec (r : Rep) (hr : repP r) {st : Store} {R : AV → Store → Prop} (h : R (.tup [byts (repL r), bool (decide (((repL r).length : Int) ≤ 1048576))]) st) : ACalls Try.prog 16 [.agg (repC r)] st R := by
  refine ACalls.of_body (c := cfg 63 [8] []) infoOK Try.func16 (by rfl) (by rfl) (by rfl) (by rfl) ?_
  have hp := hr.1
  have hf := hr.2.2.1
  have l1 := putZ_len (n := r.P) (by omega)
  refine ADraw.of_sched infoOK (by rfl) (by rfl) sch16_1 (by rfl) ?_
  refine ⟨by decide, ?_⟩
  refine ⟨⟨by decide, fun b hb => ⟨(by repeat (first | exact trivial | refine ⟨rfl, ?_⟩ | refine ⟨optR (optR (optR (optK_intro _ (setObj_self _ _ _) rfl))), ?_⟩)), ?_⟩⟩, trivial⟩
  refine ⟨put26_spec [r.P] (by simp; unfold I64; omega) (bs := [84, 82]) (app_of_tok hb (by simp [rws])) (by simp) (fun v st1 ha => ⟨(by repeat (first | exact trivial | refine ⟨rfl, ?_⟩ | refine ⟨optR (optR (optR (optK_intro _ (setObj_self _ _ _) rfl))), ?_⟩)), ?_⟩), trivial⟩
  refine ⟨raw26_spec r.G hr.2.1 ha (by simp [numsL1]; omega) (fun v st1 ha => ⟨(by repeat (first | exact trivial | refine ⟨rfl, ?_⟩ | refine ⟨optR (optR (optR (optK_intro _ (setObj_self _ _ _) rfl))), ?_⟩)), ?_⟩), trivial⟩
  refine ⟨⟨trivial, ?_⟩, trivial⟩
  rw [numsL1] at ha
  refine AWp.loop (σ := Nat × AV) ⟨fun s => [(1, .bx 1 0), (4, .av s.2), (5, .av (int (s.1 : Nat)))], fun _ => [(1, repC r)],
    fun s st' => s.1 ≤ r.F.length ∧ App 1 st s.2 (rowsB (repTo r s.1)) st', fun s => r.F.length - s.1⟩ infoOK ?_ ?_
  · exact ⟨(0, v), trivial, ⟨Nat.zero_le _, ha⟩, ⟨LV.le_refl _, LV.le_refl _, LV.le_refl _, trivial⟩, (by repeat (first | exact trivial | refine ⟨rfl, ?_⟩ | refine ⟨optR (optR (optR (optK_intro _ (setObj_self _ _ _) rfl))), ?_⟩))⟩
  · rintro ⟨i, v⟩ st' ⟨hi, ha⟩
    dsimp only at hi ha ⊢
    have hle := repTo_len hr i hi
    refine bcase_intro (fun h1 => ?_) (fun h1 => ?_)
    · have hlt : i < r.F.length := lt_len h1
      have hfp := (hr.2.2.2 i hlt).2
      have hc := frmP_cmd hfp
      have l2 := putZ_len (n := (r.F[i].C.length : Int)) (by have := hfp.1; omega)
      have hc5 := hfp.1
      refine ⟨i, rfl, optK_intro _ (rws_get hlt) ?_⟩
      refine ⟨by decide, ?_⟩
      refine put26_spec [((rws cmdC r.F[i].C).length : Int)] (by rw [rws_len]; simp; unfold I64; omega) ha (by simp; omega) (fun v st1 ha => ?_)
      rw [rws_len, numsL1] at ha
      refine AWp.loop (σ := Nat × AV) ⟨fun s => [(1, .bx 1 0), (4, .av s.2), (5, .av (int (i : Nat))), (6, .bx 6 0), (7, .av (int (s.1 : Nat)))], fun _ => [(1, repC r), (6, frmC r.F[i])],
        fun s st' => s.1 ≤ r.F[i].C.length ∧ App 1 st s.2 (rowsB (repTo r i ++ putZ r.F[i].C.length ++ (r.F[i].C.take s.1).flatMap cmdL)) st', fun s => r.F[i].C.length - s.1⟩ infoOK ?_ ?_
      · exact ⟨(0, v), trivial, ⟨Nat.zero_le _, by simpa using ha⟩, ⟨LV.le_refl _, LV.le_refl _, LV.le_refl _, LV.le_refl _, LV.le_refl _, trivial⟩, (by repeat (first | exact trivial | refine ⟨rfl, ?_⟩ | refine ⟨optR (optR (optR (optK_intro _ (setObj_self _ _ _) rfl))), ?_⟩))⟩
      · rintro ⟨k, v⟩ st' ⟨hk, ha⟩
        dsimp only at hk ha ⊢
        have l3 := cmds_len (l := r.F[i].C.take k) fun c hc' => hc c (List.mem_of_mem_take hc')
        rw [List.length_take] at l3
        refine bcase_intro (fun h2 => ?_) (fun h2 => ?_)
        · have hklt : k < r.F[i].C.length := lt_len h2
          have hn := cmdP_nums (hc _ (List.getElem_mem hklt))
          have l4 := cmdL_len hn
          refine ⟨k, rfl, optK_intro _ (rws_get hklt) ?_⟩
          refine cmdBytes21_spec r.F[i].C[k] hn ?_
          refine appB ha (l := cmdL r.F[i].C[k]) (by rfl) (by simp only [List.length_append, List.length_cons, List.length_nil, List.length_take, eightL_len] at *; omega) (fun v st1 ha => ?_)
          refine ⟨⟨by omega, by omega⟩, ?_⟩
          refine ⟨(k + 1, v), ?_, ⟨hklt, ?_⟩, ⟨LV.le_refl _, LV.le_refl _, LV.le_refl _, LV.le_refl _, LV.le_refl _, trivial⟩, (by repeat (first | exact trivial | refine ⟨rfl, ?_⟩ | refine ⟨optR (optR (optR (optK_intro _ (setObj_self _ _ _) rfl))), ?_⟩))⟩
          · show r.F[i].C.length - (k + 1) < r.F[i].C.length - k
            omega
          · rw [cmds_take hklt, ← List.append_assoc]
            exact ha
        · have hge : k = r.F[i].C.length := ge_len h2 hk
          subst hge
          rw [List.take_length] at ha
          rw [List.take_length] at l3
          refine eight3_spec _ ?_
          refine appB ha (l := eightL r.F[i].hash) (by rfl) (by simp only [List.length_append, List.length_cons, List.length_nil, List.length_take, eightL_len] at *; omega) (fun v st1 ha => ?_)
          have e : repTo r i ++ putZ r.F[i].C.length ++ r.F[i].C.flatMap cmdL ++ eightL r.F[i].hash = repTo r i ++ frBody r.F[i] := by simp [frBody]
          rw [e] at ha
          have l5 := frBody_len hfp
          refine sum3_spec _ ha.le (by simp only [List.length_append, List.length_cons, List.length_nil, List.length_take, eightL_len] at *; omega) ?_
          refine eight3_spec _ ?_
          refine appB ha (l := eightL (fnvSum fnvStart (repTo r i ++ frBody r.F[i]))) (by rfl) (by simp only [List.length_append, List.length_cons, List.length_nil, List.length_take, eightL_len] at *; omega) (fun v st1 ha => ?_)
          refine ⟨⟨by omega, by omega⟩, ?_⟩
          refine ⟨(i + 1, v), ?_, ⟨hlt, ?_⟩, ⟨LV.le_refl _, LV.le_refl _, LV.le_refl _, trivial⟩, (by repeat (first | exact trivial | refine ⟨rfl, ?_⟩ | refine ⟨optR (optR (optR (optK_intro _ (setObj_self _ _ _) rfl))), ?_⟩))⟩
          · show r.F.length - (i + 1) < r.F.length - i
            omega
          · rw [repTo_succ hlt]
            exact ha
    · have hge : i = r.F.length := ge_len h1 hi
      subst hge
      rw [repTo_all] at ha
      obtain ⟨b, rfl⟩ := ha.lst (by intro e; have := congrArg List.length e; rw [rws_len] at this; have h5 := repL_pos r; simp at this; simp [this] at h5)
      rw [← rws_len (f := u8C)] at h
      exact retR h ha.has (AV.le_tupL ⟨ha.le, AV.le_refl _, trivial⟩)
end Go.Proofs
namespace Go.Proofs
open Go Go.V
set_option linter.unusedVariables false

theorem rowsB_ne {l : List UInt8} (h : 0 < l.length) : rowsB l ≠ [] := by
  intro e
  have := congrArg List.length e
  rw [rws_len] at this
  simp at this
  simp [this] at h

theorem repTo_pos (r : Rep) (i : Nat) : 2 ≤ (repTo r i).length := by
  have : 2 ≤ (headL r).length := by simp [headL]
  exact Nat.le_trans this (foldl_len _ _)

/-- The bytes of a replay. -/
theorem replayBytes_spec (r : Rep) (hf : r.fits) {st : Store} {R : AV → Store → Prop} (h0 : ¬ repP r → R (.tup [nil, int 1]) st) (h1 : repP r → (repL r).length ≤ 1048576 → R (.tup [byts (repL r), int 0]) st)
    (h2 : repP r → ¬ (repL r).length ≤ 1048576 → R (.tup [nil, int 2]) st) : ACalls Try.prog 13 [.agg (repC r)] st R := by
  refine ACalls.of_body (c := cfg 82 [24] []) infoOK Try.func13 (by rfl) (by rfl) (by rfl) (by rfl) ?_
  refine replayMay_spec r hf _ _ (yesno (fun hr => ?_) (fun hr => ret (h0 hr)))
  replace h1 := h1 hr
  replace h2 := h2 hr
  have hp := hr.1
  have hfl := hr.2.2.1
  have lr := putZ_len (n := r.P) (by omega)
  have lg := (gndL_len hr.2.1).2
  refine mapLay_spec r.G hr.2.1 _ _ ?_
  refine raw_spec _ (by omega) _ _ ?_
  refine ⟨by decide, fun b hb => ?_⟩
  refine optK_intro _ (setTok_self _ _ _) ?_
  refine putB (bs := [84, 82]) _ (app_of_tok hb (by simp [rws])) (by simp) (by omega) (fun v st1 ha => ?_)
  have lz := putZ_len (n := ((gndL r.G).length : Int)) (by omega)
  refine appB ha (l := putZ (gndL r.G).length ++ gndL r.G) (by rfl) (by simp only [List.length_append, List.length_cons, List.length_nil, List.length_take, eightL_len] at *; omega) (fun v st1 ha => ?_)
  have e0 : ([84, 82] ++ putZ r.P ++ (putZ (gndL r.G).length ++ gndL r.G)) = repTo r 0 := rfl
  rw [e0] at ha
  have hl0 := headL_len hr
  refine startSum_spec _ _ ?_
  refine fnvSumV _ ha.le (by have : (repTo r 0).length = (headL r).length := rfl; omega) ?_
  refine AWp.loop (σ := Nat × AV) ⟨fun s => [(6, .av s.2), (7, .av (u64 (fnvSum fnvStart (repTo r s.1)))), (35, .av (lst 3 frmC r.F)), (36, .av (int r.F.length)), (37, .av (int (s.1 : Nat)))], fun _ => [],
    fun s st' => s.1 ≤ r.F.length ∧ App 1 st s.2 (rowsB (repTo r s.1)) st' ∧ (repTo r s.1).length ≤ 1048576, fun s => r.F.length - s.1⟩ infoOK ?_ ?_
  · refine ⟨(0, v), trivial, ⟨Nat.zero_le _, ha, ?_⟩, ⟨LV.le_refl _, LV.le_refl _, LV.le_refl _, ?_, LV.le_refl _, trivial⟩, trivial⟩
    · have : (repTo r 0).length = (headL r).length := rfl
      show (repTo r 0).length ≤ 1048576
      omega
    · rw [← rws_len (f := frmC) r.F]
      exact LV.le_refl _
  · rintro ⟨i, v⟩ st' ⟨hi, ha, hle⟩
    dsimp only at hi ha hle ⊢
    refine bcd (fun h3 => ?_) (fun h3 => ?_)
    · have hlt : i < r.F.length := by omega
      have hfp := (hr.2.2.2 i hlt).2
      have hc := frmP_cmd hfp
      have hc5 := hfp.1
      have l2 := putZ_len (n := (r.F[i].C.length : Int)) (by omega)
      obtain ⟨b, rfl⟩ := ha.lst (rowsB_ne (by have := repTo_pos r i; omega))
      refine ⟨i, rfl, optK_intro _ (rws_get hlt) ?_⟩
      refine putB _ ha (by omega) (by rw [rws_len]; omega) (fun v st1 ha => ?_)
      rw [rws_len] at ha
      refine AWp.loop (σ := Nat × AV) ⟨fun s => [(6, .av s.2), (7, .av (u64 (fnvSum fnvStart (repTo r i)))), (9, .bx 9 0), (10, .av (int (repTo r i).length)), (35, .av (lst 3 frmC r.F)), (36, .av (int r.F.length)), (37, .av (int (i : Nat))), (49, .av (lst 10 cmdC r.F[i].C)), (50, .av (int r.F[i].C.length)), (51, .av (int (s.1 : Nat)))], fun _ => [(9, frmC r.F[i])],
        fun s st' => s.1 ≤ r.F[i].C.length ∧ App 1 st s.2 (rowsB (repTo r i ++ putZ r.F[i].C.length ++ (r.F[i].C.take s.1).flatMap cmdL)) st', fun s => r.F[i].C.length - s.1⟩ infoOK ?_ ?_
      · refine ⟨(0, v), trivial, ⟨Nat.zero_le _, by simpa using ha⟩, ⟨LV.le_refl _, LV.le_refl _, LV.le_refl _, ?_, LV.le_refl _, LV.le_refl _, LV.le_refl _, LV.le_refl _, ?_, LV.le_refl _, trivial⟩, (by repeat (first | exact trivial | refine ⟨rfl, ?_⟩ | refine ⟨optR (optR (optR (optK_intro _ (setObj_self _ _ _) rfl))), ?_⟩))⟩
        · rw [← rws_len (f := u8C) (repTo r i)]
          exact LV.le_refl _
        · rw [← rws_len (f := cmdC) r.F[i].C]
          exact LV.le_refl _
      · rintro ⟨k, v⟩ st' ⟨hk, ha⟩
        dsimp only at hk ha ⊢
        have l3 := cmds_len (l := r.F[i].C.take k) fun c hc' => hc c (List.mem_of_mem_take hc')
        rw [List.length_take] at l3
        refine bcd (fun h4 => ?_) (fun h4 => ?_)
        · have hklt : k < r.F[i].C.length := by omega
          have hn := cmdP_nums (hc _ (List.getElem_mem hklt))
          have l4 := cmdL_len hn
          refine ⟨k, rfl, optK_intro _ (rws_get hklt) ?_⟩
          refine cmdLay_spec r.F[i].C[k] hn ha (by simp only [List.length_append, List.length_cons, List.length_nil, List.length_take, eightL_len] at *; omega) (fun v st1 ha => ?_)
          refine ⟨⟨by omega, by omega⟩, ?_⟩
          refine ⟨(k + 1, v), ?_, ⟨hklt, ?_⟩, ⟨LV.le_refl _, LV.le_refl _, LV.le_refl _, LV.le_refl _, LV.le_refl _, LV.le_refl _, LV.le_refl _, LV.le_refl _, LV.le_refl _, LV.le_refl _, trivial⟩, (by repeat (first | exact trivial | refine ⟨rfl, ?_⟩ | refine ⟨optR (optR (optR (optK_intro _ (setObj_self _ _ _) rfl))), ?_⟩))⟩
          · show r.F[i].C.length - (k + 1) < r.F[i].C.length - k
            omega
          · rw [cmds_take hklt, ← List.append_assoc]
            exact ha
        · have hge : k = r.F[i].C.length := by omega
          subst hge
          rw [List.take_length] at ha
          rw [List.take_length] at l3
          refine fnvBytes_spec _ _ _ ?_
          refine appB ha (l := eightL r.F[i].hash) (by rfl) (by simp only [List.length_append, List.length_cons, List.length_nil, List.length_take, eightL_len] at *; omega) (fun v st1 ha => ?_)
          have e : repTo r i ++ putZ r.F[i].C.length ++ r.F[i].C.flatMap cmdL ++ eightL r.F[i].hash = repTo r i ++ frBody r.F[i] := by simp [frBody]
          rw [e] at ha
          have l5 := frBody_len hfp
          obtain ⟨b, rfl⟩ := ha.lst (rowsB_ne (by rw [List.length_append]; have := repTo_pos r i; omega))
          refine ⟨(repTo r i).length, (rowsB (repTo r i ++ frBody r.F[i])).length, rfl, rfl, ?_, Nat.le_refl _, ?_⟩
          · rw [rws_len, List.length_append]; omega
          have e2 : ((rowsB (repTo r i ++ frBody r.F[i])).take (rowsB (repTo r i ++ frBody r.F[i])).length).drop (repTo r i).length = rowsB (frBody r.F[i]) := by
            rw [List.take_length, rws_drop, List.drop_left]
          rw [e2]
          refine fnvSumV (l := frBody r.F[i]) _ (AV.le_refl _) (by omega) ?_
          rw [← fnvSum_app]
          refine fnvBytes_spec _ _ _ ?_
          refine appB ha (l := eightL (fnvSum fnvStart (repTo r i ++ frBody r.F[i]))) (by rfl) (by simp only [List.length_append, List.length_cons, List.length_nil, List.length_take, eightL_len] at *; omega) (fun v st1 ha => ?_)
          refine fnvSumV (l := eightL (fnvSum fnvStart (repTo r i ++ frBody r.F[i]))) _ (AV.le_refl _) (by rw [eightL_len]; omega) ?_
          rw [← fnvSum_app]
          have e3 : repTo r i ++ frBody r.F[i] ++ eightL (fnvSum fnvStart (repTo r i ++ frBody r.F[i])) = repTo r (i + 1) := (repTo_succ hlt).symm
          rw [e3] at ha ⊢
          obtain ⟨b, rfl⟩ := ha.lst (rowsB_ne (by have := repTo_pos r (i + 1); omega))
          refine bcd (fun h5 => ?_) (fun h5 => ?_)
          · rw [rws_len] at h5
            exact retR (h2 (by have := repTo_le r (i + 1); omega)) ha.has (AV.le_refl _)
          · rw [rws_len] at h5
            refine ⟨⟨by omega, by omega⟩, ?_⟩
            refine ⟨(i + 1, _), ?_, ⟨hlt, ha, by show (repTo r (i + 1)).length ≤ 1048576; omega⟩, ⟨LV.le_refl _, LV.le_refl _, LV.le_refl _, LV.le_refl _, LV.le_refl _, trivial⟩, trivial⟩
            show r.F.length - (i + 1) < r.F.length - i
            omega
    · have hge : i = r.F.length := by omega
      subst hge
      rw [repTo_all] at ha hle
      exact retR (h1 hle) ha.has (AV.le_tupL ⟨ha.le, AV.le_refl _, trivial⟩)
end Go.Proofs
