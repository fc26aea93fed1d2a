/- The ground on which laws of thronglaw26 are proved: contracts of functions and plain lemmas; no condition beyond the row's own. -/
import Derived.Test.YtimehecofabmjaaGreatSC
import Derived.Test.YtimehecofabmjaaGreatSG
import Derived.Test.YtimehecofabmjaaGreatVD
set_option linter.unusedSimpArgs false
set_option linter.unusedVariables false
namespace Go.Proofs
open Go Go.V
set_option linter.unusedVariables false

theorem startSum_spec (st : Store) (R : AV → Store → Prop) (h : R (u64 14695981039346656037) st) : ACalls Tryz.prog 34 [] st R := by
  refine ACalls.of_body (c := cfg 1) infoOK Tryz.func34 (by rfl) (by rfl) (by rfl) (by rfl) ?_
  exact ⟨_, st, AV.le_refl _, Store.Has.refl st, h⟩

theorem put_spec (n : Int) (st0 st : Store) (v : AV) (rows : List (List AV)) (ha : App 1 st0 v rows st) (hr : rows.length ≤ 100000000000000) (hn : n ≤ 9223372036854775807) (R : AV → Store → Prop)
    (h : ∀ v' st', App 1 st0 v' (rows ++ rowsB (putZ n)) st' → R v' st') : ACalls Tryz.prog 79 [v, int n] st R := by
  refine ACalls.of_body (c := cfg 20) infoOK Tryz.func79 (by rfl) (by rfl) (by rfl) (by rfl) ?_
  refine AWp.loop (σ := AV × Int × List (List AV)) ⟨fun s => [(0, .av s.1), (1, .av (int s.2.1))], fun _ => [], fun s st' => App 1 st0 s.1 s.2.2 st' ∧ s.2.2 ++ rowsB (putZ s.2.1) = rows ++ rowsB (putZ n), fun s => s.2.1.toNat⟩ infoOK ?_ ?_
  · exact ⟨(v, n, rows), trivial, ⟨ha, rfl⟩, ⟨LV.le_refl _, LV.le_refl _, trivial⟩, trivial⟩
  · rintro ⟨v, m, rs⟩ st ⟨ha, heq⟩
    simp only at ha heq
    have hrs : rs.length ≤ rows.length + 9 := by
      have h1 := congrArg List.length heq
      simp only [List.length_append, rws_len] at h1
      have := putZ_len hn
      omega
    refine bcase_intro (fun h1 => ?_) (fun h1 => ?_)
    · have h1 : 128 ≤ m := by simpa using h1
      refine ⟨by decide, ?_⟩
      refine appendK_app (ie := ti5) (rows' := [[.s (.int .u8 (bitsOf .or .u8 (IntKind.u8.wrap m) 128))]]) ha ?_ ?_ ⟨?_, ?_⟩ (fun v2 st2 ha2 => ?_)
      · rfl
      · rfl
      · simp [ti5]; omega
      · simp; omega
      · refine ⟨by decide, ?_⟩
        refine ⟨(v2, m.fdiv (2 ^ (min (7 : Int).toNat IntKind.i64.bits)), _), ?_, ⟨ha2, ?_⟩, ⟨LV.le_refl _, LV.le_refl _, trivial⟩, trivial⟩
        · show (m.fdiv (2 ^ (min (7 : Int).toNat IntKind.i64.bits))).toNat < m.toNat
          rw [shr7]
          omega
        · show (rs ++ _) ++ rowsB (putZ (m.fdiv (2 ^ (min (7 : Int).toNat IntKind.i64.bits)))) = _
          rw [shr7, or128, ← heq, putZ_big h1, List.append_assoc]
          rfl
    · have h1 : m < 128 := by simpa using h1
      refine ⟨by decide, ?_⟩
      refine appendK_app (ie := ti5) (rows' := [[.s (.int .u8 (IntKind.u8.wrap m))]]) ha ?_ ?_ ⟨?_, ?_⟩ (fun v2 st2 ha2 => ?_)
      · rfl
      · rfl
      · simp [ti5]; omega
      · simp; omega
      · refine ⟨_, st2, AV.le_refl _, Store.Has.refl st2, h _ _ ?_⟩
        rw [← heq, putZ_small h1]
        rw [lowB_wrap] at ha2
        exact ha2

/-- The same of bytes. -/
theorem putB (n : Int) {st0 st : Store} {v : AV} {bs : List UInt8} (ha : App 1 st0 v (rowsB bs) st) (hr : bs.length ≤ 100000000000000) (hn : n ≤ 9223372036854775807) {R : AV → Store → Prop}
    (h : ∀ v' st', App 1 st0 v' (rowsB (bs ++ putZ n)) st' → R v' st') : ACalls Tryz.prog 79 [v, int n] st R :=
  put_spec n st0 st v _ ha (by rw [rws_len]; exact hr) hn R fun v' st' h' => h v' st' (by rw [rws_app] at h'; exact h')

/-- An append of bytes. -/
theorem appB {n : Nat} {G W : List Nat} {st0 st : Store} {v : AV} {x : LV} {bs l : List UInt8} {K : AV → Store → Prop} (ha : App 1 st0 v (rowsB bs) st) (hx : srcRows 1 x = some (rowsB l)) (hr : bs.length + l.length ≤ 100000000000010)
    (h : ∀ v' st', App 1 st0 v' (rowsB (bs ++ l)) st' → K v' st') : appendK Tryz.prog (cfg n G W) st 5 (.av v) x K := by
  refine appendK_app (ie := ti5) (rows' := rowsB l) ha ?_ hx ⟨?_, ?_⟩ (fun v2 st2 ha2 => ?_)
  · rfl
  · simp [rws_len, ti5]; omega
  · simp [rws_len]; omega
  · rw [rws_app] at ha2
    exact h _ _ ha2
end Go.Proofs
namespace Go.Proofs
open Go Go.V
set_option linter.unusedVariables false

theorem numsL1 (a : Int) : numsL [a] = putZ a := by simp [numsL]
theorem numsL2 (a b : Int) : numsL [a, b] = putZ a ++ putZ b := by simp [numsL]
theorem numsL3 (a b c : Int) : numsL [a, b, c] = putZ a ++ putZ b ++ putZ c := by simp [numsL]
end Go.Proofs
namespace Go.Proofs
open Go Go.V
set_option linter.unusedVariables false

theorem fnvSum_spec (s : Int) (l : List UInt8) (hl : l.length ≤ 1000000000000) (st : Store) (R : AV → Store → Prop) (h : R (u64 (fnvSum s l)) st) : ACalls Tryz.prog 33 [u64 s, byts l] st R := by
  refine ACalls.of_body (c := cfg 20) infoOK Tryz.func33 (by rfl) (by rfl) (by rfl) (by rfl) ?_
  refine AWp.loop (σ := Nat) ⟨fun i => [(0, .av (u64 (fnvSum s (l.take i)))), (7, .av (byts l)), (8, .av (int l.length)), (9, .av (int (i : Nat)))], fun _ => [],
    fun i st' => i ≤ l.length ∧ st' = st, fun i => l.length - i⟩ infoOK ?_ ?_
  · refine ⟨0, trivial, ⟨Nat.zero_le _, rfl⟩, ⟨LV.le_refl _, LV.le_refl _, ?_, LV.le_refl _, trivial⟩, trivial⟩
    rw [← rws_len (f := u8C) l]
    exact LV.le_refl _
  · rintro i st' ⟨hi, rfl⟩
    refine bcase_intro (fun h1 => ?_) (fun h1 => ?_)
    · have hlt : i < l.length := by simpa using h1
      refine ⟨i, rfl, optK_intro _ (rws_get hlt) ?_⟩
      refine ⟨⟨by omega, by omega⟩, ?_⟩
      refine ⟨i + 1, ?_, ⟨hlt, rfl⟩, ⟨?_, LV.le_refl _, LV.le_refl _, LV.le_refl _, trivial⟩, trivial⟩
      · show l.length - (i + 1) < l.length - i
        omega
      · rw [fnvSum_take hlt]
        exact LV.le_refl _
    · have hge : i = l.length := by
        have : ¬ i < l.length := by simpa using h1
        omega
      subst hge
      refine ⟨_, st', AV.le_refl _, Store.Has.refl st', ?_⟩
      rw [← List.take_length (l := l)] at h
      exact h

theorem fnvSumV (s : Int) {l : List UInt8} {v : AV} (hv : AV.le v (byts l)) (hl : l.length ≤ 1000000000000) {st : Store} {R : AV → Store → Prop} (h : R (u64 (fnvSum s l)) st) : ACalls Tryz.prog 33 [u64 s, v] st R :=
  ACalls.le (ys := [u64 s, byts l]) ⟨AV.le_refl _, hv, trivial⟩ (fnvSum_spec s l hl st R h)

theorem fnvBytes_spec (s : Int) (st : Store) (R : AV → Store → Prop) (h : R (byts (eightL s)) st) : ACalls Tryz.prog 32 [u64 s] st R := by
  refine ACalls.of_body (c := cfg 14) infoOK Tryz.func32 (by rfl) (by rfl) (by rfl) (by rfl) ?_
  refine AWp.loop (σ := Nat × AV) ⟨fun x => [(0, .av (u64 (s / 256 ^ x.1))), (2, .av x.2), (3, .av (int (x.1 : Nat)))], fun _ => [],
    fun x st' => x.1 ≤ 8 ∧ App 1 st x.2 (rowsB ((eightL s).take x.1)) st', fun x => 8 - x.1⟩ infoOK ?_ ?_
  · refine ⟨(0, _), trivial, ⟨Nat.zero_le _, App.start 1 st⟩, ⟨?_, LV.le_refl _, LV.le_refl _, trivial⟩, trivial⟩
    show LV.le (.av (u64 s)) (.av (u64 (s / 256 ^ 0)))
    rw [Int.pow_zero, Int.ediv_one]
    exact LV.le_refl _
  · rintro ⟨i, v⟩ st' ⟨hi, ha⟩
    simp only at hi ha
    refine bcase_intro (fun h1 => ?_) (fun h1 => ?_)
    · have hlt : i < 8 := by simp at h1; omega
      refine ⟨by decide, ?_⟩
      refine appendK_app (ie := ti5) (rows' := [[.s (.int .u8 (IntKind.u8.wrap (s / 256 ^ i)))]]) ha ?_ ?_ ⟨?_, ?_⟩ (fun v2 st2 ha2 => ?_)
      · rfl
      · rfl
      · simp [rws_len, ti5]; omega
      · simp [rws_len]; omega
      · refine ⟨by decide, ?_⟩
        refine ⟨⟨by omega, by omega⟩, ?_⟩
        refine ⟨(i + 1, v2), ?_, ⟨hlt, ?_⟩, ⟨?_, LV.le_refl _, LV.le_refl _, trivial⟩, trivial⟩
        · show 8 - (i + 1) < 8 - i
          omega
        · show App 1 st v2 (rws u8C ((eightL s).take (i + 1))) st2
          rw [← eightL_snoc s hlt, ← rws_app]
          rw [lowB_wrap] at ha2
          exact ha2
        · show LV.le (.av (u64 ((s / 256 ^ i).fdiv (2 ^ (min (8 : Int).toNat IntKind.u64.bits))))) _
          rw [shr8]
          exact LV.le_refl _
    · have hge : i = 8 := by simp at h1; omega
      subst hge
      refine ⟨_, st, AV.le_trans ha.le ?_, ha.has, h⟩
      rw [List.take_of_length_le (by rw [eightL_len]; exact Nat.le_refl _)]
      exact AV.le_refl _
end Go.Proofs
namespace Go.Proofs
open Go Go.V
set_option linter.unusedVariables false

theorem startSum_spec2 (st : Store) (R : AV → Store → Prop) (h : R (u64 fnvStart) st) : ACalls Tryz.prog 34 [] st R := startSum_spec st R h

/-- 'wire.Raw' of what is no longer than it may be. -/
theorem raw_spec (l : List UInt8) (hl : l.length ≤ 1048576) (st : Store) (R : AV → Store → Prop) (h : R (.tup [byts (putZ l.length ++ l), int 0]) st) : ACalls Tryz.prog 80 [byts l] st R := by
  refine ACalls.of_body (c := cfg 12) infoOK Tryz.func80 (by rfl) (by rfl) (by rfl) (by rfl) ?_
  refine bcd (fun h1 => ?_) (fun h1 => ?_)
  · rw [rws_len] at h1
    omega
  refine putB (bs := []) _ (App.start 1 st) (by simp) (by rw [rws_len]; omega) (fun v st1 ha => ?_)
  rw [rws_len] at ha
  have := putZ_len (n := (l.length : Int)) (by omega)
  refine appB ha (l := l) (by rfl) (by simp; omega) (fun v2 st2 ha2 => ?_)
  exact retR h ha2.has (AV.le_tupL ⟨ha2.le, AV.le_refl _, trivial⟩)

theorem int_spec (n : Int) (hn : I62 n) (st : Store) (R : AV → Store → Prop) (h : R (.tup [byts (intZ n), int 0]) st) : ACalls Tryz.prog 82 [int n] st R := by
  refine ACalls.of_body (c := cfg 21) infoOK Tryz.func82 (by rfl) (by rfl) (by rfl) (by rfl) ?_
  unfold I62 at hn
  have fin : ∀ {v : AV} {st2 : Store} {l : List UInt8}, App 1 st v (rowsB ([] ++ l)) st2 → l = intZ n → ∃ r st', AV.le (.tup [v, int 0]) r ∧ st2.Has st' ∧ R r st' := by
    rintro v st2 l ha rfl
    exact retR h ha.has (AV.le_tupL ⟨ha.le, AV.le_refl _, trivial⟩)
  refine bcd (fun h1 => ?_) (fun h1 => ?_)
  · exact absurd h1 (Int.not_lt.2 (Int.le_of_lt hn.1))
  refine bcd (fun h1 => absurd h1 (Int.not_le.2 hn.2)) (fun h1 => ?_)
  refine bcd (fun h2 => ?_) (fun h2 => ?_)
  · have r1 : InI64 ((-2 : Int) * n) := ⟨by omega, by omega⟩
    have r2 : InI64 ((-2 : Int) * n - 1) := ⟨by omega, by omega⟩
    refine ⟨r1, r2, ?_⟩
    refine putB (bs := []) ((-2 : Int) * n - 1) (App.start 1 st) (by simp) (by omega) (fun v st1 ha => ?_)
    exact fin ha (by unfold intZ; rw [if_pos h2])
  · refine ⟨⟨by omega, by omega⟩, ?_⟩
    refine putB (bs := []) _ (App.start 1 st) (by simp) (by omega) (fun v st1 ha => ?_)
    exact fin ha (by unfold intZ; rw [if_neg h2])

theorem mapLay_spec (g : Gnd) (hg : gndP g) (st : Store) (R : AV → Store → Prop) (h : R (byts (gndL g)) st) : ACalls Tryz.prog 81 [.agg (gndC g)] st R := by
  refine ACalls.of_body (c := cfg 21 [4] []) infoOK Tryz.func81 (by rfl) (by rfl) (by rfl) (by rfl) ?_
  obtain ⟨h1, h2, h3, _⟩ := hg
  have hm := side_mul h1 h2
  have hw := putZ_len (n := g.W) (by omega)
  have hh := putZ_len (n := g.H) (by omega)
  refine ADraw.of_sched infoOK (by rfl) (by rfl) sch81_1 (by rfl) ?_
  refine ⟨⟨by decide, fun b hb => ⟨(by repeat (first | exact trivial | refine ⟨rfl, ?_⟩ | refine ⟨optR (optR (optR (optK_intro _ (setObj_self _ _ _) rfl))), ?_⟩)), ?_⟩⟩, trivial⟩
  refine ⟨optR (optR (optR (optK_intro _ (setTok_self _ _ _) ⟨(by repeat (first | exact trivial | refine ⟨rfl, ?_⟩ | refine ⟨optR (optR (optR (optK_intro _ (setObj_self _ _ _) rfl))), ?_⟩)), ?_⟩))), trivial⟩
  refine ⟨putB (bs := [84, 71]) _ (app_of_tok hb (by simp [rws])) (by simp) (by omega) (fun v st1 ha => ⟨(by repeat (first | exact trivial | refine ⟨rfl, ?_⟩ | refine ⟨optR (optR (optR (optK_intro _ (setObj_self _ _ _) rfl))), ?_⟩)), ?_⟩), trivial⟩
  refine ⟨putB _ ha (by simp; omega) (by omega) (fun v st1 ha => ⟨(by repeat (first | exact trivial | refine ⟨rfl, ?_⟩ | refine ⟨optR (optR (optR (optK_intro _ (setObj_self _ _ _) rfl))), ?_⟩)), ?_⟩), trivial⟩
  refine ⟨appB ha (l := g.T) (by rfl) (by simp; omega) (fun v st1 ha => ⟨(by repeat (first | exact trivial | refine ⟨rfl, ?_⟩ | refine ⟨optR (optR (optR (optK_intro _ (setObj_self _ _ _) rfl))), ?_⟩)), ?_⟩), trivial⟩
  refine ⟨⟨trivial, ?_⟩, trivial⟩
  refine startSum_spec _ _ ?_
  have e : ([84, 71] ++ putZ g.W ++ putZ g.H ++ g.T) = signL g := rfl
  rw [e] at ha
  have hl : (signL g).length ≤ 20000 := by simp only [← e, List.length_append, List.length_cons, List.length_nil]; omega
  refine fnvSumV _ ha.le (by omega) ?_
  refine fnvBytes_spec _ _ _ ?_
  refine appB ha (l := eightL (fnvSum fnvStart (signL g))) (by rfl) (by rw [eightL_len]; omega) (fun v st1 ha => ?_)
  exact retR h ha.has ha.le

end Go.Proofs
namespace Go.Proofs
open Go Go.V
set_option linter.unusedVariables false

/-- A reference's number, in memory of its own. -/
theorem num3_own (n : Int) (hn : I64 n) {st : Store} {R : AV → Store → Prop} (h : ∀ v st', App 1 st v (rowsB (putZ n)) st' → R v st') : ACalls Tryz.prog 118 [int n] st R := by
  refine ACalls.of_body (c := cfg 20) infoOK Tryz.func118 (by rfl) (by rfl) (by rfl) (by rfl) ?_
  refine AWp.loop (σ := AV × Int × List UInt8) ⟨fun s => [(3, .av s.1), (0, .av (int s.2.1))], fun _ => [], fun s st' => App 1 st s.1 (rowsB s.2.2) st' ∧ s.2.2 ++ putZ s.2.1 = putZ n ∧ I64 s.2.1, fun s => s.2.1.toNat⟩ infoOK ?_ ?_
  · exact ⟨(_, n, []), trivial, ⟨App.start 1 st, rfl, hn⟩, ⟨LV.le_refl _, LV.le_refl _, trivial⟩, trivial⟩
  · rintro ⟨v, m, bs⟩ st1 ⟨ha, heq, hm⟩
    dsimp only at ha heq hm ⊢
    unfold I64 at hm
    have hlen : bs.length ≤ 9 := by
      have h1 := congrArg List.length heq
      simp only [List.length_append] at h1
      have := putZ_len hn.2
      omega
    refine bcd (fun h1 => ?_) (fun h1 => ?_)
    · refine ⟨by decide, by decide, ?_⟩
      refine appB ha (l := [lowB m ||| 128]) ?_ (by simp; omega) (fun v st2 ha => ?_)
      · show some [[AV.s (.int .u8 (bitsOf .or .u8 (IntKind.u8.wrap (m.tmod 128)) 128))]] = _
        rw [or128, lowB_mod _ (by omega)]
        rfl
      refine ⟨by decide, ⟨?_, ?_⟩, ?_⟩
      · rw [Int.tdiv_eq_ediv_of_nonneg (by omega)]; omega
      · rw [Int.tdiv_eq_ediv_of_nonneg (by omega)]; omega
      refine ⟨(v, m / 128, bs ++ [lowB m ||| 128]), ?_, ⟨ha, ?_, ?_⟩, ⟨LV.le_refl _, ?_, trivial⟩, trivial⟩
      · show (m / 128).toNat < m.toNat
        omega
      · simp only
        rw [← heq, putZ_big h1, List.append_assoc]
        rfl
      · show I64 (m / 128)
        unfold I64; omega
      · show LV.le (.av (int (m.tdiv 128))) (.av (int (m / 128)))
        rw [Int.tdiv_eq_ediv_of_nonneg (by omega)]
        exact LV.le_refl _
    · refine ⟨by decide, ?_⟩
      refine appB ha (l := [lowB m]) ?_ (by simp; omega) (fun v st2 ha => ?_)
      · show some [[AV.s (.int .u8 (IntKind.u8.wrap m))]] = _
        rw [lowB_wrap]
        rfl
      rw [← putZ_small (by omega), heq] at ha
      exact ret (h _ _ ha)

theorem num3_spec (n : Int) (hn : I64 n) {st : Store} {R : AV → Store → Prop} (h : R (byts (putZ n)) st) : ACalls Tryz.prog 118 [int n] st R :=
  ACalls.lessen (num3_own n hn fun v st' ha => ⟨_, _, ha.le, ha.has, h⟩)

theorem int3_spec (n : Int) (hn : I62 n) {st : Store} {R : AV → Store → Prop} (h : R (byts (intZ n)) st) : ACalls Tryz.prog 91 [int n] st R := by
  refine ACalls.of_body (c := cfg 12) infoOK Tryz.func91 (by rfl) (by rfl) (by rfl) (by rfl) ?_
  unfold I62 at hn
  unfold intZ at h
  refine bcd (fun h1 => ?_) (fun h1 => ?_)
  · rw [if_pos h1] at h
    have r1 : InI64 ((-2 : Int) * n) := ⟨by omega, by omega⟩
    have r2 : InI64 ((-2 : Int) * n - 1) := ⟨by omega, by omega⟩
    refine ⟨r1, r2, ?_⟩
    exact num3_spec ((-2 : Int) * n - 1) (by unfold I64; omega) (ret h)
  · rw [if_neg h1] at h
    refine ⟨⟨by omega, by omega⟩, ?_⟩
    exact num3_spec (2 * n) (by unfold I64; omega) (ret h)

theorem eight3_spec (s : Int) {st : Store} {R : AV → Store → Prop} (h : R (byts (eightL s)) st) : ACalls Tryz.prog 60 [u64 s] st R := by
  refine ACalls.of_body (c := cfg 18) infoOK Tryz.func60 (by rfl) (by rfl) (by rfl) (by rfl) ?_
  refine AWp.loop (σ := Nat × AV) ⟨fun x => [(0, .av (u64 s)), (3, .av x.2), (4, .av (int (x.1 : Nat)))], fun _ => [],
    fun x st' => x.1 ≤ 8 ∧ App 1 st x.2 (rowsB ((eightL s).take x.1)) st', fun x => 8 - x.1⟩ infoOK ?_ ?_
  · exact ⟨(0, _), trivial, ⟨Nat.zero_le _, App.start 1 st⟩, ⟨LV.le_refl _, LV.le_refl _, LV.le_refl _, trivial⟩, trivial⟩
  · rintro ⟨i, v⟩ st' ⟨hi, ha⟩
    simp only at hi ha
    refine bcd (fun h1 => ?_) (fun h1 => ?_)
    · have hlt : i < 8 := by omega
      refine ⟨⟨by omega, by omega⟩, ⟨by omega, ?_⟩⟩
      refine ⟨by decide, ?_⟩
      refine appB ha (l := [lowB (s / 256 ^ i)]) ?_ (by simp; omega) (fun v st2 ha => ?_)
      · show some [[AV.s (.int .u8 (IntKind.u8.wrap (s.fdiv (2 ^ (min ((8 : Int) * (i : Int)).toNat IntKind.u64.bits)))))]] = _
        rw [shr8i s i hlt, lowB_wrap]
        rfl
      refine ⟨⟨by omega, by omega⟩, ?_⟩
      refine ⟨(i + 1, v), ?_, ⟨hlt, ?_⟩, ⟨LV.le_refl _, LV.le_refl _, LV.le_refl _, trivial⟩, trivial⟩
      · show 8 - (i + 1) < 8 - i
        omega
      · rw [eightL_snoc s hlt] at ha
        exact ha
    · have hge : i = 8 := by omega
      subst hge
      rw [List.take_of_length_le (by rw [eightL_len]; exact Nat.le_refl _)] at ha
      exact retR h ha.has ha.le

theorem sum3_spec (s : Int) {l : List UInt8} {v : AV} (hv : AV.le v (byts l)) (hl : l.length ≤ 1000000000000) {st : Store} {R : AV → Store → Prop} (h : R (u64 (fnvSum s l)) st) : ACalls Tryz.prog 61 [u64 s, v] st R := by
  refine ACalls.le (ys := [u64 s, byts l]) ⟨AV.le_refl _, hv, trivial⟩ ?_
  refine ACalls.of_body (c := cfg 21) infoOK Tryz.func61 (by rfl) (by rfl) (by rfl) (by rfl) ?_
  refine AWp.loop (σ := Nat) ⟨fun i => [(0, .av (u64 (fnvSum s (l.take i)))), (1, .av (byts l)), (5, .av (int (i : Nat)))], fun _ => [],
    fun i st' => i ≤ l.length ∧ st' = st, fun i => l.length - i⟩ infoOK ?_ ?_
  · exact ⟨0, trivial, ⟨Nat.zero_le _, rfl⟩, ⟨LV.le_refl _, LV.le_refl _, LV.le_refl _, trivial⟩, trivial⟩
  · rintro i st' ⟨hi, rfl⟩
    refine bcase_intro (fun h1 => ?_) (fun h1 => ?_)
    · have hlt : i < l.length := lt_len h1
      refine ⟨i, rfl, optK_intro _ (rws_get hlt) ?_⟩
      refine ⟨⟨by omega, by omega⟩, ?_⟩
      refine ⟨i + 1, ?_, ⟨hlt, rfl⟩, ⟨?_, LV.le_refl _, LV.le_refl _, trivial⟩, trivial⟩
      · show l.length - (i + 1) < l.length - i
        omega
      · rw [fnvSum_take hlt]
        exact LV.le_refl _
    · have hge : i = l.length := ge_len h1 hi
      subst hge
      exact ret (by rw [List.take_length]; exact h)

theorem mapBytes5_spec (g : Gnd) (hg : gndP g) {st : Store} {R : AV → Store → Prop} (h : R (byts (gndL g)) st) : ACalls Tryz.prog 119 [.agg (gndC g)] st R := by
  refine ACalls.of_body (c := cfg 23 [4] []) infoOK Tryz.func119 (by rfl) (by rfl) (by rfl) (by rfl) ?_
  have hs := (gndL_len hg).1
  obtain ⟨h1, h2, h3, _⟩ := hg
  have hm := side_mul h1 h2
  have hw := putZ_len (n := g.W) (by omega)
  have hh := putZ_len (n := g.H) (by omega)
  refine ⟨by decide, fun b hb => ?_⟩
  refine num3_spec _ (by unfold I64; omega) ?_
  refine appB (bs := [84, 71]) (app_of_tok hb (by simp)) (l := putZ g.W) (by rfl) (by simp; omega) (fun v st1 ha => ?_)
  refine num3_spec _ (by unfold I64; omega) ?_
  refine appB ha (l := putZ g.H) (by rfl) (by simp; omega) (fun v st1 ha => ?_)
  refine appB ha (l := g.T) (by rfl) (by simp; omega) (fun v st1 ha => ?_)
  have e : ([84, 71] ++ putZ g.W ++ putZ g.H ++ g.T) = signL g := rfl
  rw [e] at ha
  refine sum3_spec _ ha.le (by omega) ?_
  refine eight3_spec _ ?_
  refine appB ha (l := eightL (fnvSum fnvStart (signL g))) (by rfl) (by rw [eightL_len]; omega) (fun v st1 ha => ?_)
  exact retR h ha.has ha.le

theorem put26_spec (l : List Int) (hn : ∀ n ∈ l, I64 n) {st0 st : Store} {v : AV} {bs : List UInt8} (ha : App 1 st0 v (rowsB bs) st) (hr : bs.length + 9 * l.length ≤ 90000000000000) {R : AV → Store → Prop}
    (h : ∀ v' st', App 1 st0 v' (rowsB (bs ++ numsL l)) st' → R v' st') : ACalls Tryz.prog 89 [v, ints l] st R := by
  refine ACalls.of_body (c := cfg 20) infoOK Tryz.func89 (by rfl) (by rfl) (by rfl) (by rfl) ?_
  refine AWp.loop (σ := Nat × AV) ⟨fun s => [(0, .av s.2), (1, .av (ints l)), (5, .av (int s.1))], fun _ => [], fun s st' => s.1 ≤ l.length ∧ App 1 st0 s.2 (rowsB (bs ++ numsL (l.take s.1))) st', fun s => l.length - s.1⟩ infoOK ?_ ?_
  · exact ⟨(0, v), trivial, ⟨Nat.zero_le _, by simpa [numsL] using ha⟩, ⟨LV.le_refl _, LV.le_refl _, LV.le_refl _, trivial⟩, trivial⟩
  · rintro ⟨i, v⟩ st' ⟨hi, ha⟩
    simp only at hi ha
    refine bcase_intro (fun h1 => ?_) (fun h1 => ?_)
    · have hlt : i < l.length := lt_len h1
      refine ⟨i, rfl, optK_intro _ (rws_get hlt) ?_⟩
      have hlen := numsL_len (l := l.take i) fun n hn' => (hn n (List.mem_of_mem_take hn')).2
      rw [List.length_take] at hlen
      have hni := hn _ (List.getElem_mem hlt)
      have := putZ_len hni.2
      refine num3_spec _ hni ?_
      refine appB ha (l := putZ l[i]) (by rfl) (by simp; omega) (fun v st1 ha => ?_)
      refine ⟨⟨by omega, by omega⟩, ?_⟩
      refine ⟨(i + 1, v), ?_, ⟨hlt, ?_⟩, ⟨LV.le_refl _, LV.le_refl _, LV.le_refl _, trivial⟩, trivial⟩
      · show l.length - (i + 1) < l.length - i
        omega
      · rw [numsL_take hlt, ← List.append_assoc]
        exact ha
    · have hge : i = l.length := ge_len h1 hi
      subst hge
      rw [List.take_length] at ha
      exact ret (h _ _ ha)

theorem raw26_spec (g : Gnd) (hg : gndP g) {st0 st : Store} {v : AV} {bs : List UInt8} (ha : App 1 st0 v (rowsB bs) st) (hr : bs.length ≤ 80000000000000) {R : AV → Store → Prop}
    (h : ∀ v' st', App 1 st0 v' (rowsB (bs ++ (putZ (gndL g).length ++ gndL g))) st' → R v' st') : ACalls Tryz.prog 90 [v, .agg (gndC g)] st R := by
  refine ACalls.of_body (c := cfg 15) infoOK Tryz.func90 (by rfl) (by rfl) (by rfl) (by rfl) ?_
  have hs := (gndL_len hg).2
  refine mapBytes5_spec g hg ?_
  refine ⟨by decide, ?_⟩
  refine put26_spec [((rowsB (gndL g)).length : Int)] ?_ ha (by simp; omega) (fun v st1 ha => ?_)
  · rw [rws_len]; simp; unfold I64; omega
  rw [rws_len, numsL1] at ha
  have h9 := putZ_len (n := ((gndL g).length : Int)) (by omega)
  refine appB ha (l := gndL g) (by rfl) (by simp; omega) (fun v st1 ha => ?_)
  rw [List.append_assoc] at ha
  exact ret (h _ _ ha)
end Go.Proofs
namespace Go.Proofs
open Go Go.V
set_option linter.unusedVariables false

def rdO (p : Nat) (s : Rd) (st : Store) : Store := st.setObj p (.cells [byts s.b, int s.e])
theorem rdO_get (p : Nat) (s : Rd) (st : Store) : (rdO p s st).obj p = some (.cells [byts s.b, int s.e]) := setObj_self _ _ _
theorem rdO_put (p : Nat) (s : Rd) (st : Store) (b : List UInt8) (e : Int) : (rdO p s st).setObj p (.cells [byts b, int e]) = rdO p ⟨b, e⟩ st := setObj_setObj _ _ _ _

theorem fail_spec (p : Nat) (s : Rd) (st : Store) (e : Int) (R : AV → Store → Prop) (h : R (.tup []) (rdO p (s.fail e) st)) : ACalls Tryz.prog 66 [ptr p, int e] (rdO p s st) R := by
  refine ACalls.of_body (c := cfg 13) infoOK Tryz.func66 (by rfl) (by rfl) (by rfl) (by rfl) ?_
  first | refine optK_intro _ (rdO_get p s st) ?_ | refine optR (optK_intro _ (rdO_get p s st) ?_) | refine optR (optR (optK_intro _ (rdO_get p s st) ?_))
  unfold Rd.fail at h
  refine bceq (fun h1 => ?_) (fun h1 => ?_)
  · rw [if_pos h1] at h
    first | refine optK_intro _ (rdO_get p s st) ?_ | refine optR (optK_intro _ (rdO_get p s st) ?_) | refine optR (optR (optK_intro _ (rdO_get p s st) ?_))
    refine ⟨by simp, ?_⟩
    refine ret ?_
    show R _ ((rdO p s st).setObj p (.cells [byts s.b, int e]))
    rw [rdO_put]
    exact h
  · rw [if_neg h1] at h
    exact ret h

theorem must_spec (p : Nat) (s : Rd) (st : Store) (ok : Bool) (R : AV → Store → Prop) (h : R (.tup []) (rdO p (s.must ok) st)) : ACalls Tryz.prog 29 [ptr p, bool ok] (rdO p s st) R := by
  refine ACalls.of_body (c := cfg 8) infoOK Tryz.func29 (by rfl) (by rfl) (by rfl) (by rfl) ?_
  cases ok with
  | true => exact ret h
  | false => exact fail_spec p s st 1 _ (ret h)

theorem rtake_spec (p : Nat) (s : Rd) (st : Store) (n : Int) (k : Nat) (e : Int) (hk : s.e = 0 → e = 0 → k ≤ s.b.length) (R : AV → Store → Prop) (h : R (int (s.take n k e).1) (rdO p (s.take n k e).2 st)) : ACalls Tryz.prog 65 [ptr p, int n, int k, int e] (rdO p s st) R := by
  refine ACalls.of_body (c := cfg 27) infoOK Tryz.func65 (by rfl) (by rfl) (by rfl) (by rfl) ?_
  refine fail_spec p s st e _ ?_
  unfold Rd.take at h
  first | refine optK_intro _ (rdO_get p _ st) ?_ | refine optR (optK_intro _ (rdO_get p _ st) ?_) | refine optR (optR (optK_intro _ (rdO_get p _ st) ?_))
  refine bcne (fun h1 => ?_) (fun h1 => ?_)
  · rw [if_pos h1] at h
    exact ret h
  · rw [if_neg (by simpa using h1)] at h
    have hse : s.fail e = ⟨s.b, 0⟩ ∧ k ≤ s.b.length := by
      unfold Rd.fail at h1 ⊢
      split at h1
      · rename_i h2
        simp only at h1
        rw [if_pos h2, h1]
        exact ⟨rfl, hk h2 h1⟩
      · rename_i h2; exact absurd h1 h2
    rw [hse.1]
    first | refine optK_intro _ (rdO_get p _ st) ?_ | refine optR (optK_intro _ (rdO_get p _ st) ?_) | refine optR (optR (optK_intro _ (rdO_get p _ st) ?_))
    refine ⟨k, (rowsB s.b).length, rfl, rfl, by rw [rws_len]; exact hse.2, Nat.le_refl _, ?_⟩
    first | refine optK_intro _ (rdO_get p _ st) ?_ | refine optR (optK_intro _ (rdO_get p _ st) ?_) | refine optR (optR (optK_intro _ (rdO_get p _ st) ?_))
    refine ⟨by simp, ?_⟩
    refine ret ?_
    rw [List.take_length, rws_drop]
    show R _ ((rdO p ⟨s.b, 0⟩ st).setObj p (.cells [byts (s.b.drop k), int 0]))
    rw [rdO_put]
    exact h

theorem byte_spec (p : Nat) (s : Rd) (st : Store) (R : AV → Store → Prop) (h : R (u8 s.byte.1) (rdO p s.byte.2 st)) : ACalls Tryz.prog 63 [ptr p] (rdO p s st) R := by
  refine ACalls.of_body (c := cfg 40) infoOK Tryz.func63 (by rfl) (by rfl) (by rfl) (by rfl) ?_
  first | refine optK_intro _ (rdO_get p _ st) ?_ | refine optR (optK_intro _ (rdO_get p _ st) ?_) | refine optR (optR (optK_intro _ (rdO_get p _ st) ?_))
  unfold Rd.byte at h
  obtain ⟨b, e⟩ := s
  refine bceq (fun h1 => ?_) (fun h1 => ?_)
  · simp only at h1
    subst h1
    first | refine optK_intro _ (rdO_get p _ st) ?_ | refine optR (optK_intro _ (rdO_get p _ st) ?_) | refine optR (optR (optK_intro _ (rdO_get p _ st) ?_))
    refine bceq (fun h2 => ?_) (fun h2 => ?_)
    · rw [rws_len] at h2
      obtain rfl : b = [] := List.eq_nil_of_length_eq_zero (by simpa using h2)
      first | refine optK_intro _ (rdO_get p _ st) ?_ | refine optR (optK_intro _ (rdO_get p _ st) ?_) | refine optR (optR (optK_intro _ (rdO_get p _ st) ?_))
      refine ⟨by simp, ?_⟩
      first | refine optK_intro _ (setObj_self _ _ _) ?_ | refine optR (optK_intro _ (setObj_self _ _ _) ?_) | refine optR (optR (optK_intro _ (setObj_self _ _ _) ?_))
      refine ret ?_
      show R _ ((rdO p ⟨[], 0⟩ st).setObj p (.cells [byts [], int 11]))
      rw [rdO_put]
      exact h
    · rw [rws_len] at h2
      cases b with
      | nil => simp at h2
      | cons c l =>
      first | refine optK_intro _ (rdO_get p _ st) ?_ | refine optR (optK_intro _ (rdO_get p _ st) ?_) | refine optR (optR (optK_intro _ (rdO_get p _ st) ?_))
      first | refine optK_intro _ (rdO_get p _ st) ?_ | refine optR (optK_intro _ (rdO_get p _ st) ?_) | refine optR (optR (optK_intro _ (rdO_get p _ st) ?_))
      refine ⟨0, rfl, optK_intro _ rfl ?_⟩
      first | refine optK_intro _ (rdO_get p _ st) ?_ | refine optR (optK_intro _ (rdO_get p _ st) ?_) | refine optR (optR (optK_intro _ (rdO_get p _ st) ?_))
      refine ⟨1, (rowsB (c :: l)).length, rfl, rfl, by rw [rws_len]; simp, Nat.le_refl _, ?_⟩
      first | refine optK_intro _ (rdO_get p _ st) ?_ | refine optR (optK_intro _ (rdO_get p _ st) ?_) | refine optR (optR (optK_intro _ (rdO_get p _ st) ?_))
      refine ⟨by simp, ?_⟩
      refine ret ?_
      rw [List.take_length, rws_drop]
      show R _ ((rdO p ⟨c :: l, 0⟩ st).setObj p (.cells [byts l, int 0]))
      rw [rdO_put]
      exact h
  · simp only at h1
    rw [if_pos h1] at h
    first | refine optK_intro _ (rdO_get p _ st) ?_ | refine optR (optK_intro _ (rdO_get p _ st) ?_) | refine optR (optR (optK_intro _ (rdO_get p _ st) ?_))
    refine bcne (fun h2 => ?_) (fun h2 => absurd h2 h1)
    exact ret h

theorem same_spec (p : Nat) (s : Rd) (st : Store) (l : List UInt8) {v : AV} (hv : AV.le v (byts l)) (hl : l.length ≤ 1000000000000) (R : AV → Store → Prop) (h : R (.tup []) (rdO p (s.same l) st)) : ACalls Tryz.prog 25 [ptr p, v] (rdO p s st) R := by
  refine ACalls.le (ys := [ptr p, byts l]) ⟨AV.le_refl _, hv, trivial⟩ ?_
  refine ACalls.of_body (c := cfg 21) infoOK Tryz.func25 (by rfl) (by rfl) (by rfl) (by rfl) ?_
  refine AWp.loop (σ := Nat) ⟨fun i => [(0, .av (ptr p)), (7, .av (byts l)), (8, .av (int l.length)), (9, .av (int (i : Nat)))], fun _ => [],
    fun i st' => i ≤ l.length ∧ st' = rdO p (s.same (l.take i)) st, fun i => l.length - i⟩ infoOK ?_ ?_
  · refine ⟨0, trivial, ⟨Nat.zero_le _, rfl⟩, ⟨LV.le_refl _, LV.le_refl _, ?_, LV.le_refl _, trivial⟩, trivial⟩
    rw [← rws_len (f := u8C) l]
    exact LV.le_refl _
  · rintro i st' ⟨hi, rfl⟩
    refine bcd (fun h1 => ?_) (fun h1 => ?_)
    · have hlt : i < l.length := by omega
      refine ⟨i, rfl, optK_intro _ (rws_get hlt) ?_⟩
      refine byte_spec p _ st _ ?_
      refine must_spec p _ st (((s.same (l.take i)).byte.1.toNat : Int) == (l[i].toNat : Int)) _ ?_
      refine ⟨⟨by omega, by omega⟩, ?_⟩
      refine ⟨i + 1, ?_, ⟨hlt, ?_⟩, ⟨LV.le_refl _, LV.le_refl _, LV.le_refl _, LV.le_refl _, trivial⟩, trivial⟩
      · show l.length - (i + 1) < l.length - i
        omega
      · have e : (((s.same (l.take i)).byte.1.toNat : Int) == (l[i].toNat : Int)) = ((s.same (l.take i)).byte.1 == l[i]) := by
          rw [Bool.eq_iff_iff]
          simp only [beq_iff_eq]
          constructor
          · intro h; exact UInt8.toNat_inj.1 (by omega)
          · intro h; rw [h]
        rw [e, List.take_succ_eq_append_getElem hlt]
        unfold Rd.same
        rw [List.foldl_append]
        rfl
    · obtain rfl : i = l.length := by omega
      rw [List.take_length]
      exact ret h

set_option maxRecDepth 20000 in
theorem getNum_spec (b : List UInt8) (hb : b.length ≤ 140737488355328) (st : Store) (R : AV → Store → Prop) (h : R (.tup [int (getNum b).1, int (getNum b).2.1, int (getNum b).2.2]) st) : ACalls Tryz.prog 67 [byts b] st R := by
  refine ACalls.of_body (c := cfg 42) infoOK Tryz.func67 (by rfl) (by rfl) (by rfl) (by rfl) ?_
  refine AWp.loop (σ := Nat × Int) ⟨fun s => [(2, .av (int s.2)), (7, .av (byts b)), (8, .av (int b.length)), (9, .av (int (s.1 : Nat)))], fun _ => [],
    fun s st' => s.1 ≤ b.length ∧ s.1 ≤ 8 ∧ st' = st ∧ getGo (b.drop s.1) s.1 s.2 = getNum b ∧ 0 ≤ s.2 ∧ s.2 < 128 ^ s.1, fun s => b.length - s.1⟩ infoOK ?_ ?_
  · refine ⟨(0, 0), trivial, ⟨Nat.zero_le _, by simp, rfl, rfl, by decide, by decide⟩, ⟨LV.le_refl _, LV.le_refl _, ?_, LV.le_refl _, trivial⟩, trivial⟩
    rw [← rws_len (f := u8C) b]
    exact LV.le_refl _
  · rintro ⟨i, n⟩ st' ⟨hi, h8, rfl, hg, h0, hn⟩
    dsimp only at hi h8 hg h0 hn ⊢
    refine bcd (fun h1 => ?_) (fun h1 => ?_)
    · have hlt : i < b.length := by omega
      refine ⟨i, rfl, optK_intro _ (rws_get hlt) ?_⟩
      rw [List.drop_eq_getElem_cons hlt] at hg
      unfold getGo at hg
      have hx : b[i].toNat % 128 < 128 := Nat.mod_lt _ (by omega)
      have hs := step_lt (x := b[i].toNat % 128) h0 hn hx
      have hp := pow128_le (i := i + 1) (by omega)
      refine ⟨?_, ⟨by omega, by omega⟩, by omega, ?_⟩
      · rw [and127]; exact ⟨by omega, by omega⟩
      have hor : bitsOf .or .i64 n (IntKind.i64.wrap (bitsOf .and .u8 b[i].toNat 127 * 2 ^ (min ((7 : Int) * (i : Int)).toNat IntKind.i64.bits))) = n + (b[i].toNat % 128 : Nat) * 128 ^ i := by
        rw [and127]; exact or7 h0 hn hx h8
      refine bcd (fun h2 => ?_) (fun h2 => ?_)
      · refine bceq (fun h3 => ?_) (fun h3 => ?_)
        · rw [if_pos (.inl ⟨by omega, by omega⟩)] at hg
          refine bceq (fun _ => ?_) (fun h => absurd h3 h)
          rw [← hg] at h
          exact ret h
        · refine bceq (fun h4 => by exfalso; omega) (fun h4 => ?_)
          rw [if_neg (by omega), if_neg (by omega)] at hg
          refine bcd (fun h5 => by exfalso; omega) (fun h5 => ?_)
          refine ⟨⟨by omega, by omega⟩, ?_⟩
          refine ⟨(i + 1, n + (b[i].toNat % 128 : Nat) * 128 ^ i), ?_, ⟨hlt, by omega, rfl, hg, hs.1, hs.2⟩, ⟨?_, LV.le_refl _, LV.le_refl _, LV.le_refl _, trivial⟩, trivial⟩
          · show b.length - (i + 1) < b.length - i
            omega
          · simp only
            rw [← hor]
            exact LV.le_refl _
      · refine bceq (fun h4 => ?_) (fun h4 => ?_)
        · refine bcd (fun h5 => ?_) (fun h5 => ?_)
          · rw [if_pos (.inr ⟨by omega, by omega⟩)] at hg
            rw [← hg] at h
            exact ret h
          · rw [if_neg (by omega), if_pos (by omega)] at hg
            refine bcd (fun h6 => ?_) (fun h6 => by exfalso; omega)
            refine ⟨⟨by omega, by omega⟩, ?_⟩
            rw [← hg, ← hor] at h
            exact ret h
        · rw [if_neg (by omega), if_pos (by omega)] at hg
          refine bcd (fun h6 => ?_) (fun h6 => by exfalso; omega)
          refine ⟨⟨by omega, by omega⟩, ?_⟩
          rw [← hg, ← hor] at h
          exact ret h
    · obtain rfl : i = b.length := by omega
      rw [List.drop_length] at hg
      rw [← hg] at h
      exact ret h
end Go.Proofs
namespace Go.Proofs
open Go Go.V
set_option linter.unusedVariables false

theorem num_spec (p : Nat) (s : Rd) (st : Store) (lo hi : Int) (hb : s.b.length ≤ 140737488355328) (R : AV → Store → Prop) (h : R (int (s.num lo hi).1) (rdO p (s.num lo hi).2 st)) : ACalls Tryz.prog 30 [ptr p, int lo, int hi] (rdO p s st) R := by
  refine ACalls.of_body (c := cfg 40) infoOK Tryz.func30 (by rfl) (by rfl) (by rfl) (by rfl) ?_
  first | refine optK_intro _ (rdO_get p s st) ?_ | refine optR (optK_intro _ (rdO_get p s st) ?_) | refine optR (optR (optK_intro _ (rdO_get p s st) ?_))
  unfold Rd.num Rd.got at h
  refine bcne (fun h1 => ?_) (fun h1 => ?_)
  · rw [if_pos h1] at h
    exact ret h
  rw [if_neg (by simpa using h1)] at h
  first | refine optK_intro _ (rdO_get p s st) ?_ | refine optR (optK_intro _ (rdO_get p s st) ?_) | refine optR (optR (optK_intro _ (rdO_get p s st) ?_))
  refine getNum_spec s.b hb _ _ ?_
  have hf := getNum_facts s.b
  refine rtake_spec p s st _ _ _ (fun _ he => by omega) _ ?_
  generalize s.take (getNum s.b).1 (getNum s.b).2.1 (getNum s.b).2.2 = t at h ⊢
  simp only at h
  refine bcd (fun h2 => ?_) (fun h2 => ?_)
  · refine must_spec p t.2 st (decide (t.1 ≤ hi)) _ ?_
    have e : inB t.1 lo hi = decide (t.1 ≤ hi) := by unfold inB; rw [Bool.eq_iff_iff]; simp; omega
    rw [e] at h
    exact ret h
  · refine must_spec p t.2 st false _ ?_
    have e : inB t.1 lo hi = false := by unfold inB; simp; omega
    rw [e] at h
    exact ret h

theorem getInt_spec (b : List UInt8) (hb : b.length ≤ 140737488355328) (st : Store) (R : AV → Store → Prop) (h : R (.tup [int (getInt b).1, int (getInt b).2.1, int (getInt b).2.2]) st) : ACalls Tryz.prog 93 [byts b] st R := by
  refine ACalls.of_body (c := cfg 24) infoOK Tryz.func93 (by rfl) (by rfl) (by rfl) (by rfl) ?_
  refine getNum_spec b hb _ _ ?_
  have hf := getNum_facts b
  have h0 : 0 ≤ (getNum b).1 ∧ (getNum b).1 < 9223372036854775808 := by omega
  unfold getInt zig at h
  generalize getNum b = g at h h0 ⊢
  simp only at h
  refine ⟨by decide, ?_⟩
  refine bcne (fun h2 => ?_) (fun h2 => ?_)
  · rw [Int.tmod_eq_emod_of_nonneg h0.1] at h2
    rw [if_neg h2] at h
    have e : g.1.tdiv 2 = g.1 / 2 := Int.tdiv_eq_ediv_of_nonneg h0.1
    refine ⟨by decide, ?_, ?_, ?_, ?_⟩
    · rw [e]; exact ⟨by omega, by omega⟩
    · rw [e]; exact ⟨by omega, by omega⟩
    · rw [e]; exact ⟨by omega, by omega⟩
    · rw [← e] at h
      refine ret ?_
      rw [Int.zero_sub]
      exact h
  · rw [Int.tmod_eq_emod_of_nonneg h0.1] at h2
    rw [if_pos h2] at h
    have e : g.1.tdiv 2 = g.1 / 2 := Int.tdiv_eq_ediv_of_nonneg h0.1
    refine ⟨by decide, ?_, ?_⟩
    · rw [e]; exact ⟨by omega, by omega⟩
    · rw [← e] at h
      exact ret h

theorem intr_spec (p : Nat) (s : Rd) (st : Store) (lo hi : Int) (hb : s.b.length ≤ 140737488355328) (R : AV → Store → Prop) (h : R (int (s.int lo hi).1) (rdO p (s.int lo hi).2 st)) : ACalls Tryz.prog 68 [ptr p, int lo, int hi] (rdO p s st) R := by
  refine ACalls.of_body (c := cfg 40) infoOK Tryz.func68 (by rfl) (by rfl) (by rfl) (by rfl) ?_
  first | refine optK_intro _ (rdO_get p s st) ?_ | refine optR (optK_intro _ (rdO_get p s st) ?_) | refine optR (optR (optK_intro _ (rdO_get p s st) ?_))
  unfold Rd.int Rd.got at h
  refine bcne (fun h1 => ?_) (fun h1 => ?_)
  · rw [if_pos h1] at h
    exact ret h
  rw [if_neg (by simpa using h1)] at h
  first | refine optK_intro _ (rdO_get p s st) ?_ | refine optR (optK_intro _ (rdO_get p s st) ?_) | refine optR (optR (optK_intro _ (rdO_get p s st) ?_))
  refine getInt_spec s.b hb _ _ ?_
  have hf := getNum_facts s.b
  have hf2 : (getInt s.b).2.2 = 0 → (getInt s.b).2.1 ≤ s.b.length := by unfold getInt; simp only; omega
  refine rtake_spec p s st _ _ _ (fun _ he => hf2 he) _ ?_
  generalize s.take (getInt s.b).1 (getInt s.b).2.1 (getInt s.b).2.2 = t at h ⊢
  simp only at h
  refine bcd (fun h2 => ?_) (fun h2 => ?_)
  · refine must_spec p t.2 st (decide (t.1 ≤ hi)) _ ?_
    have e : inB t.1 lo hi = decide (t.1 ≤ hi) := by unfold inB; rw [Bool.eq_iff_iff]; simp; omega
    rw [e] at h
    exact ret h
  · refine must_spec p t.2 st false _ ?_
    have e : inB t.1 lo hi = false := by unfold inB; simp; omega
    rw [e] at h
    exact ret h

theorem cloneB_spec (l : List UInt8) (hl : l.length ≤ 100000000000000) (st : Store) (R : AV → Store → Prop) (h : R (byts l) st) : ACalls Tryz.prog 92 [byts l] st R := by
  refine ACalls.of_body (c := cfg 8) infoOK Tryz.func92 (by rfl) (by rfl) (by rfl) (by rfl) ?_
  intro b hb
  cases b with
  | true =>
    have : l = [] := by
      have := congrArg List.length (hb rfl)
      rw [rws_len] at this
      exact List.eq_nil_of_length_eq_zero this
    subst this
    exact retR h (Store.Has.refl _) (AV.le_nil 1)
  | false =>
    refine ⟨by decide, ?_⟩
    refine appB (bs := []) (.inr (.inl ⟨rfl, rfl, rfl⟩) : App 1 st .emp (rowsB []) st) (l := l) (by rfl) (by simp; omega) (fun v st1 ha => ?_)
    exact retR h ha.has ha.le

theorem getRaw_spec (b : List UInt8) (hb : b.length ≤ 140737488355328) (st : Store) (R : AV → Store → Prop) (h : R (.tup [byts (getRaw b).1, int (getRaw b).2.1, int (getRaw b).2.2]) st) : ACalls Tryz.prog 64 [byts b] st R := by
  refine ACalls.of_body (c := cfg 36) infoOK Tryz.func64 (by rfl) (by rfl) (by rfl) (by rfl) ?_
  refine getNum_spec b hb _ _ ?_
  have hf := getNum_facts b
  unfold getRaw at h
  generalize getNum b = g at h hf ⊢
  have nl : AV.le (.s (.slice none 0 0)) (byts []) := AV.le_nil 1
  refine bcne (fun h1 => ?_) (fun h1 => ?_)
  · rw [if_pos h1] at h
    exact retR h (Store.Has.refl _) (AV.le_tupL ⟨nl, AV.le_refl _, AV.le_refl _, trivial⟩)
  rw [if_neg (by simpa using h1)] at h
  refine bcd (fun h2 => ?_) (fun h2 => ?_)
  · rw [if_pos h2] at h
    exact retR h (Store.Has.refl _) (AV.le_tupL ⟨nl, AV.le_refl _, AV.le_refl _, trivial⟩)
  rw [if_neg h2] at h
  refine ⟨by rw [rws_len]; exact ⟨by omega, by omega⟩, ?_⟩
  refine bcd (fun h3 => ?_) (fun h3 => ?_)
  · rw [rws_len] at h3
    rw [if_pos h3] at h
    exact retR h (Store.Has.refl _) (AV.le_tupL ⟨nl, AV.le_refl _, AV.le_refl _, trivial⟩)
  rw [rws_len] at h3
  rw [if_neg h3] at h
  simp only at h
  refine ⟨⟨by omega, by omega⟩, ?_⟩
  refine ⟨g.2.1, g.2.1 + g.1.toNat, rfl, ?_, by omega, by rw [rws_len]; omega, ?_⟩
  · show (g.2.1 : Int) + g.1 = ((g.2.1 + g.1.toNat : Nat) : Int)
    omega
  have e : ((rowsB b).take (g.2.1 + g.1.toNat)).drop g.2.1 = rowsB ((b.drop g.2.1).take g.1.toNat) := by
    rw [rws_take, rws_drop, List.drop_take, Nat.add_sub_cancel_left]
  rw [e]
  refine cloneB_spec ((b.drop g.2.1).take g.1.toNat) (by simp; omega) _ _ ?_
  refine ⟨⟨by omega, by omega⟩, ?_⟩
  have e2 : ((g.2.1 : Int) + g.1) = ((g.2.1 + g.1.toNat : Nat) : Int) := by omega
  rw [← e2] at h
  exact ret h

theorem rawr_spec (p : Nat) (s : Rd) (st : Store) (hb : s.b.length ≤ 140737488355328) (R : AV → Store → Prop) (h : R (byts s.raw.1) (rdO p s.raw.2 st)) : ACalls Tryz.prog 27 [ptr p] (rdO p s st) R := by
  refine ACalls.of_body (c := cfg 25) infoOK Tryz.func27 (by rfl) (by rfl) (by rfl) (by rfl) ?_
  first | refine optK_intro _ (rdO_get p s st) ?_ | refine optR (optK_intro _ (rdO_get p s st) ?_) | refine optR (optR (optK_intro _ (rdO_get p s st) ?_))
  unfold Rd.raw at h
  refine bcne (fun h1 => ?_) (fun h1 => ?_)
  · rw [if_pos h1] at h
    exact retR h (Store.Has.refl _) (AV.le_nil 1)
  rw [if_neg (by simpa using h1)] at h
  first | refine optK_intro _ (rdO_get p s st) ?_ | refine optR (optK_intro _ (rdO_get p s st) ?_) | refine optR (optR (optK_intro _ (rdO_get p s st) ?_))
  refine getRaw_spec s.b hb _ _ ?_
  exact rtake_spec p s st 0 _ _ (fun _ he => getRaw_le he) _ (ret h)

theorem fin_spec (p : Nat) (s : Rd) (st : Store) (R : AV → Store → Prop) (h : R (.tup []) (rdO p s.fin st)) : ACalls Tryz.prog 35 [ptr p] (rdO p s st) R := by
  refine ACalls.of_body (c := cfg 10) infoOK Tryz.func35 (by rfl) (by rfl) (by rfl) (by rfl) ?_
  first | refine optK_intro _ (rdO_get p s st) ?_ | refine optR (optK_intro _ (rdO_get p s st) ?_) | refine optR (optR (optK_intro _ (rdO_get p s st) ?_))
  refine must_spec p s st (((rowsB s.b).length : Int) == 0) _ ?_
  have e : (((rowsB s.b).length : Int) == 0) = (s.b.length == 0) := by
    rw [rws_len, Bool.eq_iff_iff]; simp
  rw [e]
  exact ret h

end Go.Proofs
namespace Go.Proofs
open Go Go.V
set_option linter.unusedVariables false

theorem rdO_drop {p : Nat} {s : Rd} {st : Store} (h : st.obj p = none) : (rdO p s st).Has st := has_setObj h

end Go.Proofs
namespace Go.Proofs
open Go Go.V
set_option linter.unusedVariables false

theorem leNil : AV.le nil (byts []) := AV.le_nil 1

set_option maxHeartbeats 1000000 in
theorem mapParse_spec (b : List UInt8) (hb : b.length ≤ 1048576) (st : Store) (R : AV → Store → Prop) (h : R (.tup [.agg (gndC (mapParse b).1), int (mapParse b).2]) st) : ACalls Tryz.prog 28 [byts b] st R := by
  refine ACalls.of_body (c := cfg 77 [10, 12] [25]) infoOK Tryz.func28 (by rfl) (by rfl) (by rfl) (by rfl) ?_
  intro p hp
  refine ⟨by decide, fun tk htk => ?_⟩
  refine optR (optR (optR (optK_intro _ (setTok_self _ _ _) ?_)))
  refine ACalls.drop (st' := rdO p ⟨b, 0⟩ st) (has_tok htk.2) ?_
  refine same_spec p ⟨b, 0⟩ st [84, 71] (AV.le_tok _ _ _) (by simp) _ ?_
  have l1 := same_len ⟨b, 0⟩ [84, 71]
  simp only at l1
  refine num_spec p _ st 1 128 (by omega) _ ?_
  have l2 := num_len (Rd.same ⟨b, 0⟩ [84, 71]) 1 128
  refine num_spec p (mapHead b).2 st 1 128 (by unfold mapHead; omega) _ ?_
  have lt := mapTiles_len b
  refine AWp.loop (σ := Int × Rd × List UInt8 × AV) ⟨fun x => [(0, .av (byts b)), (2, .bx 2 0), (4, .bx 4 0), (5, .av (ptr p)), (6, .av (int x.1))], fun x => [(2, [int 0, int 0, nil]), (4, [int (mapHead b).1, int (mapSide b).1, x.2.2.2])],
    fun x st' => (x.2.1.e = 0 → 0 ≤ x.1 ∧ x.1 + x.2.2.1.length ≤ 16384) ∧ Rd.tilesGo x.1.toNat x.2.1 x.2.2.1 = mapTiles b ∧ App 1 (rdO p x.2.1 st) x.2.2.2 (rowsB x.2.2.1) st', fun x => x.1.toNat⟩ infoOK ?_ ?_
  · refine ⟨(IntKind.i64.wrap ((mapHead b).1 * (mapSide b).1), (mapSide b).2, [], nil), trivial, ⟨fun he => ?_, ?_, App.start 1 _⟩, ⟨LV.le_refl _, LV.le_refl _, LV.le_refl _, LV.le_refl _, LV.le_refl _, trivial⟩, (by repeat (first | exact trivial | refine ⟨rfl, ?_⟩ | refine ⟨optR (optR (optR (optK_intro _ (setObj_self _ _ _) rfl))), ?_⟩))⟩
    · have := mapSide_ok he
      simp only
      rw [wrap_i64 ⟨by omega, by omega⟩]
      simp; omega
    · simp only
      by_cases he : (mapSide b).2.e = 0
      · have := mapSide_ok he
        rw [wrap_i64 ⟨by omega, by omega⟩]
        rfl
      · unfold mapTiles
        rw [tilesGo_bad he, tilesGo_bad he]
  rintro ⟨m, s, l, v⟩ st' ⟨hm, hg, ha⟩
  dsimp only at hm hg ha ⊢
  obtain ⟨st1, rfl, hs1, hA⟩ := ha.split
  show vc _ _ _ _ _ (rdO p s st1)
  by_cases hx : m > 0 ∧ s.e = 0
  · obtain ⟨h1, h2⟩ := hx
    refine bcd (fun _ => ?_) (fun h => absurd h1 h)
    first | refine optK_intro _ (rdO_get p _ _) ?_ | refine optR (optK_intro _ (rdO_get p _ _) ?_) | refine optR (optR (optK_intro _ (rdO_get p _ _) ?_))
    refine bceq (fun _ => ?_) (fun h => absurd h2 h)
    obtain ⟨b1, b2⟩ := hm h2
    refine byte_spec p s st1 _ ?_
    refine must_spec p _ st1 (decide ((s.byte.1.toNat : Int) ≤ 5)) _ ?_
    refine ⟨by decide, ?_⟩
    have e5 : decide ((s.byte.1.toNat : Int) ≤ 5) = decide (s.byte.1.toNat ≤ 5) := by rw [Bool.eq_iff_iff]; simp; omega
    rw [e5]
    refine appB (hA (.cells [byts (s.byte.2.must (decide (s.byte.1.toNat ≤ 5))).b, int (s.byte.2.must (decide (s.byte.1.toNat ≤ 5))).e])) (l := [s.byte.1]) (by rfl) (by simp; omega) (fun v2 st2 ha2 => ?_)
    refine storeK_box ha2.cells ha2.one (by rfl) (by rfl) (by simp) ?_
    refine ⟨⟨by omega, by omega⟩, ?_⟩
    obtain ⟨k, rfl⟩ : ∃ k : Nat, m = k + 1 := ⟨(m - 1).toNat, by omega⟩
    have e1 : ((k : Int) + 1).toNat = k + 1 := by omega
    rw [e1, tilesGo_ok h2] at hg
    refine ⟨((k : Int) + 1 - 1, s.byte.2.must (decide (s.byte.1.toNat ≤ 5)), l ++ [s.byte.1], v2), ?_, ⟨fun _ => ?_, ?_, ha2⟩, ⟨LV.le_refl _, LV.le_refl _, LV.le_refl _, LV.le_refl _, LV.le_refl _, trivial⟩, ⟨rfl, rfl, trivial⟩⟩
    · show ((k : Int) + 1 - 1).toNat < ((k : Int) + 1).toNat
      omega
    · simp; omega
    · show Rd.tilesGo ((k : Int) + 1 - 1).toNat _ _ = _
      have e2 : ((k : Int) + 1 - 1).toNat = k := by omega
      rw [e2]
      exact hg
  · have hT : mapTiles b = (l, s) := by
      rw [← hg]
      by_cases h2 : s.e = 0
      · have : m.toNat = 0 := by omega
        rw [this]; rfl
      · exact tilesGo_bad h2
    rw [hT] at lt
    have hS : mapSum b = (s.same (eightL (fnvSum fnvStart (b.take (b.length - s.b.length))))).fin := by unfold mapSum; rw [hT]
    unfold mapParse at h
    rw [hT, hS] at h
    have hdr := rdO_drop (p := p) (s := (s.same (eightL (fnvSum fnvStart (b.take (b.length - s.b.length))))).fin) hp.1
    first | refine bcd (fun h1 => optK_intro _ (rdO_get p s st1) (bceq (fun h2 => absurd ⟨h1, h2⟩ hx) (fun _ => ?_))) (fun h1 => ?_) | refine bcd (fun h1 => optR (optK_intro _ (rdO_get p s st1) (bceq (fun h2 => absurd ⟨h1, h2⟩ hx) (fun _ => ?_)))) (fun h1 => ?_) | refine bcd (fun h1 => optR (optR (optK_intro _ (rdO_get p s st1) (bceq (fun h2 => absurd ⟨h1, h2⟩ hx) (fun _ => ?_))))) (fun h1 => ?_)
    all_goals
      try dsimp only at h lt
      refine ADraw.of_sched infoOK (by rfl) (by rfl) sch28_12 (by rfl) ?_
      first | refine optK_intro _ (rdO_get p s st1) ?_ | refine optR (optK_intro _ (rdO_get p s st1) ?_) | refine optR (optR (optK_intro _ (rdO_get p s st1) ?_))
      refine ⟨by rw [rws_len, rws_len]; exact ⟨by omega, by omega⟩, ?_⟩
      refine ⟨0, b.length - s.b.length, rfl, by rw [rws_len, rws_len]; show ((b.length : Int) - (s.b.length : Int)) = ((b.length - s.b.length : Nat) : Int); omega, by omega, by rw [rws_len]; omega, ?_⟩
      refine ⟨startSum_spec _ _ ⟨⟨rfl, optR (optR (optR (optK_intro _ (rdO_get p s st1) rfl))), rfl, trivial⟩, ?_⟩, trivial⟩
      refine ⟨fnvSumV (l := b.take (b.length - s.b.length)) _ (by rw [rws_take]; exact AV.le_refl _) (by rw [List.length_take]; omega) ⟨trivial, ?_⟩, trivial⟩
      refine ⟨fnvBytes_spec _ _ _ ⟨trivial, ?_⟩, trivial⟩
      refine ⟨same_spec p s st1 (eightL (fnvSum fnvStart (b.take (b.length - s.b.length)))) (AV.le_refl _) (by rw [eightL_len]; omega) _ ⟨trivial, ?_⟩, trivial⟩
      refine fin_spec p _ st1 _ ?_
      generalize (s.same (eightL (fnvSum fnvStart (b.take (b.length - s.b.length))))).fin = z at h hdr ⊢
      first | refine optK_intro _ (rdO_get p z st1) ?_ | refine optR (optK_intro _ (rdO_get p z st1) ?_) | refine optR (optR (optK_intro _ (rdO_get p z st1) ?_))
      refine bcne (fun h3 => ?_) (fun h3 => ?_)
      · rw [if_pos h3] at h
        refine ADraw.of_sched infoOK (by rfl) (by rfl) sch28_15 (by rfl) ?_
        first | refine optK_intro _ (rdO_get p z st1) ?_ | refine optR (optK_intro _ (rdO_get p z st1) ?_) | refine optR (optR (optK_intro _ (rdO_get p z st1) ?_))
        refine ⟨⟨(by repeat (first | exact trivial | refine ⟨rfl, ?_⟩ | refine ⟨optR (optR (optR (optK_intro _ (setObj_self _ _ _) rfl))), ?_⟩)), ?_⟩, trivial⟩
        refine ⟨⟨trivial, ?_⟩, trivial⟩
        exact retR h ((has_setObj2 hs1).trans hdr) (AV.le_tupL ⟨AV.le_aggL ⟨AV.le_refl _, AV.le_refl _, leNil, trivial⟩, AV.le_refl _, trivial⟩)
      · rw [if_neg (by simpa using h3)] at h
        refine storeK_boxL (v := .agg [int (mapHead b).1, int (mapSide b).1, v]) (xs := [int (mapHead b).1, int (mapSide b).1, v]) (by rfl) (by simp only [List.all_cons, List.all_nil, ha.one]; rfl) (by rfl) (by rfl) (by simp) ?_
        exact retR h ((has_setObj2 hs1).trans hdr) (AV.le_tupL ⟨AV.le_aggL ⟨AV.le_refl _, AV.le_refl _, ha.le, trivial⟩, AV.le_refl _, trivial⟩)
end Go.Proofs
