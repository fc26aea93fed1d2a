/- The ground on which laws of thronglaw29 are proved: contracts of functions and plain lemmas; no condition beyond the row's own. -/
import Derived.Test.YtdggdegjcbnpmaaVD
import Derived.Test.YtdggdegjcbnpmaaSC
namespace Go.Proofs
open Go Go.V
set_option linter.unusedVariables false

def ptr (p : Nat) : AV := .s (.pointer (some ⟨p, 0, none⟩))
def rdO (p : Nat) (s : Rd) (st : Store) : Store := st.setObj p (.cells [byts s.b, int s.e])
theorem rdO_get (p : Nat) (s : Rd) (st : Store) : (rdO p s st).obj p = some (.cells [byts s.b, int s.e]) := setObj_self _ _ _
theorem rdO_put (p : Nat) (s : Rd) (st : Store) (b : List UInt8) (e : Int) : (rdO p s st).setObj p (.cells [byts b, int e]) = rdO p ⟨b, e⟩ st := setObj_setObj _ _ _ _

theorem fail_spec (p : Nat) (s : Rd) (st : Store) (e : Int) (R : AV → Store → Prop) (h : R (.tup []) (rdO p (s.fail e) st)) : ACalls Try.prog 105 [ptr p, int e] (rdO p s st) R := by
  refine ACalls.of_body (c := cfg 13) infoOK Try.func105 (by rfl) (by rfl) (by rfl) (by rfl) ?_
  first | refine optK_intro _ (rdO_get p s st) ?_ | refine optR (optK_intro _ (rdO_get p s st) ?_) | refine optR (optR (optK_intro _ (rdO_get p s st) ?_))
  unfold Rd.fail at h
  refine bceq (fun h1 => ?_) (fun h1 => ?_)
  · rw [if_pos h1] at h
    first | refine optK_intro _ (rdO_get p s st) ?_ | refine optR (optK_intro _ (rdO_get p s st) ?_) | refine optR (optR (optK_intro _ (rdO_get p s st) ?_))
    refine ⟨by simp, ?_⟩
    refine ret ?_
    show R _ ((rdO p s st).setObj p (.cells [byts s.b, int e]))
    rw [rdO_put]
    exact h
  · rw [if_neg h1] at h
    exact ret h

theorem must_spec (p : Nat) (s : Rd) (st : Store) (ok : Bool) (R : AV → Store → Prop) (h : R (.tup []) (rdO p (s.must ok) st)) : ACalls Try.prog 62 [ptr p, bool ok] (rdO p s st) R := by
  refine ACalls.of_body (c := cfg 8) infoOK Try.func62 (by rfl) (by rfl) (by rfl) (by rfl) ?_
  cases ok with
  | true => exact ret h
  | false => exact fail_spec p s st 1 _ (ret h)

theorem take_spec (p : Nat) (s : Rd) (st : Store) (n : Int) (k : Nat) (e : Int) (hk : s.e = 0 → e = 0 → k ≤ s.b.length) (R : AV → Store → Prop) (h : R (int (s.take n k e).1) (rdO p (s.take n k e).2 st)) : ACalls Try.prog 102 [ptr p, int n, int k, int e] (rdO p s st) R := by
  refine ACalls.of_body (c := cfg 27) infoOK Try.func102 (by rfl) (by rfl) (by rfl) (by rfl) ?_
  refine fail_spec p s st e _ ?_
  unfold Rd.take at h
  first | refine optK_intro _ (rdO_get p _ st) ?_ | refine optR (optK_intro _ (rdO_get p _ st) ?_) | refine optR (optR (optK_intro _ (rdO_get p _ st) ?_))
  refine bcne (fun h1 => ?_) (fun h1 => ?_)
  · rw [if_pos h1] at h
    exact ret h
  · rw [if_neg (by simpa using h1)] at h
    have hse : s.fail e = ⟨s.b, 0⟩ ∧ k ≤ s.b.length := by
      unfold Rd.fail at h1 ⊢
      split at h1
      · rename_i h2
        simp only at h1
        rw [if_pos h2, h1]
        exact ⟨rfl, hk h2 h1⟩
      · rename_i h2; exact absurd h1 h2
    rw [hse.1]
    first | refine optK_intro _ (rdO_get p _ st) ?_ | refine optR (optK_intro _ (rdO_get p _ st) ?_) | refine optR (optR (optK_intro _ (rdO_get p _ st) ?_))
    refine ⟨k, (rowsB s.b).length, rfl, rfl, by rw [rws_len]; exact hse.2, Nat.le_refl _, ?_⟩
    first | refine optK_intro _ (rdO_get p _ st) ?_ | refine optR (optK_intro _ (rdO_get p _ st) ?_) | refine optR (optR (optK_intro _ (rdO_get p _ st) ?_))
    refine ⟨by simp, ?_⟩
    refine ret ?_
    rw [List.take_length, rws_drop]
    show R _ ((rdO p ⟨s.b, 0⟩ st).setObj p (.cells [byts (s.b.drop k), int 0]))
    rw [rdO_put]
    exact h

theorem byte_spec (p : Nat) (s : Rd) (st : Store) (R : AV → Store → Prop) (h : R (u8 s.byte.1) (rdO p s.byte.2 st)) : ACalls Try.prog 100 [ptr p] (rdO p s st) R := by
  refine ACalls.of_body (c := cfg 40) infoOK Try.func100 (by rfl) (by rfl) (by rfl) (by rfl) ?_
  first | refine optK_intro _ (rdO_get p _ st) ?_ | refine optR (optK_intro _ (rdO_get p _ st) ?_) | refine optR (optR (optK_intro _ (rdO_get p _ st) ?_))
  unfold Rd.byte at h
  obtain ⟨b, e⟩ := s
  refine bceq (fun h1 => ?_) (fun h1 => ?_)
  · simp only at h1
    subst h1
    first | refine optK_intro _ (rdO_get p _ st) ?_ | refine optR (optK_intro _ (rdO_get p _ st) ?_) | refine optR (optR (optK_intro _ (rdO_get p _ st) ?_))
    refine bceq (fun h2 => ?_) (fun h2 => ?_)
    · rw [rws_len] at h2
      obtain rfl : b = [] := List.eq_nil_of_length_eq_zero (by simpa using h2)
      first | refine optK_intro _ (rdO_get p _ st) ?_ | refine optR (optK_intro _ (rdO_get p _ st) ?_) | refine optR (optR (optK_intro _ (rdO_get p _ st) ?_))
      refine ⟨by simp, ?_⟩
      first | refine optK_intro _ (setObj_self _ _ _) ?_ | refine optR (optK_intro _ (setObj_self _ _ _) ?_) | refine optR (optR (optK_intro _ (setObj_self _ _ _) ?_))
      refine ret ?_
      show R _ ((rdO p ⟨[], 0⟩ st).setObj p (.cells [byts [], int 11]))
      rw [rdO_put]
      exact h
    · rw [rws_len] at h2
      cases b with
      | nil => simp at h2
      | cons c l =>
      first | refine optK_intro _ (rdO_get p _ st) ?_ | refine optR (optK_intro _ (rdO_get p _ st) ?_) | refine optR (optR (optK_intro _ (rdO_get p _ st) ?_))
      first | refine optK_intro _ (rdO_get p _ st) ?_ | refine optR (optK_intro _ (rdO_get p _ st) ?_) | refine optR (optR (optK_intro _ (rdO_get p _ st) ?_))
      refine ⟨0, rfl, optK_intro _ rfl ?_⟩
      first | refine optK_intro _ (rdO_get p _ st) ?_ | refine optR (optK_intro _ (rdO_get p _ st) ?_) | refine optR (optR (optK_intro _ (rdO_get p _ st) ?_))
      refine ⟨1, (rowsB (c :: l)).length, rfl, rfl, by rw [rws_len]; simp, Nat.le_refl _, ?_⟩
      first | refine optK_intro _ (rdO_get p _ st) ?_ | refine optR (optK_intro _ (rdO_get p _ st) ?_) | refine optR (optR (optK_intro _ (rdO_get p _ st) ?_))
      refine ⟨by simp, ?_⟩
      refine ret ?_
      rw [List.take_length, rws_drop]
      show R _ ((rdO p ⟨c :: l, 0⟩ st).setObj p (.cells [byts l, int 0]))
      rw [rdO_put]
      exact h
  · simp only at h1
    rw [if_pos h1] at h
    first | refine optK_intro _ (rdO_get p _ st) ?_ | refine optR (optK_intro _ (rdO_get p _ st) ?_) | refine optR (optR (optK_intro _ (rdO_get p _ st) ?_))
    refine bcne (fun h2 => ?_) (fun h2 => absurd h2 h1)
    exact ret h

theorem same_spec (p : Nat) (s : Rd) (st : Store) (l : List UInt8) {v : AV} (hv : AV.le v (byts l)) (hl : l.length ≤ 1000000000000) (R : AV → Store → Prop) (h : R (.tup []) (rdO p (s.same l) st)) : ACalls Try.prog 58 [ptr p, v] (rdO p s st) R := by
  refine ACalls.le (ys := [ptr p, byts l]) ⟨AV.le_refl _, hv, trivial⟩ ?_
  refine ACalls.of_body (c := cfg 21) infoOK Try.func58 (by rfl) (by rfl) (by rfl) (by rfl) ?_
  refine AWp.loop (σ := Nat) ⟨fun i => [(0, .av (ptr p)), (7, .av (byts l)), (8, .av (int l.length)), (9, .av (int (i : Nat)))], fun _ => [],
    fun i st' => i ≤ l.length ∧ st' = rdO p (s.same (l.take i)) st, fun i => l.length - i⟩ infoOK ?_ ?_
  · refine ⟨0, trivial, ⟨Nat.zero_le _, rfl⟩, ⟨LV.le_refl _, LV.le_refl _, ?_, LV.le_refl _, trivial⟩, trivial⟩
    rw [← rws_len (f := u8C) l]
    exact LV.le_refl _
  · rintro i st' ⟨hi, rfl⟩
    refine bcd (fun h1 => ?_) (fun h1 => ?_)
    · have hlt : i < l.length := by omega
      refine ⟨i, rfl, optK_intro _ (rws_get hlt) ?_⟩
      refine byte_spec p _ st _ ?_
      refine must_spec p _ st (((s.same (l.take i)).byte.1.toNat : Int) == (l[i].toNat : Int)) _ ?_
      refine ⟨⟨by omega, by omega⟩, ?_⟩
      refine ⟨i + 1, ?_, ⟨hlt, ?_⟩, ⟨LV.le_refl _, LV.le_refl _, LV.le_refl _, LV.le_refl _, trivial⟩, trivial⟩
      · show l.length - (i + 1) < l.length - i
        omega
      · have e : (((s.same (l.take i)).byte.1.toNat : Int) == (l[i].toNat : Int)) = ((s.same (l.take i)).byte.1 == l[i]) := by
          rw [Bool.eq_iff_iff]
          simp only [beq_iff_eq]
          constructor
          · intro h; exact UInt8.toNat_inj.1 (by omega)
          · intro h; rw [h]
        rw [e, List.take_succ_eq_append_getElem hlt]
        unfold Rd.same
        rw [List.foldl_append]
        rfl
    · obtain rfl : i = l.length := by omega
      rw [List.take_length]
      exact ret h

set_option maxRecDepth 20000 in
theorem getNum_spec (b : List UInt8) (hb : b.length ≤ 140737488355328) (st : Store) (R : AV → Store → Prop) (h : R (.tup [int (getNum b).1, int (getNum b).2.1, int (getNum b).2.2]) st) : ACalls Try.prog 101 [byts b] st R := by
  refine ACalls.of_body (c := cfg 42) infoOK Try.func101 (by rfl) (by rfl) (by rfl) (by rfl) ?_
  refine AWp.loop (σ := Nat × Int) ⟨fun s => [(2, .av (int s.2)), (7, .av (byts b)), (8, .av (int b.length)), (9, .av (int (s.1 : Nat)))], fun _ => [],
    fun s st' => s.1 ≤ b.length ∧ s.1 ≤ 8 ∧ st' = st ∧ getGo (b.drop s.1) s.1 s.2 = getNum b ∧ 0 ≤ s.2 ∧ s.2 < 128 ^ s.1, fun s => b.length - s.1⟩ infoOK ?_ ?_
  · refine ⟨(0, 0), trivial, ⟨Nat.zero_le _, by simp, rfl, rfl, by decide, by decide⟩, ⟨LV.le_refl _, LV.le_refl _, ?_, LV.le_refl _, trivial⟩, trivial⟩
    rw [← rws_len (f := u8C) b]
    exact LV.le_refl _
  · rintro ⟨i, n⟩ st' ⟨hi, h8, rfl, hg, h0, hn⟩
    dsimp only at hi h8 hg h0 hn ⊢
    refine bcd (fun h1 => ?_) (fun h1 => ?_)
    · have hlt : i < b.length := by omega
      refine ⟨i, rfl, optK_intro _ (rws_get hlt) ?_⟩
      rw [List.drop_eq_getElem_cons hlt] at hg
      unfold getGo at hg
      have hx : b[i].toNat % 128 < 128 := Nat.mod_lt _ (by omega)
      have hs := step_lt (x := b[i].toNat % 128) h0 hn hx
      have hp := pow128_le (i := i + 1) (by omega)
      refine ⟨?_, ⟨by omega, by omega⟩, by omega, ?_⟩
      · rw [and127]; exact ⟨by omega, by omega⟩
      have hor : bitsOf .or .i64 n (IntKind.i64.wrap (bitsOf .and .u8 b[i].toNat 127 * 2 ^ (min ((7 : Int) * (i : Int)).toNat IntKind.i64.bits))) = n + (b[i].toNat % 128 : Nat) * 128 ^ i := by
        rw [and127]; exact or7 h0 hn hx h8
      refine bcd (fun h2 => ?_) (fun h2 => ?_)
      · refine bceq (fun h3 => ?_) (fun h3 => ?_)
        · rw [if_pos (.inl ⟨by omega, by omega⟩)] at hg
          refine bceq (fun _ => ?_) (fun h => absurd h3 h)
          rw [← hg] at h
          exact ret h
        · refine bceq (fun h4 => by exfalso; omega) (fun h4 => ?_)
          rw [if_neg (by omega), if_neg (by omega)] at hg
          refine bcd (fun h5 => by exfalso; omega) (fun h5 => ?_)
          refine ⟨⟨by omega, by omega⟩, ?_⟩
          refine ⟨(i + 1, n + (b[i].toNat % 128 : Nat) * 128 ^ i), ?_, ⟨hlt, by omega, rfl, hg, hs.1, hs.2⟩, ⟨?_, LV.le_refl _, LV.le_refl _, LV.le_refl _, trivial⟩, trivial⟩
          · show b.length - (i + 1) < b.length - i
            omega
          · simp only
            rw [← hor]
            exact LV.le_refl _
      · refine bceq (fun h4 => ?_) (fun h4 => ?_)
        · refine bcd (fun h5 => ?_) (fun h5 => ?_)
          · rw [if_pos (.inr ⟨by omega, by omega⟩)] at hg
            rw [← hg] at h
            exact ret h
          · rw [if_neg (by omega), if_pos (by omega)] at hg
            refine bcd (fun h6 => ?_) (fun h6 => by exfalso; omega)
            refine ⟨⟨by omega, by omega⟩, ?_⟩
            rw [← hg, ← hor] at h
            exact ret h
        · rw [if_neg (by omega), if_pos (by omega)] at hg
          refine bcd (fun h6 => ?_) (fun h6 => by exfalso; omega)
          refine ⟨⟨by omega, by omega⟩, ?_⟩
          rw [← hg, ← hor] at h
          exact ret h
    · obtain rfl : i = b.length := by omega
      rw [List.drop_length] at hg
      rw [← hg] at h
      exact ret h
end Go.Proofs
namespace Go.Proofs
open Go Go.V
set_option linter.unusedVariables false

theorem num_spec (p : Nat) (s : Rd) (st : Store) (lo hi : Int) (hb : s.b.length ≤ 140737488355328) (R : AV → Store → Prop) (h : R (int (s.num lo hi).1) (rdO p (s.num lo hi).2 st)) : ACalls Try.prog 59 [ptr p, int lo, int hi] (rdO p s st) R := by
  refine ACalls.of_body (c := cfg 40) infoOK Try.func59 (by rfl) (by rfl) (by rfl) (by rfl) ?_
  first | refine optK_intro _ (rdO_get p s st) ?_ | refine optR (optK_intro _ (rdO_get p s st) ?_) | refine optR (optR (optK_intro _ (rdO_get p s st) ?_))
  unfold Rd.num Rd.got at h
  refine bcne (fun h1 => ?_) (fun h1 => ?_)
  · rw [if_pos h1] at h
    exact ret h
  rw [if_neg (by simpa using h1)] at h
  first | refine optK_intro _ (rdO_get p s st) ?_ | refine optR (optK_intro _ (rdO_get p s st) ?_) | refine optR (optR (optK_intro _ (rdO_get p s st) ?_))
  refine getNum_spec s.b hb _ _ ?_
  have hf := getNum_facts s.b
  refine take_spec p s st _ _ _ (fun _ he => by omega) _ ?_
  generalize s.take (getNum s.b).1 (getNum s.b).2.1 (getNum s.b).2.2 = t at h ⊢
  simp only at h
  refine bcd (fun h2 => ?_) (fun h2 => ?_)
  · refine must_spec p t.2 st (decide (t.1 ≤ hi)) _ ?_
    have e : inB t.1 lo hi = decide (t.1 ≤ hi) := by unfold inB; rw [Bool.eq_iff_iff]; simp; omega
    rw [e] at h
    exact ret h
  · refine must_spec p t.2 st false _ ?_
    have e : inB t.1 lo hi = false := by unfold inB; simp; omega
    rw [e] at h
    exact ret h

theorem getInt_spec (b : List UInt8) (hb : b.length ≤ 140737488355328) (st : Store) (R : AV → Store → Prop) (h : R (.tup [int (getInt b).1, int (getInt b).2.1, int (getInt b).2.2]) st) : ACalls Try.prog 168 [byts b] st R := by
  refine ACalls.of_body (c := cfg 24) infoOK Try.func168 (by rfl) (by rfl) (by rfl) (by rfl) ?_
  refine getNum_spec b hb _ _ ?_
  have hf := getNum_facts b
  have h0 : 0 ≤ (getNum b).1 ∧ (getNum b).1 < 9223372036854775808 := by omega
  unfold getInt zig at h
  generalize getNum b = g at h h0 ⊢
  simp only at h
  refine ⟨by decide, ?_⟩
  refine bcne (fun h2 => ?_) (fun h2 => ?_)
  · rw [Int.tmod_eq_emod_of_nonneg h0.1] at h2
    rw [if_neg h2] at h
    have e : g.1.tdiv 2 = g.1 / 2 := Int.tdiv_eq_ediv_of_nonneg h0.1
    refine ⟨by decide, ?_, ?_, ?_, ?_⟩
    · rw [e]; exact ⟨by omega, by omega⟩
    · rw [e]; exact ⟨by omega, by omega⟩
    · rw [e]; exact ⟨by omega, by omega⟩
    · rw [← e] at h
      refine ret ?_
      rw [Int.zero_sub]
      exact h
  · rw [Int.tmod_eq_emod_of_nonneg h0.1] at h2
    rw [if_pos h2] at h
    have e : g.1.tdiv 2 = g.1 / 2 := Int.tdiv_eq_ediv_of_nonneg h0.1
    refine ⟨by decide, ?_, ?_⟩
    · rw [e]; exact ⟨by omega, by omega⟩
    · rw [← e] at h
      exact ret h

theorem intr_spec (p : Nat) (s : Rd) (st : Store) (lo hi : Int) (hb : s.b.length ≤ 140737488355328) (R : AV → Store → Prop) (h : R (int (s.int lo hi).1) (rdO p (s.int lo hi).2 st)) : ACalls Try.prog 140 [ptr p, int lo, int hi] (rdO p s st) R := by
  refine ACalls.of_body (c := cfg 40) infoOK Try.func140 (by rfl) (by rfl) (by rfl) (by rfl) ?_
  first | refine optK_intro _ (rdO_get p s st) ?_ | refine optR (optK_intro _ (rdO_get p s st) ?_) | refine optR (optR (optK_intro _ (rdO_get p s st) ?_))
  unfold Rd.int Rd.got at h
  refine bcne (fun h1 => ?_) (fun h1 => ?_)
  · rw [if_pos h1] at h
    exact ret h
  rw [if_neg (by simpa using h1)] at h
  first | refine optK_intro _ (rdO_get p s st) ?_ | refine optR (optK_intro _ (rdO_get p s st) ?_) | refine optR (optR (optK_intro _ (rdO_get p s st) ?_))
  refine getInt_spec s.b hb _ _ ?_
  have hf := getNum_facts s.b
  have hf2 : (getInt s.b).2.2 = 0 → (getInt s.b).2.1 ≤ s.b.length := by unfold getInt; simp only; omega
  refine take_spec p s st _ _ _ (fun _ he => hf2 he) _ ?_
  generalize s.take (getInt s.b).1 (getInt s.b).2.1 (getInt s.b).2.2 = t at h ⊢
  simp only at h
  refine bcd (fun h2 => ?_) (fun h2 => ?_)
  · refine must_spec p t.2 st (decide (t.1 ≤ hi)) _ ?_
    have e : inB t.1 lo hi = decide (t.1 ≤ hi) := by unfold inB; rw [Bool.eq_iff_iff]; simp; omega
    rw [e] at h
    exact ret h
  · refine must_spec p t.2 st false _ ?_
    have e : inB t.1 lo hi = false := by unfold inB; simp; omega
    rw [e] at h
    exact ret h

theorem cloneB_spec (l : List UInt8) (hl : l.length ≤ 100000000000000) (st : Store) (R : AV → Store → Prop) (h : R (byts l) st) : ACalls Try.prog 139 [byts l] st R := by
  refine ACalls.of_body (c := cfg 8) infoOK Try.func139 (by rfl) (by rfl) (by rfl) (by rfl) ?_
  intro b hb
  cases b with
  | true =>
    have : l = [] := by
      have := congrArg List.length (hb rfl)
      rw [rws_len] at this
      exact List.eq_nil_of_length_eq_zero this
    subst this
    exact retR h (Store.Has.refl _) (AV.le_nil 1)
  | false =>
    refine ⟨by decide, ?_⟩
    refine appB (bs := []) (.inr (.inl ⟨rfl, rfl, rfl⟩) : App 1 st .emp (rowsB []) st) (l := l) (by rfl) (by simp; omega) (fun v st1 ha => ?_)
    exact retR h ha.has ha.le

theorem getRaw_spec (b : List UInt8) (hb : b.length ≤ 140737488355328) (st : Store) (R : AV → Store → Prop) (h : R (.tup [byts (getRaw b).1, int (getRaw b).2.1, int (getRaw b).2.2]) st) : ACalls Try.prog 103 [byts b] st R := by
  refine ACalls.of_body (c := cfg 36) infoOK Try.func103 (by rfl) (by rfl) (by rfl) (by rfl) ?_
  refine getNum_spec b hb _ _ ?_
  have hf := getNum_facts b
  unfold getRaw at h
  generalize getNum b = g at h hf ⊢
  have nl : AV.le (.s (.slice none 0 0)) (byts []) := AV.le_nil 1
  refine bcne (fun h1 => ?_) (fun h1 => ?_)
  · rw [if_pos h1] at h
    exact retR h (Store.Has.refl _) (AV.le_tupL ⟨nl, AV.le_refl _, AV.le_refl _, trivial⟩)
  rw [if_neg (by simpa using h1)] at h
  refine bcd (fun h2 => ?_) (fun h2 => ?_)
  · rw [if_pos h2] at h
    exact retR h (Store.Has.refl _) (AV.le_tupL ⟨nl, AV.le_refl _, AV.le_refl _, trivial⟩)
  rw [if_neg h2] at h
  refine ⟨by rw [rws_len]; exact ⟨by omega, by omega⟩, ?_⟩
  refine bcd (fun h3 => ?_) (fun h3 => ?_)
  · rw [rws_len] at h3
    rw [if_pos h3] at h
    exact retR h (Store.Has.refl _) (AV.le_tupL ⟨nl, AV.le_refl _, AV.le_refl _, trivial⟩)
  rw [rws_len] at h3
  rw [if_neg h3] at h
  simp only at h
  refine ⟨⟨by omega, by omega⟩, ?_⟩
  refine ⟨g.2.1, g.2.1 + g.1.toNat, rfl, ?_, by omega, by rw [rws_len]; omega, ?_⟩
  · show (g.2.1 : Int) + g.1 = ((g.2.1 + g.1.toNat : Nat) : Int)
    omega
  have e : ((rowsB b).take (g.2.1 + g.1.toNat)).drop g.2.1 = rowsB ((b.drop g.2.1).take g.1.toNat) := by
    rw [rws_take, rws_drop, List.drop_take, Nat.add_sub_cancel_left]
  rw [e]
  refine cloneB_spec ((b.drop g.2.1).take g.1.toNat) (by simp; omega) _ _ ?_
  refine ⟨⟨by omega, by omega⟩, ?_⟩
  have e2 : ((g.2.1 : Int) + g.1) = ((g.2.1 + g.1.toNat : Nat) : Int) := by omega
  rw [← e2] at h
  exact ret h

theorem rawr_spec (p : Nat) (s : Rd) (st : Store) (hb : s.b.length ≤ 140737488355328) (R : AV → Store → Prop) (h : R (byts s.raw.1) (rdO p s.raw.2 st)) : ACalls Try.prog 60 [ptr p] (rdO p s st) R := by
  refine ACalls.of_body (c := cfg 25) infoOK Try.func60 (by rfl) (by rfl) (by rfl) (by rfl) ?_
  first | refine optK_intro _ (rdO_get p s st) ?_ | refine optR (optK_intro _ (rdO_get p s st) ?_) | refine optR (optR (optK_intro _ (rdO_get p s st) ?_))
  unfold Rd.raw at h
  refine bcne (fun h1 => ?_) (fun h1 => ?_)
  · rw [if_pos h1] at h
    exact retR h (Store.Has.refl _) (AV.le_nil 1)
  rw [if_neg (by simpa using h1)] at h
  first | refine optK_intro _ (rdO_get p s st) ?_ | refine optR (optK_intro _ (rdO_get p s st) ?_) | refine optR (optR (optK_intro _ (rdO_get p s st) ?_))
  refine getRaw_spec s.b hb _ _ ?_
  exact take_spec p s st 0 _ _ (fun _ he => getRaw_le he) _ (ret h)

theorem fin_spec (p : Nat) (s : Rd) (st : Store) (R : AV → Store → Prop) (h : R (.tup []) (rdO p s.fin st)) : ACalls Try.prog 104 [ptr p] (rdO p s st) R := by
  refine ACalls.of_body (c := cfg 10) infoOK Try.func104 (by rfl) (by rfl) (by rfl) (by rfl) ?_
  first | refine optK_intro _ (rdO_get p s st) ?_ | refine optR (optK_intro _ (rdO_get p s st) ?_) | refine optR (optR (optK_intro _ (rdO_get p s st) ?_))
  refine must_spec p s st (((rowsB s.b).length : Int) == 0) _ ?_
  have e : (((rowsB s.b).length : Int) == 0) = (s.b.length == 0) := by
    rw [rws_len, Bool.eq_iff_iff]; simp
  rw [e]
  exact ret h

theorem ids_spec2 (p : Nat) (s : Rd) (st : Store) (hb : s.b.length ≤ 140737488355328) (R : AV → Store → Prop) (h : R (ints s.ids.1) (rdO p s.ids.2 st)) : ACalls Try.prog 141 [ptr p] (rdO p s st) R := by
  refine ACalls.of_body (c := cfg 27) infoOK Try.func141 (by rfl) (by rfl) (by rfl) (by rfl) ?_
  refine num_spec p s st 1 64 hb _ ?_
  have hr := num_I64 s 1 64
  have hl := num_len s 1 64
  unfold Rd.ids at h
  generalize hk : (s.num 1 64).1 = m at h hr ⊢
  have hm : (s.num 1 64).2.e = 0 → m ≤ 64 := fun he => by have := got_e he; unfold Rd.num at hk; omega
  clear hk
  generalize (s.num 1 64).2 = s1 at h hl hm ⊢
  refine AWp.loop (σ := Nat × Rd × Int × List Int × AV) ⟨fun x => [(0, .av (ptr p)), (2, .av x.2.2.2.2), (3, .av (int x.2.2.1)), (4, .av (int (x.1 : Nat)))], fun _ => [],
    fun x st' => (x.1 : Int) ≤ m ∧ x.2.1.b.length ≤ s.b.length ∧ Rd.idsGo x.1 x.2.1 x.2.2.1 x.2.2.2.1 = Rd.idsGo m.toNat s1 0 [] ∧ (x.2.1.e = 0 → 0 ≤ x.2.2.1 ∧ x.2.2.1 ≤ 1099511627776 ∧ m ≤ 64) ∧ (x.2.2.2.1.length : Int) + x.1 ≤ m ∧
      App 1 (rdO p x.2.1 st) x.2.2.2.2 (rowsI x.2.2.2.1) st', fun x => x.1⟩ infoOK ?_ ?_
  · refine ⟨(m.toNat, s1, 0, [], _), trivial, ⟨by simp; omega, by simp; omega, rfl, fun he => ⟨by simp, by simp, hm he⟩, by simp; omega, App.start 1 _⟩, ⟨LV.le_refl _, LV.le_refl _, LV.le_refl _, ?_, trivial⟩, trivial⟩
    have : ((m.toNat : Nat) : Int) = m := by omega
    rw [this]
    exact LV.le_refl _
  · rintro ⟨n, t, last, l, v⟩ st' ⟨hn, htl, hg, he, hll, ha⟩
    dsimp only at hn htl hg he hll ha ⊢
    obtain ⟨st1, rfl, hs1, hA⟩ := ha.split
    change ∀ y, App 1 (st.setObj p y) v (rowsI l) (st1.setObj p y) at hA
    show vc _ _ _ _ _ (rdO p t st1)
    refine bcd (fun h1 => ?_) (fun h1 => ?_)
    · obtain ⟨k, rfl⟩ : ∃ k, n = k + 1 := ⟨n - 1, by omega⟩
      first | refine optK_intro _ (rdO_get p t st1) ?_ | refine optR (optK_intro _ (rdO_get p t st1) ?_) | refine optR (optR (optK_intro _ (rdO_get p t st1) ?_))
      refine bceq (fun h2 => ?_) (fun h2 => ?_)
      · obtain ⟨b1, b2, b3⟩ := he h2
        refine ⟨⟨by omega, by omega⟩, ?_⟩
        refine num_spec p t st1 (last + 1) 1099511627776 (by omega) _ ?_
        have hr2 := num_I64 t (last + 1) 1099511627776
        have hl2 := num_len t (last + 1) 1099511627776
        rw [idsGo_ok h2] at hg
        have he2 : (t.num (last + 1) 1099511627776).2.e = 0 → 0 ≤ (t.num (last + 1) 1099511627776).1 ∧ (t.num (last + 1) 1099511627776).1 ≤ 1099511627776 ∧ m ≤ 64 := by
          intro h3
          have h4 := got_e h3
          refine ⟨hr2.1, ?_, b3⟩
          unfold Rd.num
          omega
        generalize t.num (last + 1) 1099511627776 = u at hg hr2 hl2 he2 ⊢
        refine ⟨by decide, ?_⟩
        refine appendK_app (ie := ti3) (rows' := [[int u.1]]) (hA (.cells [byts u.2.b, int u.2.e])) (by rfl) (by rfl) ⟨?_, ?_⟩ (fun v2 st2 ha2 => ?_)
        · simp [rws_len, ti3]; omega
        · simp [rws_len]; omega
        refine ⟨⟨by omega, by omega⟩, ?_⟩
        refine ⟨(k, u.2, u.1, l ++ [u.1], v2), ?_, ⟨by simp only; omega, by simp only; omega, hg, he2, by simp; omega, ?_⟩, ⟨LV.le_refl _, LV.le_refl _, LV.le_refl _, ?_, trivial⟩, trivial⟩
        · show k < k + 1
          omega
        · show App 1 (rdO p u.2 st) v2 (rws intC (l ++ [u.1])) st2
          rw [← rws_app]
          exact ha2
        · have : (((k + 1 : Nat) : Int) - 1) = (k : Int) := by omega
          show LV.le (.av (int (((k + 1 : Nat) : Int) - 1))) (.av (int (k : Int)))
          rw [this]
          exact LV.le_refl _
      · rw [idsGo_bad h2] at hg
        rw [← hg] at h
        exact retR h (has_setObj2 hs1) ha.le
    · obtain rfl : n = 0 := by omega
      rw [show Rd.idsGo 0 t last l = (l, t) from rfl] at hg
      rw [← hg] at h
      exact retR h (has_setObj2 hs1) ha.le
end Go.Proofs
namespace Go.Proofs
open Go Go.V
set_option linter.unusedVariables false

theorem rdO_drop {p : Nat} {s : Rd} {st : Store} (h : st.obj p = none) : (rdO p s st).Has st := has_setObj h

theorem cmd_spec (p : Nat) (s : Rd) (st : Store) (hb : s.b.length ≤ 140737488355328) (R : AV → Store → Prop) (h : R (.agg (cmdC s.cmd.1)) (rdO p s.cmd.2 st)) : ACalls Try.prog 106 [ptr p] (rdO p s st) R := by
  refine ACalls.of_body (c := cfg 73) infoOK Try.func106 (by rfl) (by rfl) (by rfl) (by rfl) ?_
  refine num_spec p s st 1 7 hb _ ?_
  have l1 := num_len s 1 7
  refine num_spec p _ st 1 8 (by omega) _ ?_
  have l2 := num_len (s.num 1 7).2 1 8
  refine num_spec p _ st 0 1099511627776 (by omega) _ ?_
  have l3 := num_len ((s.num 1 7).2.num 1 8).2 0 1099511627776
  unfold Rd.cmd at h
  simp only at h
  generalize hq : ((s.num 1 7).2.num 1 8).2.num 0 1099511627776 = q at *
  generalize hp : (s.num 1 7).2.num 1 8 = pp at *
  generalize hk : s.num 1 7 = k at *
  have l4 : q.2.b.length ≤ 140737488355328 := by omega
  unfold Rd.tail cmd0 at h
  simp only at h
  refine bceq (fun k1 => ?_) (fun k1 => ?_)
  · rw [if_pos k1] at h
    refine num_spec p _ st 0 3 (by omega) _ ?_
    have l5 := num_len q.2 0 3
    refine intr_spec p _ st (-1099511627776) 1099511627776 (by omega) _ ?_
    have l6 := int_len (q.2.num 0 3).2 (-1099511627776) 1099511627776
    refine intr_spec p _ st (-1099511627776) 1099511627776 (by omega) _ ?_
    exact retR h (Store.Has.refl _) (AV.le_aggL ⟨AV.le_refl _, AV.le_refl _, AV.le_refl _, AV.le_refl _, AV.le_nil 1, AV.le_refl _, AV.le_refl _, AV.le_refl _, AV.le_refl _, AV.le_refl _, trivial⟩)
  rw [if_neg k1] at h
  refine bceq (fun k2 => ?_) (fun k2 => ?_)
  · rw [if_pos k2] at h
    refine ids_spec2 p _ st (by omega) _ ?_
    have l5 := ids_len q.2
    refine num_spec p _ st 0 16383 (by omega) _ ?_
    exact ret h
  rw [if_neg k2] at h
  refine bceq (fun k3 => ?_) (fun k3 => ?_)
  · rw [if_pos k3] at h
    refine ids_spec2 p _ st (by omega) _ ?_
    exact ret h
  rw [if_neg k3] at h
  refine bceq (fun k4 => ?_) (fun k4 => ?_)
  · rw [if_pos k4] at h
    refine num_spec p _ st 0 16383 (by omega) _ ?_
    have l5 := num_len q.2 0 16383
    refine num_spec p _ st 1 4 (by omega) _ ?_
    have l6 := num_len (q.2.num 0 16383).2 1 4
    refine num_spec p _ st 1 4 (by omega) _ ?_
    exact retR h (Store.Has.refl _) (AV.le_aggL ⟨AV.le_refl _, AV.le_refl _, AV.le_refl _, AV.le_refl _, AV.le_nil 1, AV.le_refl _, AV.le_refl _, AV.le_refl _, AV.le_refl _, AV.le_refl _, trivial⟩)
  rw [if_neg k4] at h
  refine bceq (fun k5 => ?_) (fun k5 => ?_)
  · rw [if_pos k5] at h
    refine num_spec p _ st 1 1099511627776 (by omega) _ ?_
    exact retR h (Store.Has.refl _) (AV.le_aggL ⟨AV.le_refl _, AV.le_refl _, AV.le_refl _, AV.le_refl _, AV.le_nil 1, AV.le_refl _, AV.le_refl _, AV.le_refl _, AV.le_refl _, AV.le_refl _, trivial⟩)
  rw [if_neg k5] at h
  refine bceq (fun k6 => ?_) (fun k6 => ?_)
  · rw [if_pos k6] at h
    refine ids_spec2 p _ st (by omega) _ ?_
    have l5 := ids_len q.2
    refine num_spec p _ st 1 1099511627776 (by omega) _ ?_
    exact ret h
  rw [if_neg k6] at h
  refine bceq (fun k7 => ?_) (fun k7 => ?_)
  · rw [if_pos k7] at h
    refine num_spec p _ st 1 1099511627776 (by omega) _ ?_
    have l5 := num_len q.2 1 1099511627776
    refine num_spec p _ st 0 16383 (by omega) _ ?_
    exact retR h (Store.Has.refl _) (AV.le_aggL ⟨AV.le_refl _, AV.le_refl _, AV.le_refl _, AV.le_refl _, AV.le_nil 1, AV.le_refl _, AV.le_refl _, AV.le_refl _, AV.le_refl _, AV.le_refl _, trivial⟩)
  rw [if_neg k7] at h
  exact retR h (Store.Has.refl _) (AV.le_aggL ⟨AV.le_refl _, AV.le_refl _, AV.le_refl _, AV.le_refl _, AV.le_nil 1, AV.le_refl _, AV.le_refl _, AV.le_refl _, AV.le_refl _, AV.le_refl _, trivial⟩)

theorem leN_spec (l : List UInt8) (hl : l.length ≤ 8) {v : AV} (hv : AV.le v (byts l)) (st : Store) (R : AV → Store → Prop) (h : R (u64 (leN l)) st) : ACalls Try.prog 108 [v] st R := by
  refine ACalls.le (ys := [byts l]) ⟨hv, trivial⟩ ?_
  refine ACalls.of_body (c := cfg 21) infoOK Try.func108 (by rfl) (by rfl) (by rfl) (by rfl) ?_
  refine AWp.loop (σ := Nat) ⟨fun i => [(2, .av (u64 (leN (l.take i)))), (5, .av (byts l)), (6, .av (int l.length)), (7, .av (int (i : Nat)))], fun _ => [],
    fun i st' => i ≤ l.length ∧ st' = st, fun i => l.length - i⟩ infoOK ?_ ?_
  · refine ⟨0, trivial, ⟨Nat.zero_le _, rfl⟩, ⟨LV.le_refl _, LV.le_refl _, ?_, LV.le_refl _, trivial⟩, trivial⟩
    rw [← rws_len (f := u8C) l]
    exact LV.le_refl _
  · rintro i st' ⟨hi, rfl⟩
    refine bcd (fun h1 => ?_) (fun h1 => ?_)
    · have hlt : i < l.length := by omega
      refine ⟨i, rfl, optK_intro _ (rws_get hlt) ?_⟩
      refine ⟨⟨by omega, by omega⟩, by omega, ?_⟩
      refine ⟨⟨by omega, by omega⟩, ?_⟩
      refine ⟨i + 1, ?_, ⟨hlt, rfl⟩, ⟨?_, LV.le_refl _, LV.le_refl _, LV.le_refl _, trivial⟩, trivial⟩
      · show l.length - (i + 1) < l.length - i
        omega
      · have hlen : (l.take i).length = i := by rw [List.length_take]; omega
        have e := or8 (l := l.take i) (c := l[i]) (by omega)
        rw [hlen] at e
        rw [List.take_succ_eq_append_getElem hlt, ← e]
        exact LV.le_refl _
    · obtain rfl : i = l.length := by omega
      rw [← List.take_length (l := l)] at h
      exact ret h
end Go.Proofs
namespace Go.Proofs
open Go Go.V
set_option linter.unusedVariables false

theorem leNil : AV.le nil (byts []) := AV.le_nil 1

set_option maxHeartbeats 1000000 in
theorem mapParse_spec (b : List UInt8) (hb : b.length ≤ 1048576) (st : Store) (R : AV → Store → Prop) (h : R (.tup [.agg (gndC (mapParse b).1), int (mapParse b).2]) st) : ACalls Try.prog 61 [byts b] st R := by
  refine ACalls.of_body (c := cfg 77 [10, 12] [25]) infoOK Try.func61 (by rfl) (by rfl) (by rfl) (by rfl) ?_
  intro p hp
  refine ⟨by decide, fun tk htk => ?_⟩
  refine optR (optR (optR (optK_intro _ (setTok_self _ _ _) ?_)))
  refine ACalls.drop (st' := rdO p ⟨b, 0⟩ st) (has_tok htk.2) ?_
  refine same_spec p ⟨b, 0⟩ st [84, 71] (AV.le_tok _ _ _) (by simp) _ ?_
  have l1 := same_len ⟨b, 0⟩ [84, 71]
  simp only at l1
  refine num_spec p _ st 1 128 (by omega) _ ?_
  have l2 := num_len (Rd.same ⟨b, 0⟩ [84, 71]) 1 128
  refine num_spec p (mapHead b).2 st 1 128 (by unfold mapHead; omega) _ ?_
  have lt := mapTiles_len b
  refine AWp.loop (σ := Int × Rd × List UInt8 × AV) ⟨fun x => [(0, .av (byts b)), (2, .bx 2 0), (4, .bx 4 0), (5, .av (ptr p)), (6, .av (int x.1))], fun x => [(2, [int 0, int 0, nil]), (4, [int (mapHead b).1, int (mapSide b).1, x.2.2.2])],
    fun x st' => (x.2.1.e = 0 → 0 ≤ x.1 ∧ x.1 + x.2.2.1.length ≤ 16384) ∧ Rd.tilesGo x.1.toNat x.2.1 x.2.2.1 = mapTiles b ∧ App 1 (rdO p x.2.1 st) x.2.2.2 (rowsB x.2.2.1) st', fun x => x.1.toNat⟩ infoOK ?_ ?_
  · refine ⟨(IntKind.i64.wrap ((mapHead b).1 * (mapSide b).1), (mapSide b).2, [], nil), trivial, ⟨fun he => ?_, ?_, App.start 1 _⟩, ⟨LV.le_refl _, LV.le_refl _, LV.le_refl _, LV.le_refl _, LV.le_refl _, trivial⟩, (by repeat (first | exact trivial | refine ⟨rfl, ?_⟩ | refine ⟨optR (optR (optR (optK_intro _ (setObj_self _ _ _) rfl))), ?_⟩))⟩
    · have := mapSide_ok he
      simp only
      rw [wrap_i64 ⟨by omega, by omega⟩]
      simp; omega
    · simp only
      by_cases he : (mapSide b).2.e = 0
      · have := mapSide_ok he
        rw [wrap_i64 ⟨by omega, by omega⟩]
        rfl
      · unfold mapTiles
        rw [tilesGo_bad he, tilesGo_bad he]
  rintro ⟨m, s, l, v⟩ st' ⟨hm, hg, ha⟩
  dsimp only at hm hg ha ⊢
  obtain ⟨st1, rfl, hs1, hA⟩ := ha.split
  show vc _ _ _ _ _ (rdO p s st1)
  by_cases hx : m > 0 ∧ s.e = 0
  · obtain ⟨h1, h2⟩ := hx
    refine bcd (fun _ => ?_) (fun h => absurd h1 h)
    first | refine optK_intro _ (rdO_get p _ _) ?_ | refine optR (optK_intro _ (rdO_get p _ _) ?_) | refine optR (optR (optK_intro _ (rdO_get p _ _) ?_))
    refine bceq (fun _ => ?_) (fun h => absurd h2 h)
    obtain ⟨b1, b2⟩ := hm h2
    refine byte_spec p s st1 _ ?_
    refine must_spec p _ st1 (decide ((s.byte.1.toNat : Int) ≤ 5)) _ ?_
    refine ⟨by decide, ?_⟩
    have e5 : decide ((s.byte.1.toNat : Int) ≤ 5) = decide (s.byte.1.toNat ≤ 5) := by rw [Bool.eq_iff_iff]; simp; omega
    rw [e5]
    refine appB (hA (.cells [byts (s.byte.2.must (decide (s.byte.1.toNat ≤ 5))).b, int (s.byte.2.must (decide (s.byte.1.toNat ≤ 5))).e])) (l := [s.byte.1]) (by rfl) (by simp; omega) (fun v2 st2 ha2 => ?_)
    refine storeK_box ha2.cells ha2.one (by rfl) (by rfl) (by simp) ?_
    refine ⟨⟨by omega, by omega⟩, ?_⟩
    obtain ⟨k, rfl⟩ : ∃ k : Nat, m = k + 1 := ⟨(m - 1).toNat, by omega⟩
    have e1 : ((k : Int) + 1).toNat = k + 1 := by omega
    rw [e1, tilesGo_ok h2] at hg
    refine ⟨((k : Int) + 1 - 1, s.byte.2.must (decide (s.byte.1.toNat ≤ 5)), l ++ [s.byte.1], v2), ?_, ⟨fun _ => ?_, ?_, ha2⟩, ⟨LV.le_refl _, LV.le_refl _, LV.le_refl _, LV.le_refl _, LV.le_refl _, trivial⟩, ⟨rfl, rfl, trivial⟩⟩
    · show ((k : Int) + 1 - 1).toNat < ((k : Int) + 1).toNat
      omega
    · simp; omega
    · show Rd.tilesGo ((k : Int) + 1 - 1).toNat _ _ = _
      have e2 : ((k : Int) + 1 - 1).toNat = k := by omega
      rw [e2]
      exact hg
  · have hT : mapTiles b = (l, s) := by
      rw [← hg]
      by_cases h2 : s.e = 0
      · have : m.toNat = 0 := by omega
        rw [this]; rfl
      · exact tilesGo_bad h2
    rw [hT] at lt
    have hS : mapSum b = (s.same (eightL (fnvSum fnvStart (b.take (b.length - s.b.length))))).fin := by unfold mapSum; rw [hT]
    unfold mapParse at h
    rw [hT, hS] at h
    have hdr := rdO_drop (p := p) (s := (s.same (eightL (fnvSum fnvStart (b.take (b.length - s.b.length))))).fin) hp.1
    first | refine bcd (fun h1 => optK_intro _ (rdO_get p s st1) (bceq (fun h2 => absurd ⟨h1, h2⟩ hx) (fun _ => ?_))) (fun h1 => ?_) | refine bcd (fun h1 => optR (optK_intro _ (rdO_get p s st1) (bceq (fun h2 => absurd ⟨h1, h2⟩ hx) (fun _ => ?_)))) (fun h1 => ?_) | refine bcd (fun h1 => optR (optR (optK_intro _ (rdO_get p s st1) (bceq (fun h2 => absurd ⟨h1, h2⟩ hx) (fun _ => ?_))))) (fun h1 => ?_)
    all_goals
      try dsimp only at h lt
      refine ADraw.of_sched infoOK (by rfl) (by rfl) sch61_12 (by rfl) ?_
      first | refine optK_intro _ (rdO_get p s st1) ?_ | refine optR (optK_intro _ (rdO_get p s st1) ?_) | refine optR (optR (optK_intro _ (rdO_get p s st1) ?_))
      refine ⟨by rw [rws_len, rws_len]; exact ⟨by omega, by omega⟩, ?_⟩
      refine ⟨0, b.length - s.b.length, rfl, by rw [rws_len, rws_len]; show ((b.length : Int) - (s.b.length : Int)) = ((b.length - s.b.length : Nat) : Int); omega, by omega, by rw [rws_len]; omega, ?_⟩
      refine ⟨startSum_spec _ _ ⟨⟨rfl, optR (optR (optR (optK_intro _ (rdO_get p s st1) rfl))), rfl, trivial⟩, ?_⟩, trivial⟩
      refine ⟨fnvSumV (l := b.take (b.length - s.b.length)) _ (by rw [rws_take]; exact AV.le_refl _) (by rw [List.length_take]; omega) ⟨trivial, ?_⟩, trivial⟩
      refine ⟨fnvBytes_spec _ _ _ ⟨trivial, ?_⟩, trivial⟩
      refine ⟨same_spec p s st1 (eightL (fnvSum fnvStart (b.take (b.length - s.b.length)))) (AV.le_refl _) (by rw [eightL_len]; omega) _ ⟨trivial, ?_⟩, trivial⟩
      refine fin_spec p _ st1 _ ?_
      generalize (s.same (eightL (fnvSum fnvStart (b.take (b.length - s.b.length))))).fin = z at h hdr ⊢
      first | refine optK_intro _ (rdO_get p z st1) ?_ | refine optR (optK_intro _ (rdO_get p z st1) ?_) | refine optR (optR (optK_intro _ (rdO_get p z st1) ?_))
      refine bcne (fun h3 => ?_) (fun h3 => ?_)
      · rw [if_pos h3] at h
        refine ADraw.of_sched infoOK (by rfl) (by rfl) sch61_15 (by rfl) ?_
        first | refine optK_intro _ (rdO_get p z st1) ?_ | refine optR (optK_intro _ (rdO_get p z st1) ?_) | refine optR (optR (optK_intro _ (rdO_get p z st1) ?_))
        refine ⟨⟨(by repeat (first | exact trivial | refine ⟨rfl, ?_⟩ | refine ⟨optR (optR (optR (optK_intro _ (setObj_self _ _ _) rfl))), ?_⟩)), ?_⟩, trivial⟩
        refine ⟨⟨trivial, ?_⟩, trivial⟩
        exact retR h ((has_setObj2 hs1).trans hdr) (AV.le_tupL ⟨AV.le_aggL ⟨AV.le_refl _, AV.le_refl _, leNil, trivial⟩, AV.le_refl _, trivial⟩)
      · rw [if_neg (by simpa using h3)] at h
        refine storeK_boxL (v := .agg [int (mapHead b).1, int (mapSide b).1, v]) (xs := [int (mapHead b).1, int (mapSide b).1, v]) (by rfl) (by simp only [List.all_cons, List.all_nil, ha.one]; rfl) (by rfl) (by rfl) (by simp) ?_
        exact retR h ((has_setObj2 hs1).trans hdr) (AV.le_tupL ⟨AV.le_aggL ⟨AV.le_refl _, AV.le_refl _, ha.le, trivial⟩, AV.le_refl _, trivial⟩)
end Go.Proofs
namespace Go.Proofs
open Go Go.V
set_option linter.unusedVariables false

theorem rdO_other {p q : Nat} (h : q ≠ p) (s : Rd) (st : Store) : (rdO p s st).obj q = st.obj q := setObj_ne h
theorem rdO_setObj {p q : Nat} (h : q ≠ p) (s : Rd) (st : Store) (x : AObj) : (rdO p s st).setObj q x = rdO p s (st.setObj q x) := setObj_comm h

theorem nextB_nil (pl : Int) (c : Cmd) : nextB pl [] c = decide (c.P ≤ pl) := by simp [nextB]
theorem nextB_cons {pl : Int} {l : List Cmd} {c : Cmd} (h : l.length - 1 < l.length) : nextB pl l c = (decide (c.P ≤ pl) && decide (afterP l[l.length - 1] c)) := by
  unfold nextB
  rw [List.getLast?_eq_getElem?, List.getElem?_eq_getElem h]

set_option maxHeartbeats 2000000 in
theorem frame_spec (p q : Nat) (hpq : q ≠ p) (s : Rd) (st : Store) (pl sum turn : Int) (hq : st.obj q = some (.cells [ptr p, int pl, u64 sum])) (hb : s.b.length ≤ 1048576) (R : AV → Store → Prop)
    (h : R (.agg (frmC (frFrm pl s turn))) (rdO p (frRd pl sum s) (st.setObj q (.cells [ptr p, int pl, u64 (frNext pl sum s)])))) : ACalls Try.prog 63 [ptr q, int turn] (rdO p s st) R := by
  refine ACalls.of_body (c := cfg 137) infoOK Try.func63 (by rfl) (by rfl) (by rfl) (by rfl) ?_
  have hq0 : ∀ {t : Rd} {st1 : Store}, st1.Has st → (rdO p t st1).obj q = some (.cells [ptr p, int pl, u64 sum]) := by
    intro t st1 hs
    rw [rdO_other hpq]; exact hs.obj q _ hq
  first | refine optK_intro _ (hq0 (Store.Has.refl _)) ?_ | refine optR (optK_intro _ (hq0 (Store.Has.refl _)) ?_) | refine optR (optR (optK_intro _ (hq0 (Store.Has.refl _)) ?_))
  first | refine optK_intro _ (rdO_get p s st) ?_ | refine optR (optK_intro _ (rdO_get p s st) ?_) | refine optR (optR (optK_intro _ (rdO_get p s st) ?_))
  first | refine optK_intro _ (hq0 (Store.Has.refl _)) ?_ | refine optR (optK_intro _ (hq0 (Store.Has.refl _)) ?_) | refine optR (optR (optK_intro _ (hq0 (Store.Has.refl _)) ?_))
  refine num_spec p s st 0 512 (by omega) _ ?_
  have hr := num_I64 s 0 512
  have hfl := frHash_len pl s
  have hm : (s.num 0 512).2.e = 0 → (s.num 0 512).1 ≤ 512 := fun he => by have := got_e he; unfold Rd.num; omega
  refine AWp.loop (σ := Nat × Rd × List Cmd × AV) ⟨fun x => [(0, .av (ptr q)), (4, .bx 4 0), (5, .bx 5 0), (6, .av (byts s.b)), (7, .av (int (x.1 : Nat)))], fun x => [(4, [int 0, nil, u64 0]), (5, [int turn, x.2.2.2, u64 0])],
    fun x st' => (x.2.1.e = 0 → x.1 + x.2.2.1.length ≤ 512) ∧ Rd.cmdsGo pl x.1 x.2.1 x.2.2.1 = frCmds pl s ∧ App 10 (rdO p x.2.1 st) x.2.2.2 (rws cmdC x.2.2.1) st' ∧ (x.2.2.1 = [] → x.2.2.2 = nil) ∧ x.2.1.b.length ≤ s.b.length, fun x => x.1⟩ infoOK ?_ ?_
  · refine ⟨((s.num 0 512).1.toNat, (s.num 0 512).2, [], nil), trivial, ⟨fun he => ?_, rfl, App.start 10 _, fun _ => rfl, num_len _ _ _⟩, ⟨LV.le_refl _, LV.le_refl _, LV.le_refl _, LV.le_refl _, ?_, trivial⟩, ⟨rfl, rfl, trivial⟩⟩
    · have := hm he
      simp; omega
    · have : (((s.num 0 512).1.toNat : Nat) : Int) = (s.num 0 512).1 := by omega
      simp only
      rw [this]
      exact LV.le_refl _
  rintro ⟨n, t, l, v⟩ st' ⟨hn, hg, ha, hnil, htl⟩
  dsimp only at hn hg ha hnil htl ⊢
  obtain ⟨st1, rfl, hs1, hA⟩ := ha.split
  show vc _ _ _ _ _ (rdO p t st1)
  by_cases hx : (n : Int) > 0 ∧ t.e = 0
  · obtain ⟨h1, h2⟩ := hx
    refine bcd (fun _ => ?_) (fun h => absurd h1 h)
    first | refine optK_intro _ (hq0 hs1) ?_ | refine optR (optK_intro _ (hq0 hs1) ?_) | refine optR (optR (optK_intro _ (hq0 hs1) ?_))
    first | refine optK_intro _ (rdO_get p t st1) ?_ | refine optR (optK_intro _ (rdO_get p t st1) ?_) | refine optR (optR (optK_intro _ (rdO_get p t st1) ?_))
    refine bceq (fun _ => ?_) (fun h => absurd h2 h)
    obtain ⟨k, rfl⟩ : ∃ k, n = k + 1 := ⟨n - 1, by omega⟩
    have hn := hn h2
    rw [cmdsGo_ok h2] at hg
    first | refine optK_intro _ (hq0 hs1) ?_ | refine optR (optK_intro _ (hq0 hs1) ?_) | refine optR (optR (optK_intro _ (hq0 hs1) ?_))
    refine cmd_spec p t st1 (by omega) _ ?_
    have hcl := cmd_len t
    generalize hc : t.cmd = c at hg hcl ⊢
    by_cases hl : l = []
    · have hv := hnil hl
      subst hv
      refine ADraw.of_sched infoOK (by rfl) (by rfl) sch63_8 (by rfl) ?_
      first | refine optK_intro _ (hq0 hs1) ?_ | refine optR (optK_intro _ (hq0 hs1) ?_) | refine optR (optR (optK_intro _ (hq0 hs1) ?_))
      first | refine optK_intro _ (hq0 hs1) ?_ | refine optR (optK_intro _ (hq0 hs1) ?_) | refine optR (optR (optK_intro _ (hq0 hs1) ?_))
      refine bcd (fun h3 => ?_) (fun h3 => ?_)
      · have e : nextB pl l c.1 = true := by rw [hl, nextB_nil]; simpa using h3
        refine ⟨⟨⟨optR (optR (optR (optK_intro _ (hq0 hs1) rfl))), trivial⟩, ?_⟩, trivial⟩
        rw [e] at hg
        refine ⟨must_spec p c.2 st1 (true) _ ⟨trivial, ?_⟩, trivial⟩
        refine ⟨by decide, ?_⟩
        refine appendK_app (ie := ti84) (rows' := [cmdC c.1]) (hA (.cells [byts (c.2.must (true)).b, int (c.2.must (true)).e])) (by rfl) (by rfl) ⟨?_, ?_⟩ (fun v2 st2 ha2 => ?_)
        · simp [rws_len, ti84]; omega
        · simp [rws_len]; omega
        refine storeK_box ha2.cells ha2.one (by rfl) (by rfl) (by simp) ?_
        refine ⟨⟨by omega, by omega⟩, ?_⟩
        refine ⟨(k, c.2.must (true), l ++ [c.1], v2), ?_, ⟨fun _ => by simp; omega, hg, ?_, fun h => by simp at h, by simp only [must_len]; omega⟩, ⟨LV.le_refl _, LV.le_refl _, LV.le_refl _, LV.le_refl _, ?_, trivial⟩, ⟨rfl, rfl, trivial⟩⟩
        · show k < k + 1
          omega
        · rw [← rws_app]
          exact ha2
        · show LV.le (.av (int (((k + 1 : Nat) : Int) - 1))) (.av (int (k : Int)))
          rw [show (((k + 1 : Nat) : Int) - 1) = (k : Int) by omega]
          exact LV.le_refl _
      · have e : nextB pl l c.1 = false := by rw [hl, nextB_nil]; simpa using h3
        refine ⟨⟨⟨optR (optR (optR (optK_intro _ (hq0 hs1) rfl))), trivial⟩, ?_⟩, trivial⟩
        rw [e] at hg
        refine ⟨must_spec p c.2 st1 (false) _ ⟨trivial, ?_⟩, trivial⟩
        refine ⟨by decide, ?_⟩
        refine appendK_app (ie := ti84) (rows' := [cmdC c.1]) (hA (.cells [byts (c.2.must (false)).b, int (c.2.must (false)).e])) (by rfl) (by rfl) ⟨?_, ?_⟩ (fun v2 st2 ha2 => ?_)
        · simp [rws_len, ti84]; omega
        · simp [rws_len]; omega
        refine storeK_box ha2.cells ha2.one (by rfl) (by rfl) (by simp) ?_
        refine ⟨⟨by omega, by omega⟩, ?_⟩
        refine ⟨(k, c.2.must (false), l ++ [c.1], v2), ?_, ⟨fun _ => by simp; omega, hg, ?_, fun h => by simp at h, by simp only [must_len]; omega⟩, ⟨LV.le_refl _, LV.le_refl _, LV.le_refl _, LV.le_refl _, ?_, trivial⟩, ⟨rfl, rfl, trivial⟩⟩
        · show k < k + 1
          omega
        · rw [← rws_app]
          exact ha2
        · show LV.le (.av (int (((k + 1 : Nat) : Int) - 1))) (.av (int (k : Int)))
          rw [show (((k + 1 : Nat) : Int) - 1) = (k : Int) by omega]
          exact LV.le_refl _
    · have hpos : 0 < l.length := List.length_pos_iff.2 hl
      have hlt : l.length - 1 < l.length := by omega
      obtain ⟨tb, rfl⟩ := ha.lst (by intro e; apply hl; have := congrArg List.length e; rw [rws_len] at this; exact List.eq_nil_of_length_eq_zero this)
      refine ADraw.of_sched infoOK (by rfl) (by rfl) sch63_8 (by rfl) ?_
      first | refine optK_intro _ (hq0 hs1) ?_ | refine optR (optK_intro _ (hq0 hs1) ?_) | refine optR (optR (optK_intro _ (hq0 hs1) ?_))
      first | refine optK_intro _ (hq0 hs1) ?_ | refine optR (optK_intro _ (hq0 hs1) ?_) | refine optR (optR (optK_intro _ (hq0 hs1) ?_))
      refine bcd (fun h3 => ?_) (fun h3 => ?_)
      · refine bceq (fun h4 => ?_) (fun h4 => ?_)
        · rw [rws_len] at h4; omega
        have em : max2 ((rws cmdC l).length : Int) 1 = l.length := by rw [rws_len]; unfold max2; simp only [show decide ((1 : Int) > (l.length : Int)) = false by simp; omega, cond_false]
        refine ⟨?_, ?_⟩
        · show InI64 (max2 ((rws cmdC l).length : Int) 1 - 1)
          rw [em]; exact ⟨by omega, by omega⟩
        refine ⟨l.length - 1, ?_, optK_intro _ (rws_get hlt) ?_⟩
        · show max2 ((rws cmdC l).length : Int) 1 - 1 = ((l.length - 1 : Nat) : Int)
          rw [em]; omega
        refine ⟨behind_spec c.1 l[l.length - 1] _ _ (fun b hb => ⟨⟨optR (optR (optR (optK_intro _ (hq0 hs1) rfl))), trivial⟩, ?_⟩), trivial⟩
        have e : nextB pl l c.1 = b := by
          rw [nextB_cons hlt, Bool.eq_iff_iff, hb]
          simp [h3]
        rw [e] at hg
        refine ⟨must_spec p c.2 st1 (b) _ ⟨trivial, ?_⟩, trivial⟩
        refine ⟨by decide, ?_⟩
        refine appendK_app (ie := ti84) (rows' := [cmdC c.1]) (hA (.cells [byts (c.2.must (b)).b, int (c.2.must (b)).e])) (by rfl) (by rfl) ⟨?_, ?_⟩ (fun v2 st2 ha2 => ?_)
        · simp [rws_len, ti84]; omega
        · simp [rws_len]; omega
        refine storeK_box ha2.cells ha2.one (by rfl) (by rfl) (by simp) ?_
        refine ⟨⟨by omega, by omega⟩, ?_⟩
        refine ⟨(k, c.2.must (b), l ++ [c.1], v2), ?_, ⟨fun _ => by simp; omega, hg, ?_, fun h => by simp at h, by simp only [must_len]; omega⟩, ⟨LV.le_refl _, LV.le_refl _, LV.le_refl _, LV.le_refl _, ?_, trivial⟩, ⟨rfl, rfl, trivial⟩⟩
        · show k < k + 1
          omega
        · rw [← rws_app]
          exact ha2
        · show LV.le (.av (int (((k + 1 : Nat) : Int) - 1))) (.av (int (k : Int)))
          rw [show (((k + 1 : Nat) : Int) - 1) = (k : Int) by omega]
          exact LV.le_refl _
      · have e : nextB pl l c.1 = false := by rw [nextB_cons hlt]; simp; omega
        refine ⟨⟨⟨optR (optR (optR (optK_intro _ (hq0 hs1) rfl))), trivial⟩, ?_⟩, trivial⟩
        rw [e] at hg
        refine ⟨must_spec p c.2 st1 (false) _ ⟨trivial, ?_⟩, trivial⟩
        refine ⟨by decide, ?_⟩
        refine appendK_app (ie := ti84) (rows' := [cmdC c.1]) (hA (.cells [byts (c.2.must (false)).b, int (c.2.must (false)).e])) (by rfl) (by rfl) ⟨?_, ?_⟩ (fun v2 st2 ha2 => ?_)
        · simp [rws_len, ti84]; omega
        · simp [rws_len]; omega
        refine storeK_box ha2.cells ha2.one (by rfl) (by rfl) (by simp) ?_
        refine ⟨⟨by omega, by omega⟩, ?_⟩
        refine ⟨(k, c.2.must (false), l ++ [c.1], v2), ?_, ⟨fun _ => by simp; omega, hg, ?_, fun h => by simp at h, by simp only [must_len]; omega⟩, ⟨LV.le_refl _, LV.le_refl _, LV.le_refl _, LV.le_refl _, ?_, trivial⟩, ⟨rfl, rfl, trivial⟩⟩
        · show k < k + 1
          omega
        · rw [← rws_app]
          exact ha2
        · show LV.le (.av (int (((k + 1 : Nat) : Int) - 1))) (.av (int (k : Int)))
          rw [show (((k + 1 : Nat) : Int) - 1) = (k : Int) by omega]
          exact LV.le_refl _
  · have hT : frCmds pl s = (l, t) := by
      rw [← hg]
      by_cases h2 : t.e = 0
      · have : n = 0 := by omega
        subst this; rfl
      · exact cmdsGo_bad h2
    have hq1 : ∀ {t : Rd} {st1 : Store} {x : AObj}, (rdO p t (st1.setObj q x)).obj q = some x := by
      intro t st1 x
      rw [rdO_other hpq, setObj_self]
    have hC : (frCmds pl s).1 = l := by rw [hT]
    have hH : Rd.bytesGo 8 t [] = frHash pl s := by unfold frHash; rw [hT]
    have hone : v.one = true := ha.one
    have hle : AV.le v (lst 10 cmdC l) := ha.le
    first | refine bcd (fun h1 => optK_intro _ (hq0 hs1) (optR (optK_intro _ (rdO_get p t st1) (bceq (fun h2 => absurd ⟨h1, h2⟩ hx) (fun h2 => ?_))))) (fun h1 => ?_) | refine bcd (fun h1 => optR (optK_intro _ (hq0 hs1) (optR (optK_intro _ (rdO_get p t st1) (bceq (fun h2 => absurd ⟨h1, h2⟩ hx) (fun h2 => ?_)))))) (fun h1 => ?_) | refine bcd (fun h1 => optR (optR (optK_intro _ (hq0 hs1) (optR (optK_intro _ (rdO_get p t st1) (bceq (fun h2 => absurd ⟨h1, h2⟩ hx) (fun h2 => ?_))))))) (fun h1 => ?_)
    all_goals
      refine AWp.loop (σ := Nat × Rd × List UInt8 × AV) ⟨fun x => [(0, .av (ptr q)), (4, .bx 4 0), (5, .bx 5 0), (6, .av (byts s.b)), (10, .av x.2.2.2), (81, .av (int (x.1 : Nat)))], fun x => [(4, [int 0, nil, u64 0]), (5, [int turn, v, u64 0])],
        fun x st' => x.1 ≤ 8 ∧ Rd.bytesGo (8 - x.1) x.2.1 x.2.2.1 = frHash pl s ∧ App 1 (rdO p x.2.1 st1) x.2.2.2 (rowsB x.2.2.1) st' ∧ x.2.2.1.length = x.1 ∧ x.2.1.b.length ≤ s.b.length, fun x => 8 - x.1⟩ infoOK ?_ ?_
      · exact ⟨(0, t, [], nil), trivial, ⟨by simp, hH, App.start 1 _, rfl, htl⟩, ⟨LV.le_refl _, LV.le_refl _, LV.le_refl _, LV.le_refl _, LV.le_refl _, LV.le_refl _, trivial⟩, ⟨rfl, rfl, trivial⟩⟩
      rintro ⟨i, u, hs, hv⟩ st' ⟨hi, hB, hb2, hlen, hul⟩
      dsimp only at hi hB hb2 hlen hul ⊢
      obtain ⟨st2, rfl, hs2, hA2⟩ := hb2.split
      have hs3 := hs2.trans hs1
      show vc _ _ _ _ _ (rdO p u st2)
      refine bcd (fun h3 => ?_) (fun h3 => ?_)
      · first | refine optK_intro _ (hq0 hs3) ?_ | refine optR (optK_intro _ (hq0 hs3) ?_) | refine optR (optR (optK_intro _ (hq0 hs3) ?_))
        refine byte_spec p u st2 _ ?_
        have hbl := byte_len u
        refine ⟨by decide, ?_⟩
        refine appB (hA2 (.cells [byts u.byte.2.b, int u.byte.2.e])) (l := [u.byte.1]) (by rfl) (by simp; omega) (fun v2 st3 ha3 => ?_)
        refine ⟨⟨by omega, by omega⟩, ?_⟩
        refine ⟨(i + 1, u.byte.2, hs ++ [u.byte.1], v2), ?_, ⟨by simp only; omega, ?_, ha3, by simp; omega, by simp only; omega⟩, ⟨LV.le_refl _, LV.le_refl _, LV.le_refl _, LV.le_refl _, LV.le_refl _, LV.le_refl _, trivial⟩, ⟨rfl, rfl, trivial⟩⟩
        · show 8 - (i + 1) < 8 - i
          omega
        · show Rd.bytesGo (8 - (i + 1)) u.byte.2 (hs ++ [u.byte.1]) = _
          rw [← hB, show 8 - i = (8 - (i + 1)) + 1 by omega]
          rfl
      · obtain rfl : i = 8 := by omega
        have hB : frHash pl s = (hs, u) := hB.symm
        refine leN_spec hs (by omega) hb2.le _ _ ?_
        refine ADraw.of_sched infoOK (by rfl) (by rfl) sch63_16 (by rfl) ?_
        first | refine optK_intro _ (hq0 hs3) ?_ | refine optR (optK_intro _ (hq0 hs3) ?_) | refine optR (optR (optK_intro _ (hq0 hs3) ?_))
        first | refine optK_intro _ (hq0 hs3) ?_ | refine optR (optK_intro _ (hq0 hs3) ?_) | refine optR (optR (optK_intro _ (hq0 hs3) ?_))
        first | refine optK_intro _ (rdO_get p u st2) ?_ | refine optR (optK_intro _ (rdO_get p u st2) ?_) | refine optR (optR (optK_intro _ (rdO_get p u st2) ?_))
        refine ⟨by rw [rws_len, rws_len]; exact ⟨by omega, by omega⟩, ?_⟩
        refine ⟨0, s.b.length - u.b.length, rfl, by rw [rws_len, rws_len]; show ((s.b.length : Int) - (u.b.length : Int)) = ((s.b.length - u.b.length : Nat) : Int); omega, by omega, by rw [rws_len]; omega, ?_⟩
        have hS : fnvSum sum (s.b.take (s.b.length - u.b.length)) = frSum pl sum s := by unfold frSum; rw [hB]
        refine ⟨fnvSumV (l := s.b.take (s.b.length - u.b.length)) _ (by rw [rws_take]; exact AV.le_refl _) (by rw [List.length_take]; omega) ⟨trivial, ?_⟩, trivial⟩
        rw [hS]
        first | refine ⟨optR (optR (optK_intro _ (hq0 hs3) ⟨by simp, forceL_intro ?_⟩)), trivial⟩ | refine ⟨optR (optR (optR (optK_intro _ (hq0 hs3) ⟨by simp, forceL_intro ?_⟩))), trivial⟩ | refine ⟨optR (optR (optR (optR (optK_intro _ (hq0 hs3) ⟨by simp, forceL_intro ?_⟩)))), trivial⟩
        rw [rdO_setObj hpq]
        refine ⟨trivial, ?_⟩
        first | refine optK_intro _ (hq1) ?_ | refine optR (optK_intro _ (hq1) ?_) | refine optR (optR (optK_intro _ (hq1) ?_))
        refine fnvBytes_spec _ _ _ ?_
        first | refine optK_intro _ (hq1) ?_ | refine optR (optK_intro _ (hq1) ?_) | refine optR (optR (optK_intro _ (hq1) ?_))
        refine same_spec p u _ (eightL (frSum pl sum s)) (AV.le_refl _) (by rw [eightL_len]; omega) _ ?_
        have hR : u.same (eightL (frSum pl sum s)) = frRd pl sum s := by unfold frRd; rw [hB]
        rw [hR]
        first | refine optK_intro _ (hq1) ?_ | refine optR (optK_intro _ (hq1) ?_) | refine optR (optR (optK_intro _ (hq1) ?_))
        refine fnvSumV (l := eightL (frSum pl sum s)) _ (AV.le_refl _) (by rw [eightL_len]; omega) ?_
        first | refine optK_intro _ (hq1) ?_ | refine optR (optK_intro _ (hq1) ?_) | refine optR (optR (optK_intro _ (hq1) ?_))
        refine ⟨Nat.le_refl 3, forceL_intro ?_⟩
        rw [rdO_setObj hpq, setObj_setObj]
        refine storeK_boxL (v := .agg [int turn, v, u64 (leN hs)]) (xs := [int turn, v, u64 (leN hs)]) (by rfl) (by simp only [List.all_cons, List.all_nil, hone]; rfl) (by rfl) (by rfl) (by simp) ?_
        refine retR h (has_setObj2 (has_setObj2 hs3)) (AV.le_aggL ?_)
        unfold frFrm
        rw [hC, hB]
        exact ⟨AV.le_refl _, hle, AV.le_refl _, trivial⟩
end Go.Proofs
namespace Go.Proofs
open Go Go.V
set_option linter.unusedVariables false

theorem framesGo_nil {pl : Int} {n : Nat} {s : Rd} {sum : Int} {l : List Frm} (h : s.b.length = 0) : framesGo pl (n + 1) s sum l = (l, s) := by rw [framesGo, if_pos h]
theorem framesGo_many {pl : Int} {n : Nat} {s : Rd} {sum : Int} {l : List Frm} (h : s.b.length ≠ 0) (h2 : (s.must (decide (l.length < 4096))).e ≠ 0) : framesGo pl (n + 1) s sum l = (l, s.must (decide (l.length < 4096))) := by rw [framesGo, if_neg h, if_pos h2]
theorem framesGo_bad {pl : Int} {n : Nat} {s : Rd} {sum : Int} {l : List Frm} (h : s.b.length ≠ 0) (h2 : s.must (decide (l.length < 4096)) = s) (h3 : s.e = 0) (h4 : (frRd pl sum s).e ≠ 0) : framesGo pl (n + 1) s sum l = (l, frRd pl sum s) := by
  rw [framesGo, if_neg h, h2, if_neg (by simpa using h3), if_pos h4]
theorem framesGo_ok {pl : Int} {n : Nat} {s : Rd} {sum : Int} {l : List Frm} (h : s.b.length ≠ 0) (h2 : s.must (decide (l.length < 4096)) = s) (h3 : s.e = 0) (h4 : (frRd pl sum s).e = 0) : framesGo pl (n + 1) s sum l = framesGo pl n (frRd pl sum s) (frNext pl sum s) (l ++ [frFrm pl s l.length]) := by
  rw [framesGo, if_neg h, h2, if_neg (by simpa using h3), if_neg (by simpa using h4)]

set_option maxHeartbeats 1000000 in
set_option maxRecDepth 20000 in
theorem repParse_spec (b : List UInt8) (hb : b.length ≤ 100000000000000) (st : Store) (R : AV → Store → Prop) (h : R (.tup [.agg (repC (repParse b).1), int (repParse b).2]) st) : ACalls Try.prog 21 [byts b] st R := by
  refine ACalls.of_awp (c := cfg 151 [16, 18, 23] []) infoOK Try.func21 (by rfl) (by rfl) (by rfl) (by rfl) ?_
  have rep0le : AV.le (.agg [int 0, int 0, int 0, nil, nil]) (.agg (repC rep0)) := AV.le_aggL ⟨AV.le_refl _, AV.le_refl _, AV.le_refl _, AV.le_nil 1, AV.le_nil 3, trivial⟩
  unfold repParse at h
  refine AWp.seq (AWp.of_vc infoOK ?_)
  refine AWp.seq (AWp.of_vc infoOK ?_)
  refine bcd (fun h1 => ?_) (fun h1 => ?_)
  · rw [rws_len] at h1
    rw [if_pos (by omega)] at h
    exact retR h (Store.Has.refl _) (AV.le_tupL ⟨rep0le, AV.le_refl _, trivial⟩)
  rw [rws_len] at h1
  rw [if_neg (by omega)] at h
  have hrl := rpRaw_len b
  have hgl := rpGnd_len b
  refine AWp.seq (AWp.of_vc infoOK ?_)
  refine AWp.seq (AWp.of_vc infoOK ?_)
  intro p hp q hq
  have hpq : q ≠ p := fun e => by have := hq.1; rw [e, setObj_self] at this; cases this
  have hq0 : st.obj q = none := by have := hq.1; rwa [setObj_ne hpq] at this
  rw [setObj_comm hpq]
  have hq1 : ∀ {t : Rd} {st1 : Store} {x : AObj}, (rdO p t (st1.setObj q x)).obj q = some x := by
    intro t st1 x
    rw [rdO_other hpq, setObj_self]
  have hdrop : ∀ {t : Rd} {st1 : Store} {x : AObj}, st1.Has (st.setObj q x) → (rdO p t st1).Has st := by
    intro t st1 x hh
    exact (has_setObj2 hh).trans ((has_setObj (by rw [setObj_ne (Ne.symm hpq)]; exact hp.1)).trans (has_setObj hq0))
  change AWp _ _ _ _ _ (rdO p ⟨b, 0⟩ (st.setObj q (.cells [ptr p, int 0, u64 0])))
  generalize hst : st.setObj q (.cells [ptr p, int 0, u64 0]) = sq
  have hq2 : ∀ {t : Rd}, (rdO p t sq).obj q = some (.cells [ptr p, int 0, u64 0]) := by intro t; rw [← hst]; exact hq1
  have hd0 : ∀ {t : Rd}, (rdO p t sq).Has st := by intro t; rw [← hst]; exact hdrop (Store.Has.refl _)
  refine AWp.seq (AWp.of_vc infoOK ?_)
  first | refine optK_intro _ (hq2) ?_ | refine optR (optK_intro _ (hq2) ?_) | refine optR (optR (optK_intro _ (hq2) ?_))
  refine ⟨by decide, fun tk htk => ?_⟩
  refine optR (optR (optR (optK_intro _ (setTok_self _ _ _) ?_)))
  refine ACalls.drop (st' := rdO p ⟨b, 0⟩ sq) (has_tok htk.2) ?_
  refine same_spec p ⟨b, 0⟩ sq [84, 82] (AV.le_tok _ _ _) (by simp) _ ?_
  have l1 := same_len ⟨b, 0⟩ [84, 82]
  simp only at l1
  refine AWp.seq (AWp.of_vc infoOK ?_)
  first | refine optK_intro _ (hq2) ?_ | refine optR (optK_intro _ (hq2) ?_) | refine optR (optR (optK_intro _ (hq2) ?_))
  refine num_spec p _ sq 1 8 (by omega) _ ?_
  refine AWp.seq (AWp.of_vc infoOK ?_)
  first | refine optK_intro _ (hq2) ?_ | refine optR (optK_intro _ (hq2) ?_) | refine optR (optR (optK_intro _ (hq2) ?_))
  refine rawr_spec p (rpHead b).2 sq (by omega) _ ?_
  refine AWp.seq (AWp.of_vc infoOK ?_)
  first | refine optK_intro _ (hq2) ?_ | refine optR (optK_intro _ (hq2) ?_) | refine optR (optR (optK_intro _ (hq2) ?_))
  first | refine optK_intro _ (rdO_get p (rpRaw b).2 sq) ?_ | refine optR (optK_intro _ (rdO_get p (rpRaw b).2 sq) ?_) | refine optR (optR (optK_intro _ (rdO_get p (rpRaw b).2 sq) ?_))
  refine bceq (fun h2 => ?_) (fun h2 => ?_)
  rotate_left
  · have hG : rpGnd b = (⟨0, 0, []⟩, (rpRaw b).2) := by unfold rpGnd; rw [if_neg h2]
    rw [hG, if_pos h2] at h
    refine AWp.seq (AWp.of_vc infoOK ?_)
    first | refine optK_intro _ (hq2) ?_ | refine optR (optK_intro _ (hq2) ?_) | refine optR (optR (optK_intro _ (hq2) ?_))
    first | refine optK_intro _ (rdO_get p (rpRaw b).2 sq) ?_ | refine optR (optK_intro _ (rdO_get p (rpRaw b).2 sq) ?_) | refine optR (optR (optK_intro _ (rdO_get p (rpRaw b).2 sq) ?_))
    refine bcne (fun _ => ?_) (fun h3 => absurd h3 h2)
    refine ADraw.of_sched infoOK (by rfl) (by rfl) sch21_13 (by rfl) ?_
    first | refine optK_intro _ (hq2) ?_ | refine optR (optK_intro _ (hq2) ?_) | refine optR (optR (optK_intro _ (hq2) ?_))
    first | refine optK_intro _ (rdO_get p _ sq) ?_ | refine optR (optK_intro _ (rdO_get p _ sq) ?_) | refine optR (optR (optK_intro _ (rdO_get p _ sq) ?_))
    refine ⟨⟨⟨optR (optR (optR (optK_intro _ hq2 rfl))), optR (optR (optR (optK_intro _ (rdO_get p _ sq) rfl))), trivial⟩, ?_⟩, trivial⟩
    refine ⟨⟨trivial, ?_⟩, trivial⟩
    exact retR h hd0 (AV.le_tupL ⟨rep0le, AV.le_refl _, trivial⟩)

  refine mapParse_spec (rpRaw b).1 hrl.2.2 _ _ ?_
  first | refine optK_intro _ (hq2) ?_ | refine optR (optK_intro _ (hq2) ?_) | refine optR (optR (optK_intro _ (hq2) ?_))
  refine must_spec p (rpRaw b).2 sq ((mapParse (rpRaw b).1).2 == 0) _ ?_
  have hG : rpGnd b = ((mapParse (rpRaw b).1).1, (rpRaw b).2.must ((mapParse (rpRaw b).1).2 == 0)) := by
    have e : decide ((mapParse (rpRaw b).1).2 = 0) = ((mapParse (rpRaw b).1).2 == 0) := by rw [Bool.eq_iff_iff]; simp
    unfold rpGnd; rw [if_pos h2, e]
  generalize hgd : rpGnd b = gd at h hgl hG
  rw [show (rpRaw b).2.must ((mapParse (rpRaw b).1).2 == 0) = gd.2 by rw [hG]]
  refine AWp.seq (AWp.of_vc infoOK ?_)
  first | refine optK_intro _ (hq2) ?_ | refine optR (optK_intro _ (hq2) ?_) | refine optR (optR (optK_intro _ (hq2) ?_))
  first | refine optK_intro _ (rdO_get p gd.2 sq) ?_ | refine optR (optK_intro _ (rdO_get p gd.2 sq) ?_) | refine optR (optR (optK_intro _ (rdO_get p gd.2 sq) ?_))
  refine bcne (fun h3 => ?_) (fun h3 => ?_)
  · rw [if_pos h3] at h
    refine ADraw.of_sched infoOK (by rfl) (by rfl) sch21_13 (by rfl) ?_
    first | refine optK_intro _ (hq2) ?_ | refine optR (optK_intro _ (hq2) ?_) | refine optR (optR (optK_intro _ (hq2) ?_))
    first | refine optK_intro _ (rdO_get p _ sq) ?_ | refine optR (optK_intro _ (rdO_get p _ sq) ?_) | refine optR (optR (optK_intro _ (rdO_get p _ sq) ?_))
    refine ⟨⟨⟨optR (optR (optR (optK_intro _ hq2 rfl))), optR (optR (optR (optK_intro _ (rdO_get p _ sq) rfl))), trivial⟩, ?_⟩, trivial⟩
    refine ⟨⟨trivial, ?_⟩, trivial⟩
    exact retR h hd0 (AV.le_tupL ⟨rep0le, AV.le_refl _, trivial⟩)

  rw [if_neg (by simpa using h3)] at h
  have hG1 : gd.1 = (mapParse (rpRaw b).1).1 := by rw [hG]
  refine AWp.seq (AWp.of_vc infoOK ?_)
  refine ADraw.of_sched infoOK (by rfl) (by rfl) sch21_14 (by rfl) ?_
  first | refine optK_intro _ (hq2) ?_ | refine optR (optK_intro _ (hq2) ?_) | refine optR (optR (optK_intro _ (hq2) ?_))
  first | refine optK_intro _ (rdO_get p gd.2 sq) ?_ | refine optR (optK_intro _ (rdO_get p gd.2 sq) ?_) | refine optR (optR (optK_intro _ (rdO_get p gd.2 sq) ?_))
  refine ⟨by rw [rws_len, rws_len]; exact ⟨by omega, by omega⟩, ?_⟩
  refine ⟨0, b.length - gd.2.b.length, rfl, by rw [rws_len, rws_len]; show ((b.length : Int) - (gd.2.b.length : Int)) = ((b.length - gd.2.b.length : Nat) : Int); omega, by omega, by rw [rws_len]; omega, ?_⟩
  refine ⟨startSum_spec _ _ ⟨⟨rfl, rfl, optR (optR (optR (optK_intro _ hq2 rfl))), optR (optR (optR (optK_intro _ (rdO_get p _ sq) rfl))), rfl, trivial⟩, ?_⟩, trivial⟩
  refine ⟨fnvSumV (l := b.take (b.length - gd.2.b.length)) _ (by rw [rws_take]; exact AV.le_refl _) (by rw [List.length_take]; omega) ⟨⟨rfl, trivial⟩, ?_⟩, trivial⟩
  generalize hs0 : fnvSum fnvStart (b.take (b.length - gd.2.b.length)) = sum0
  rw [← hst]
  first | refine ⟨optR (optR (optK_intro _ hq1 ⟨by simp, forceL_intro ?_⟩)), trivial⟩ | refine ⟨optR (optR (optR (optK_intro _ hq1 ⟨by simp, forceL_intro ?_⟩))), trivial⟩ | refine ⟨optR (optR (optR (optR (optK_intro _ hq1 ⟨by simp, forceL_intro ?_⟩)))), trivial⟩
  rw [rdO_setObj hpq, setObj_setObj]
  refine ⟨trivial, ?_⟩
  first | refine ⟨optR (optR (optK_intro _ hq1 ⟨Nat.le_refl 3, forceL_intro ?_⟩)), trivial⟩ | refine ⟨optR (optR (optR (optK_intro _ hq1 ⟨Nat.le_refl 3, forceL_intro ?_⟩))), trivial⟩ | refine ⟨optR (optR (optR (optR (optK_intro _ hq1 ⟨Nat.le_refl 3, forceL_intro ?_⟩)))), trivial⟩
  rw [rdO_setObj hpq, setObj_setObj]
  refine ⟨trivial, ?_⟩
  have hF : rpFrames b = framesGo (rpHead b).1 4097 gd.2 sum0 [] := by unfold rpFrames; rw [hgd, hs0]
  generalize hpl : (rpHead b).1 = pl at *
  refine AWp.meet (σ := Rd × Store × Int × AV) ⟨fun x => [(2, .bx 2 0), (4, .bx 4 0), (5, .av (ptr q))], fun x => [(2, [int 0, int 0, int 0, nil, nil]), (4, [int pl, int gd.1.W, int gd.1.H, byts gd.1.T, x.2.2.2])],
    fun x st' => st' = rdO p x.1 x.2.1 ∧ x.2.1.Has (st.setObj q (.cells [ptr p, int pl, u64 x.2.2.1])) ∧ (rpFrames b).2 = x.1 ∧ AV.le x.2.2.2 (lst 3 frmC (rpFrames b).1) ∧ (x.2.2.2 = nil ∨ ∃ tb rows, x.2.2.2 = .lst 3 rows (some tb))⟩ infoOK ?_ ?_
  rotate_left
  · rintro ⟨s, st1, sum, v⟩ st' ⟨rfl, hs1, hfs, hle, hsh⟩
    dsimp only at hs1 hfs hle hsh ⊢
    rw [hfs] at h
    have hq3 : (rdO p s st1).obj q = some (.cells [ptr p, int pl, u64 sum]) := by
      rw [rdO_other hpq]; exact hs1.obj q _ (setObj_self _ _ _)
    refine AWp.of_vc infoOK ?_
    rcases hsh with rfl | ⟨tb, rows, rfl⟩
    all_goals
      refine ADraw.of_sched infoOK (by rfl) (by rfl) sch21_21 (by rfl) ?_
      first | refine optK_intro _ (hq3) ?_ | refine optR (optK_intro _ (hq3) ?_) | refine optR (optR (optK_intro _ (hq3) ?_))
      first | refine optK_intro _ (rdO_get p s st1) ?_ | refine optR (optK_intro _ (rdO_get p s st1) ?_) | refine optR (optR (optK_intro _ (rdO_get p s st1) ?_))
      refine ⟨⟨⟨optR (optR (optR (optK_intro _ hq3 rfl))), optR (optR (optR (optK_intro _ (rdO_get p s st1) rfl))), trivial⟩, ?_⟩, trivial⟩
      refine ⟨⟨trivial, ?_⟩, trivial⟩
      exact retR h (hdrop hs1) (AV.le_tupL ⟨AV.le_aggL ⟨AV.le_refl _, AV.le_refl _, AV.le_refl _, AV.le_refl _, hle, trivial⟩, AV.le_refl _, trivial⟩)
  refine AWp.loop (σ := Nat × Rd × Int × List Frm × AV) ⟨fun x => [(2, .bx 2 0), (4, .bx 4 0), (5, .av (ptr q))], fun x => [(2, [int 0, int 0, int 0, nil, nil]), (4, [int pl, int gd.1.W, int gd.1.H, byts gd.1.T, x.2.2.2.2])],
    fun x st' => (x.2.2.2.1.length + x.1 = 4097 ∧ x.2.1.e = 0 ∧ x.2.2.2.1.length ≤ 4096) ∧ framesGo pl x.1 x.2.1 x.2.2.1 x.2.2.2.1 = rpFrames b ∧ App 3 (rdO p x.2.1 (st.setObj q (.cells [ptr p, int pl, u64 x.2.2.1]))) x.2.2.2.2 (rws frmC x.2.2.2.1) st' ∧ x.2.1.b.length ≤ b.length ∧ (x.2.2.2.1 = [] → x.2.2.2.2 = nil), fun x => x.1⟩ infoOK ?_ ?_
  · refine ⟨(4097, gd.2, sum0, [], nil), trivial, ⟨⟨rfl, h3, by simp⟩, hF.symm, by subst hpl hs0; exact App.start 3 _, hgl, fun _ => rfl⟩, ⟨LV.le_refl _, LV.le_refl _, LV.le_refl _, trivial⟩, ⟨rfl, by subst hpl; rw [hG1]; rfl, trivial⟩⟩
  rintro ⟨n, s, sum, l, v⟩ st' ⟨⟨hn, he, hl⟩, hg, ha, hsl, hnil⟩
  dsimp only at hn he hl hg ha hsl hnil ⊢
  obtain ⟨st1, rfl, hs1, hA⟩ := ha.split
  have hq3 : ∀ {t : Rd}, (rdO p t st1).obj q = some (.cells [ptr p, int pl, u64 sum]) := by
    intro t; rw [rdO_other hpq]; exact hs1.obj q _ (setObj_self _ _ _)
  obtain ⟨m, rfl⟩ : ∃ m, n = m + 1 := ⟨n - 1, by omega⟩
  have hm1 : s.must (decide (l.length < 4096)) = if l.length < 4096 then s else ⟨s.b, 1⟩ := by
    unfold Rd.must Rd.fail
    rw [if_pos he]
    by_cases h5 : l.length < 4096 <;> simp [h5]
  have hle := ha.le
  have hrl2 : ∀ l : List Frm, rws frmC l ≠ [] ↔ l ≠ [] := fun l => by simp [rws]
  have hsh : (l = [] ∧ v = nil) ∨ ∃ tb, v = .lst 3 (rws frmC l) (some tb) := by
    by_cases hl0 : l = []
    · exact .inl ⟨hl0, hnil hl0⟩
    · exact .inr (ha.lst ((hrl2 l).2 hl0))
  have hsh2 : v = nil ∨ ∃ tb rows, v = .lst 3 rows (some tb) := by
    rcases hsh with ⟨_, h⟩ | ⟨tb, h⟩
    · exact .inl h
    · exact .inr ⟨tb, _, h⟩
  have e1 : s.must (decide (((rws frmC l).length : Int) < 4096)) = if l.length < 4096 then s else ⟨s.b, 1⟩ := by
    rw [← hm1, rws_len]
    congr 1
    rw [Bool.eq_iff_iff]; simp; omega
  have e2 : l = [] → s.must (decide (((0 : Nat) : Int) < 4096)) = if l.length < 4096 then s else ⟨s.b, 1⟩ := fun hl => by
    rw [← hm1, hl]; rfl
  have hA2 : ∀ (t : Rd) (x : Int), App 3 (rdO p t (st.setObj q (.cells [ptr p, int pl, u64 x]))) v (rws frmC l) (rdO p t (st1.setObj q (.cells [ptr p, int pl, u64 x]))) := fun t x => by
    have := (hA (.cells [byts t.b, int t.e])).setAny (p := q) (y := .cells [ptr p, int pl, u64 x]) (by rw [setObj_ne hpq, setObj_self]; simp)
    rw [setObj_comm hpq, setObj_comm hpq, setObj_setObj] at this
    exact this
  have hs4 : ∀ y, (st1.setObj q y).Has (st.setObj q y) := fun y => by
    have := has_setObj2 (p := q) (x := y) hs1
    rwa [setObj_setObj] at this
  have hfl := frRd_len pl sum s
  have hq5 : (rdO p (frRd pl sum s) (st1.setObj q (.cells [ptr p, int pl, u64 (frNext pl sum s)]))).obj q = some (.cells [ptr p, int pl, u64 (frNext pl sum s)]) := hq1
  have e3 : ((rws frmC l).length : Int) = (l.length : Int) := by rw [rws_len]
  clear hA ha
  show vc _ _ _ _ _ (rdO p s st1)
  first | refine optK_intro _ (hq3) ?_ | refine optR (optK_intro _ (hq3) ?_) | refine optR (optR (optK_intro _ (hq3) ?_))
  first | refine optK_intro _ (rdO_get p s st1) ?_ | refine optR (optK_intro _ (rdO_get p s st1) ?_) | refine optR (optR (optK_intro _ (rdO_get p s st1) ?_))
  refine bcd (fun h4 => ?_) (fun h4 => ?_)
  rotate_left
  · rw [rws_len] at h4
    rw [framesGo_nil (by omega)] at hg
    exact ⟨(s, st1, sum, v), ⟨rfl, hs1, by rw [← hg], by rw [← hg]; exact hle, hsh2⟩, ⟨LV.le_refl _, LV.le_refl _, LV.le_refl _, trivial⟩, ⟨rfl, rfl, trivial⟩⟩
  rw [rws_len] at h4
  by_cases h5 : l.length < 4096
  · rw [if_pos h5] at e1 e2 hm1
    rcases hsh with ⟨hl0, rfl⟩ | ⟨tb, rfl⟩
    all_goals
      refine ADraw.of_sched infoOK (by rfl) (by rfl) sch21_16 (by rfl) ?_
      first | refine optK_intro _ (hq3) ?_ | refine optR (optK_intro _ (hq3) ?_) | refine optR (optR (optK_intro _ (hq3) ?_))
      first | refine ⟨must_spec p s st1 (decide (((rws frmC l).length : Int) < 4096)) _ ⟨trivial, ?_⟩, trivial⟩ | refine ⟨must_spec p s st1 (decide (((0 : Nat) : Int) < 4096)) _ ⟨trivial, ?_⟩, trivial⟩
      first | rw [e1] | rw [e2 hl0]
      first | refine optK_intro _ (hq3) ?_ | refine optR (optK_intro _ (hq3) ?_) | refine optR (optR (optK_intro _ (hq3) ?_))
      first | refine optK_intro _ (rdO_get p s st1) ?_ | refine optR (optK_intro _ (rdO_get p s st1) ?_) | refine optR (optR (optK_intro _ (rdO_get p s st1) ?_))
      refine bcne (fun h => absurd he h) (fun _ => ?_)
      first | refine frame_spec p q hpq s st1 pl sum ((rws frmC l).length : Int) (by have := hq3 (t := s); rwa [rdO_other hpq] at this) (by omega) _ ?_ | refine frame_spec p q hpq s st1 pl sum ((0 : Nat) : Int) (by have := hq3 (t := s); rwa [rdO_other hpq] at this) (by omega) _ ?_
      generalize hfr : frFrm pl s _ = fr
      have hfr2 : frFrm pl s (l.length : Int) = fr := by
        first
          | (rw [← e3]; exact hfr)
          | (rw [hl0]; exact hfr)
      by_cases h6 : (frRd pl sum s).e = 0
      · rw [framesGo_ok (by omega) hm1 he h6, hfr2] at hg
        generalize frRd pl sum s = s2 at *
        generalize frNext pl sum s = sum2 at *
        first | refine optK_intro _ (hq5) ?_ | refine optR (optK_intro _ (hq5) ?_) | refine optR (optR (optK_intro _ (hq5) ?_))
        first | refine optK_intro _ (rdO_get p s2 (st1.setObj q (.cells [ptr p, int pl, u64 sum2]))) ?_ | refine optR (optK_intro _ (rdO_get p s2 (st1.setObj q (.cells [ptr p, int pl, u64 sum2]))) ?_) | refine optR (optR (optK_intro _ (rdO_get p s2 (st1.setObj q (.cells [ptr p, int pl, u64 sum2]))) ?_))
        refine bcne (fun h => absurd h6 h) (fun _ => ?_)
        refine ⟨by decide, ?_⟩
        refine appendK_app (ie := ti53) (rows' := [frmC fr]) (hA2 s2 sum2) (by rfl) (by rfl) ⟨?_, ?_⟩ (fun v2 st2 ha2 => ?_)
        · simp [rws_len, ti53]; omega
        · simp [rws_len]; omega
        have ha3 : App 3 (rdO p s2 (st.setObj q (.cells [ptr p, int pl, u64 sum2]))) v2 (rws frmC (l ++ [fr])) st2 := by
          rw [← rws_app]
          exact ha2
        refine storeK_box ha3.cells ha3.one (by rfl) (by rfl) (by simp) ?_
        refine ⟨(m, s2, sum2, l ++ [fr], v2), ?_, ⟨⟨by simp; omega, h6, by simp; omega⟩, hg, ha3, by simp only; omega, fun h => by simp at h⟩, ⟨LV.le_refl _, LV.le_refl _, LV.le_refl _, trivial⟩, ⟨rfl, rfl, trivial⟩⟩
        show m < m + 1
        omega
      · rw [framesGo_bad (by omega) hm1 he h6] at hg
        generalize frRd pl sum s = s2 at *
        generalize frNext pl sum s = sum2 at *
        first | refine optK_intro _ (hq5) ?_ | refine optR (optK_intro _ (hq5) ?_) | refine optR (optR (optK_intro _ (hq5) ?_))
        first | refine optK_intro _ (rdO_get p s2 (st1.setObj q (.cells [ptr p, int pl, u64 sum2]))) ?_ | refine optR (optK_intro _ (rdO_get p s2 (st1.setObj q (.cells [ptr p, int pl, u64 sum2]))) ?_) | refine optR (optR (optK_intro _ (rdO_get p s2 (st1.setObj q (.cells [ptr p, int pl, u64 sum2]))) ?_))
        refine bcne (fun _ => ?_) (fun h => absurd h h6)
        exact ⟨(s2, st1.setObj q (.cells [ptr p, int pl, u64 sum2]), sum2, _), ⟨rfl, hs4 _, by rw [← hg], by rw [← hg]; exact hle, hsh2⟩, ⟨LV.le_refl _, LV.le_refl _, LV.le_refl _, trivial⟩, ⟨rfl, rfl, trivial⟩⟩
  · rw [if_neg h5] at e1 e2 hm1
    rw [framesGo_many (by omega) (by rw [hm1]; simp), hm1] at hg
    rcases hsh with ⟨hl0, rfl⟩ | ⟨tb, rfl⟩
    all_goals
      refine ADraw.of_sched infoOK (by rfl) (by rfl) sch21_16 (by rfl) ?_
      first | refine optK_intro _ (hq3) ?_ | refine optR (optK_intro _ (hq3) ?_) | refine optR (optR (optK_intro _ (hq3) ?_))
      first | refine ⟨must_spec p s st1 (decide (((rws frmC l).length : Int) < 4096)) _ ⟨trivial, ?_⟩, trivial⟩ | refine ⟨must_spec p s st1 (decide (((0 : Nat) : Int) < 4096)) _ ⟨trivial, ?_⟩, trivial⟩
      first | rw [e1] | rw [e2 hl0]
      first | refine optK_intro _ (hq3) ?_ | refine optR (optK_intro _ (hq3) ?_) | refine optR (optR (optK_intro _ (hq3) ?_))
      first | refine optK_intro _ (rdO_get p ⟨s.b, 1⟩ st1) ?_ | refine optR (optK_intro _ (rdO_get p ⟨s.b, 1⟩ st1) ?_) | refine optR (optR (optK_intro _ (rdO_get p ⟨s.b, 1⟩ st1) ?_))
      exact ⟨(⟨s.b, 1⟩, st1, sum, _), ⟨rfl, hs1, by rw [← hg], by rw [← hg]; exact hle, hsh2⟩, ⟨LV.le_refl _, LV.le_refl _, LV.le_refl _, trivial⟩, ⟨rfl, rfl, trivial⟩⟩
end Go.Proofs
