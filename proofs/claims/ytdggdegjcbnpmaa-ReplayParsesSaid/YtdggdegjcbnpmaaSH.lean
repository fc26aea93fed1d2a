/- The ground on which laws of thronglaw29 are proved: contracts of functions and plain lemmas; no condition beyond the row's own. -/
import Derived.Test.YtdggdegjcbnpmaaSG
import Derived.Test.YtdggdegjcbnpmaaSD
import Derived.Test.YtdggdegjcbnpmaaSE
namespace Go.Proofs
open Go Go.V
set_option linter.unusedVariables false

theorem tmod_nat (a b : Nat) : (a : Int).tmod (b : Int) = ((a % b : Nat) : Int) := rfl
set_option maxRecDepth 20000 in
theorem refNum_spec (b : List UInt8) (hb : b.length ≤ 140737488355328) (st : Store) (R : AV → Store → Prop) (h : R (.tup [int (getNum b).1, int (getNum b).2.1, int (getNum b).2.2]) st) : ACalls Try.prog 109 [byts b] st R := by
  refine ACalls.of_body (c := cfg 48) infoOK Try.func109 (by rfl) (by rfl) (by rfl) (by rfl) ?_
  refine AWp.loop (σ := Nat × Int) ⟨fun s => [(0, .av (byts b)), (5, .av (int s.2)), (6, .av (int (s.1 : Nat)))], fun _ => [],
    fun s st' => s.1 ≤ b.length ∧ s.1 ≤ 9 ∧ st' = st ∧ (s.1 ≤ 8 → getGo (b.drop s.1) s.1 s.2 = getNum b) ∧ (s.1 = 9 → getNum b = (0, 0, 1)) ∧ 0 ≤ s.2 ∧ s.2 < 128 ^ s.1, fun s => b.length - s.1⟩ infoOK ?_ ?_
  · exact ⟨(0, 0), trivial, ⟨Nat.zero_le _, by simp, rfl, fun _ => rfl, fun h => by simp at h, by decide, by decide⟩, ⟨LV.le_refl _, LV.le_refl _, LV.le_refl _, trivial⟩, trivial⟩
  · rintro ⟨i, n⟩ st' ⟨hi, h9, rfl, hg, hg9, h0, hn⟩
    dsimp only at hi h9 hg hg9 h0 hn ⊢
    have fin1 : i = 9 → R (.tup [int 0, int 0, int 1]) st' := fun e => by
      have := hg9 e
      rw [this] at h; exact h
    have fin2 : i = b.length → i ≤ 8 → R (.tup [int 0, int 0, int 11]) st' := fun e h8 => by
      have := hg h8
      rw [e, List.drop_length] at this
      rw [← this] at h; exact h
    refine bcd (fun h1 => ?_) (fun h1 => ?_)
    rotate_left
    · obtain rfl : i = b.length := by rw [rws_len] at h1; omega
      refine bcd (fun h2 => ?_) (fun h2 => ?_)
      · rw [rws_len] at h2; exact ret (fin1 (by omega))
      · rw [rws_len] at h2; exact ret (fin2 rfl (by omega))
    have hlt : i < b.length := by rw [rws_len] at h1; omega
    refine bcd (fun h2 => ?_) (fun h2 => ?_)
    rotate_left
    · refine bcd (fun h3 => ?_) (fun h3 => ?_)
      · exact ret (fin1 (by omega))
      · rw [rws_len] at h3; omega
    have h8 : i ≤ 8 := by omega
    refine ⟨i, rfl, optK_intro _ (rws_get hlt) ?_⟩
    have hg := hg h8
    rw [List.drop_eq_getElem_cons hlt] at hg
    unfold getGo at hg
    have hx : b[i].toNat % 128 < 128 := Nat.mod_lt _ (by omega)
    have hs := step_lt (x := b[i].toNat % 128) h0 hn hx
    have hp := pow128_le (i := i + 1) (by omega)
    have htm : (b[i].toNat : Int).tmod 128 = ((b[i].toNat % 128 : Nat) : Int) := tmod_nat _ 128
    have hor : bitsOf .or .i64 n (IntKind.i64.wrap ((b[i].toNat : Int).tmod 128 * 2 ^ (min ((7 : Int) * (i : Int)).toNat IntKind.i64.bits))) = n + (b[i].toNat % 128 : Nat) * 128 ^ i := by
      rw [htm]; exact or7 h0 hn hx h8
    refine ⟨by decide, ?_⟩
    refine ⟨?_, ?_⟩
    · rw [htm]; exact ⟨by omega, by omega⟩
    refine ⟨⟨by omega, by omega⟩, ?_⟩
    refine ⟨by omega, ?_⟩
    refine ⟨i, rfl, optK_intro _ (rws_get hlt) ?_⟩
    refine bcd (fun h3 => ?_) (fun h3 => ?_)
    · refine ⟨i, rfl, optK_intro _ (rws_get hlt) ?_⟩
      refine bceq (fun h4 => ?_) (fun h4 => ?_)
      · refine bcd (fun h5 => ?_) (fun h5 => ?_)
        · rw [if_pos (.inr ⟨by omega, by omega⟩)] at hg
          rw [← hg] at h
          exact ret h
        · rw [if_neg (by omega), if_pos (by omega)] at hg
          refine ⟨⟨by omega, by omega⟩, ?_⟩
          rw [← hg, ← hor] at h
          exact ret h
      · rw [if_neg (by omega), if_pos (by omega)] at hg
        refine ⟨⟨by omega, by omega⟩, ?_⟩
        rw [← hg, ← hor] at h
        exact ret h
    · refine ⟨⟨by omega, by omega⟩, ?_⟩
      refine ⟨(i + 1, n + (b[i].toNat % 128 : Nat) * 128 ^ i), ?_, ⟨hlt, by simp only; omega, rfl, fun h8' => ?_, fun e => ?_, hs.1, hs.2⟩, ⟨LV.le_refl _, by simp only; rw [← hor]; exact LV.le_refl _, LV.le_refl _, trivial⟩, trivial⟩
      · show b.length - (i + 1) < b.length - i
        omega
      · simp only at h8'
        rw [if_neg (by omega), if_neg (by omega)] at hg
        exact hg
      · simp only at e
        rw [if_pos (.inl ⟨by omega, by omega⟩)] at hg
        exact hg.symm

theorem refInt_spec (b : List UInt8) (hb : b.length ≤ 140737488355328) (st : Store) (R : AV → Store → Prop) (h : R (.tup [int (getInt b).1, int (getInt b).2.1, int (getInt b).2.2]) st) : ACalls Try.prog 169 [byts b] st R := by
  refine ACalls.of_body (c := cfg 28) infoOK Try.func169 (by rfl) (by rfl) (by rfl) (by rfl) ?_
  refine refNum_spec b hb _ _ ?_
  have hf := getNum_facts b
  unfold getInt at h
  simp only at h
  generalize getNum b = g at h hf ⊢
  obtain ⟨n, k, e⟩ := g
  dsimp only at h hf ⊢
  refine bcne (fun h1 => ?_) (fun h1 => ?_)
  · have hn : n = 0 ∧ k = 0 := by omega
    rw [hn.1, hn.2] at h
    exact ret h
  · have hn : 0 ≤ n ∧ n < 9223372036854775808 := by omega
    have ht : n.tmod 2 = n % 2 := Int.tmod_eq_emod_of_nonneg hn.1
    have hq : n.tdiv 2 = n / 2 := Int.tdiv_eq_ediv_of_nonneg hn.1
    refine ⟨by decide, ?_⟩
    rw [ht]
    unfold zig at h
    subst h1
    refine bceq (fun h2 => ?_) (fun h2 => ?_)
    · rw [if_neg (by omega)] at h
      refine ⟨by decide, ?_⟩
      rw [hq]
      refine ⟨⟨by omega, by omega⟩, ?_⟩
      refine ⟨⟨by omega, by omega⟩, ?_⟩
      refine ⟨⟨by omega, by omega⟩, ?_⟩
      rw [show (-(n / 2) - 1 : Int) = 0 - n / 2 - 1 by omega] at h
      exact ret h
    · rw [if_pos (by omega)] at h
      refine ⟨by decide, ?_⟩
      rw [hq]
      refine ⟨⟨by omega, by omega⟩, ?_⟩
      exact ret h

theorem refRaw_spec (b : List UInt8) (hb : b.length ≤ 140737488355328) (st : Store) (R : AV → Store → Prop) (h : ∀ v, AV.le v (byts (getRaw b).1) → R (.tup [v, int (getRaw b).2.1, int (getRaw b).2.2]) st) : ACalls Try.prog 110 [byts b] st R := by
  refine ACalls.of_body (c := cfg 34) infoOK Try.func110 (by rfl) (by rfl) (by rfl) (by rfl) ?_
  refine refNum_spec b hb _ _ ?_
  have hf := getNum_facts b
  unfold getRaw at h
  generalize getNum b = g at h hf ⊢
  obtain ⟨n, k, e⟩ := g
  dsimp only at h hf ⊢
  refine bcne (fun h1 => ?_) (fun h1 => ?_)
  · rw [if_pos h1] at h
    exact ret (h nil (AV.le_nil 1))
  · subst h1
    rw [if_neg (by simp)] at h
    have hn : 0 ≤ n ∧ n < 9223372036854775808 ∧ k ≤ b.length ∧ k ≤ 9 := by omega
    refine bcd (fun h2 => ?_) (fun h2 => ?_)
    · rw [if_pos h2] at h
      exact ret (h nil (AV.le_nil 1))
    rw [if_neg h2] at h
    refine ⟨by rw [rws_len]; exact ⟨by omega, by omega⟩, ?_⟩
    rw [rws_len]
    refine bcd (fun h3 => ?_) (fun h3 => ?_)
    · rw [if_pos h3] at h
      exact ret (h nil (AV.le_nil 1))
    rw [if_neg h3] at h
    have hk : ((k : Int) + n) = ((k + n.toNat : Nat) : Int) := by omega
    refine ⟨⟨by omega, by omega⟩, ?_⟩
    refine ⟨k, k + n.toNat, rfl, hk, by omega, by rw [rws_len]; omega, ?_⟩
    refine ⟨⟨by omega, by omega⟩, ?_⟩
    refine ret ?_
    have := h (byts ((b.drop k).take n.toNat)) (AV.le_refl _)
    have e1 : ((rowsB b).take (k + n.toNat)).drop k = rowsB ((b.drop k).take n.toNat) := by
      rw [rws_take, rws_drop, List.take_drop]
    show R (.tup [.lst 1 (((rowsB b).take (k + n.toNat)).drop k) none, int ((k : Int) + n), int 0]) _
    rw [e1, hk]
    exact this

theorem refSide_spec (b : List UInt8) (hb : b.length ≤ 140737488355328) (st : Store) (R : AV → Store → Prop) (h : R (.tup [int (sideR b).1, int (sideR b).2.1, int (sideR b).2.2]) st) : ACalls Try.prog 144 [byts b] st R := by
  refine ACalls.of_body (c := cfg 27) infoOK Try.func144 (by rfl) (by rfl) (by rfl) (by rfl) ?_
  refine refNum_spec b hb _ _ ?_
  unfold sideR at h
  generalize getNum b = g at h ⊢
  obtain ⟨n, k, e⟩ := g
  dsimp only at h ⊢
  refine bceq (fun h1 => ?_) (fun h1 => ?_)
  · refine bcd (fun h2 => ?_) (fun h2 => ?_)
    · rw [if_pos ⟨h1, .inl h2⟩] at h
      exact ret h
    · refine bcd (fun h3 => ?_) (fun h3 => ?_)
      · rw [if_pos ⟨h1, .inr h3⟩] at h
        exact ret h
      · rw [if_neg (by omega)] at h
        exact ret h
  · rw [if_neg (fun hc => h1 hc.1)] at h
    exact ret h
end Go.Proofs
namespace Go.Proofs
open Go Go.V
set_option linter.unusedVariables false

def rfO (p : Nat) (B : List UInt8) (a : Nat) (s : Rd) (st : Store) : Store := st.setObj p (.cells [byts B, int a, int s.e])
theorem rfO_get (p : Nat) (B : List UInt8) (a : Nat) (s : Rd) (st : Store) : (rfO p B a s st).obj p = some (.cells [byts B, int a, int s.e]) := setObj_self _ _ _
theorem rfO_put (p : Nat) (B : List UInt8) (a : Nat) (s : Rd) (st : Store) (l : List AV) : (rfO p B a s st).setObj p (.cells l) = st.setObj p (.cells l) := setObj_setObj _ _ _ _
theorem refIntZ_spec (b : List UInt8) (hb : b.length ≤ 140737488355328) (st : Store) (R : AV → Store → Prop) (h : R (.tup [int (zig (getNum b).1), int (getNum b).2.1, int (getNum b).2.2]) st) : ACalls Try.prog 169 [byts b] st R := refInt_spec b hb st R h
theorem intR_bad {s : Rd} {lo hi : Int} (h : (s.int lo hi).2.e ≠ 0) : s.intR lo hi = 0 := by unfold Rd.intR; rw [if_neg h]

theorem rnum_spec (p a : Nat) (B : List UInt8) (s : Rd) (st : Store) (lo hi : Int) (hs : Stands B a s) (hB : B.length ≤ 1048576) (R : AV → Store → Prop)
    (h : ∀ a', Stands B a' (s.num lo hi).2 → R (int (s.numR lo hi)) (rfO p B a' (s.num lo hi).2 st)) : ACalls Try.prog 65 [ptr p, int lo, int hi] (rfO p B a s st) R := by
  refine ACalls.of_body (c := cfg 57) infoOK Try.func65 (by rfl) (by rfl) (by rfl) (by rfl) ?_
  first | refine optK_intro _ (rfO_get p B a s st) ?_ | refine optR (optK_intro _ (rfO_get p B a s st) ?_) | refine optR (optR (optK_intro _ (rfO_get p B a s st) ?_))
  refine bcne (fun h1 => ?_) (fun h1 => ?_)
  · have h := h a (hs.bad (by rw [num_stick h1]; exact h1))
    rw [numR_bad (by rw [num_stick h1]; exact h1), num_stick h1] at h
    exact ret h
  refine ADraw.of_sched infoOK (by rfl) (by rfl) sch65_3 (by rfl) ?_
  first | refine optK_intro _ (rfO_get p B a s st) ?_ | refine optR (optK_intro _ (rfO_get p B a s st) ?_) | refine optR (optR (optK_intro _ (rfO_get p B a s st) ?_))
  first | refine optK_intro _ (rfO_get p B a s st) ?_ | refine optR (optK_intro _ (rfO_get p B a s st) ?_) | refine optR (optR (optK_intro _ (rfO_get p B a s st) ?_))
  refine ⟨a, B.length, rfl, rws_len B ▸ rfl, hs.1, by rw [rws_len]; exact Nat.le_refl _, ?_⟩
  have e1 : ((rowsB B).take B.length).drop a = rowsB (B.drop a) := by rw [rws_take, List.take_length, rws_drop]
  rw [e1]
  refine ⟨refNum_spec (B.drop a) (by rw [List.length_drop]; omega) _ _ ⟨trivial, ?_⟩, trivial⟩
  refine ⟨⟨trivial, ?_⟩, trivial⟩
  refine ⟨⟨trivial, ?_⟩, trivial⟩
  refine ⟨⟨trivial, ?_⟩, trivial⟩
  have hf := getNum_facts (B.drop a)
  have hl : (B.drop a).length ≤ 1048576 := by rw [List.length_drop]; omega
  have fin : ∀ a' e', Stands B a' (s.num lo hi).2 → (s.num lo hi).2.e = e' → ∀ v, s.numR lo hi = v → R (int v) (st.setObj p (.cells [byts B, int a', int e'])) := by
    intro a' e' h2 h3 v h4
    have := h a' h2
    unfold rfO at this
    rw [h3, h4] at this
    exact this
  have hsp := num_step (lo := lo) (hi := hi) hs h1
  generalize getNum (B.drop a) = g at hf hsp ⊢
  obtain ⟨n, k, e⟩ := g
  dsimp only at hf hsp ⊢
  rcases hsp with ⟨hz, he, hlo, hhi, hv, hst⟩ | ⟨hz, hv, ⟨he, hw⟩ | ⟨he, hr, hw⟩⟩
  · subst he
    refine bcd (fun h2 => by exfalso; omega) (fun _ => ?_)
    refine bcd (fun h2 => by exfalso; omega) (fun _ => ?_)
    first | refine optK_intro _ (rfO_get p B a s st) ?_ | refine optR (optK_intro _ (rfO_get p B a s st) ?_) | refine optR (optR (optK_intro _ (rfO_get p B a s st) ?_))
    refine ⟨⟨by have := hs.1; omega, by have := hs.1; omega⟩, ?_⟩
    first | refine optK_intro _ (rfO_get p B a s st) ?_ | refine optR (optK_intro _ (rfO_get p B a s st) ?_) | refine optR (optR (optK_intro _ (rfO_get p B a s st) ?_))
    refine ⟨by simp, ?_⟩
    refine ret ?_
    show R (int n) ((rfO p B a s st).setObj p (.cells [byts B, int ((a : Int) + (k : Int)), int s.e]))
    rw [rfO_put, h1]
    exact fin (a + k) 0 hst hz n hv
  · refine bceq (fun h2 => absurd h2 he) (fun _ => ?_)
    refine bcne (fun _ => ?_) (fun h2 => absurd h2 he)
    first | refine optK_intro _ (rfO_get p B a s st) ?_ | refine optR (optK_intro _ (rfO_get p B a s st) ?_) | refine optR (optR (optK_intro _ (rfO_get p B a s st) ?_))
    refine ⟨by simp, ?_⟩
    refine ret ?_
    show R (int 0) ((rfO p B a s st).setObj p (.cells [byts B, int a, int e]))
    rw [rfO_put]
    exact fin a e (hs.bad hz) hw 0 hv
  · subst he
    have fin2 : R (int 0) ((rfO p B a s st).setObj p (.cells [byts B, int a, int 1])) := by
      rw [rfO_put]
      exact fin a 1 (hs.bad hz) hw 0 hv
    refine bcd (fun h2 => ?_) (fun h2 => ?_)
    · first | refine optK_intro _ (rfO_get p B a s st) ?_ | refine optR (optK_intro _ (rfO_get p B a s st) ?_) | refine optR (optR (optK_intro _ (rfO_get p B a s st) ?_))
      refine ⟨by simp, ?_⟩
      exact ret fin2
    refine bcd (fun h3 => ?_) (fun h3 => ?_)
    · first | refine optK_intro _ (rfO_get p B a s st) ?_ | refine optR (optK_intro _ (rfO_get p B a s st) ?_) | refine optR (optR (optK_intro _ (rfO_get p B a s st) ?_))
      refine ⟨by simp, ?_⟩
      exact ret fin2
    exact absurd ⟨by omega, by omega⟩ hr

theorem rint_spec (p a : Nat) (B : List UInt8) (s : Rd) (st : Store) (lo hi : Int) (hs : Stands B a s) (hB : B.length ≤ 1048576) (R : AV → Store → Prop)
    (h : ∀ a', Stands B a' (s.int lo hi).2 → R (int (s.intR lo hi)) (rfO p B a' (s.int lo hi).2 st)) : ACalls Try.prog 145 [ptr p, int lo, int hi] (rfO p B a s st) R := by
  refine ACalls.of_body (c := cfg 57) infoOK Try.func145 (by rfl) (by rfl) (by rfl) (by rfl) ?_
  first | refine optK_intro _ (rfO_get p B a s st) ?_ | refine optR (optK_intro _ (rfO_get p B a s st) ?_) | refine optR (optR (optK_intro _ (rfO_get p B a s st) ?_))
  refine bcne (fun h1 => ?_) (fun h1 => ?_)
  · have h := h a (hs.bad (by rw [int_stick h1]; exact h1))
    rw [intR_bad (by rw [int_stick h1]; exact h1), int_stick h1] at h
    exact ret h
  refine ADraw.of_sched infoOK (by rfl) (by rfl) sch145_3 (by rfl) ?_
  first | refine optK_intro _ (rfO_get p B a s st) ?_ | refine optR (optK_intro _ (rfO_get p B a s st) ?_) | refine optR (optR (optK_intro _ (rfO_get p B a s st) ?_))
  first | refine optK_intro _ (rfO_get p B a s st) ?_ | refine optR (optK_intro _ (rfO_get p B a s st) ?_) | refine optR (optR (optK_intro _ (rfO_get p B a s st) ?_))
  refine ⟨a, B.length, rfl, rws_len B ▸ rfl, hs.1, by rw [rws_len]; exact Nat.le_refl _, ?_⟩
  have e1 : ((rowsB B).take B.length).drop a = rowsB (B.drop a) := by rw [rws_take, List.take_length, rws_drop]
  rw [e1]
  refine ⟨refIntZ_spec (B.drop a) (by rw [List.length_drop]; omega) _ _ ⟨trivial, ?_⟩, trivial⟩
  refine ⟨⟨trivial, ?_⟩, trivial⟩
  refine ⟨⟨trivial, ?_⟩, trivial⟩
  refine ⟨⟨trivial, ?_⟩, trivial⟩
  have hf := getNum_facts (B.drop a)
  have hl : (B.drop a).length ≤ 1048576 := by rw [List.length_drop]; omega
  have fin : ∀ a' e', Stands B a' (s.int lo hi).2 → (s.int lo hi).2.e = e' → ∀ v, s.intR lo hi = v → R (int v) (st.setObj p (.cells [byts B, int a', int e'])) := by
    intro a' e' h2 h3 v h4
    have := h a' h2
    unfold rfO at this
    rw [h3, h4] at this
    exact this
  have hsp := int_step (lo := lo) (hi := hi) hs h1
  generalize getNum (B.drop a) = g at hf hsp ⊢
  obtain ⟨n0, k, e⟩ := g
  dsimp only at hf hsp ⊢
  generalize zig n0 = n at hsp ⊢
  rcases hsp with ⟨hz, he, hlo, hhi, hv, hst⟩ | ⟨hz, hv, ⟨he, hw⟩ | ⟨he, hr, hw⟩⟩
  · subst he
    refine bcd (fun h2 => by exfalso; omega) (fun _ => ?_)
    refine bcd (fun h2 => by exfalso; omega) (fun _ => ?_)
    first | refine optK_intro _ (rfO_get p B a s st) ?_ | refine optR (optK_intro _ (rfO_get p B a s st) ?_) | refine optR (optR (optK_intro _ (rfO_get p B a s st) ?_))
    refine ⟨⟨by have := hs.1; omega, by have := hs.1; omega⟩, ?_⟩
    first | refine optK_intro _ (rfO_get p B a s st) ?_ | refine optR (optK_intro _ (rfO_get p B a s st) ?_) | refine optR (optR (optK_intro _ (rfO_get p B a s st) ?_))
    refine ⟨by simp, ?_⟩
    refine ret ?_
    show R (int n) ((rfO p B a s st).setObj p (.cells [byts B, int ((a : Int) + (k : Int)), int s.e]))
    rw [rfO_put, h1]
    exact fin (a + k) 0 hst hz n hv
  · refine bceq (fun h2 => absurd h2 he) (fun _ => ?_)
    refine bcne (fun _ => ?_) (fun h2 => absurd h2 he)
    first | refine optK_intro _ (rfO_get p B a s st) ?_ | refine optR (optK_intro _ (rfO_get p B a s st) ?_) | refine optR (optR (optK_intro _ (rfO_get p B a s st) ?_))
    refine ⟨by simp, ?_⟩
    refine ret ?_
    show R (int 0) ((rfO p B a s st).setObj p (.cells [byts B, int a, int e]))
    rw [rfO_put]
    exact fin a e (hs.bad hz) hw 0 hv
  · subst he
    have fin2 : R (int 0) ((rfO p B a s st).setObj p (.cells [byts B, int a, int 1])) := by
      rw [rfO_put]
      exact fin a 1 (hs.bad hz) hw 0 hv
    refine bcd (fun h2 => ?_) (fun h2 => ?_)
    · first | refine optK_intro _ (rfO_get p B a s st) ?_ | refine optR (optK_intro _ (rfO_get p B a s st) ?_) | refine optR (optR (optK_intro _ (rfO_get p B a s st) ?_))
      refine ⟨by simp, ?_⟩
      exact ret fin2
    refine bcd (fun h3 => ?_) (fun h3 => ?_)
    · first | refine optK_intro _ (rfO_get p B a s st) ?_ | refine optR (optK_intro _ (rfO_get p B a s st) ?_) | refine optR (optR (optK_intro _ (rfO_get p B a s st) ?_))
      refine ⟨by simp, ?_⟩
      exact ret fin2
    exact absurd ⟨by omega, by omega⟩ hr

theorem rsign_spec (p a : Nat) (B : List UInt8) (s : Rd) (st : Store) (c : UInt8) (hs : Stands B a s) (hB : B.length ≤ 1048576) (R : AV → Store → Prop)
    (h : ∀ a', Stands B a' (s.byte.2.must (s.byte.1 == c)) → R (.tup []) (rfO p B a' (s.byte.2.must (s.byte.1 == c)) st)) : ACalls Try.prog 64 [ptr p, u8 c] (rfO p B a s st) R := by
  refine ACalls.of_body (c := cfg 44) infoOK Try.func64 (by rfl) (by rfl) (by rfl) (by rfl) ?_
  first | refine optK_intro _ (rfO_get p B a s st) ?_ | refine optR (optK_intro _ (rfO_get p B a s st) ?_) | refine optR (optR (optK_intro _ (rfO_get p B a s st) ?_))
  have fin : ∀ a' s', s.byte.2.must (s.byte.1 == c) = s' → Stands B a' s' → ∀ e', s'.e = e' → R (.tup []) (st.setObj p (.cells [byts B, int a', int e'])) := by
    intro a' s' h2 h3 e' h4
    have := h a' (by rw [h2]; exact h3)
    unfold rfO at this
    rw [h2, h4] at this
    exact this
  refine bcne (fun h1 => ?_) (fun h1 => ?_)
  · exact ret (fin a s (by rw [byte_stick h1]; exact must_stick h1) hs _ rfl)
  refine ADraw.of_sched infoOK (by rfl) (by rfl) sch64_1 (by rfl) ?_
  first | refine optK_intro _ (rfO_get p B a s st) ?_ | refine optR (optK_intro _ (rfO_get p B a s st) ?_) | refine optR (optR (optK_intro _ (rfO_get p B a s st) ?_))
  first | refine optK_intro _ (rfO_get p B a s st) ?_ | refine optR (optK_intro _ (rfO_get p B a s st) ?_) | refine optR (optR (optK_intro _ (rfO_get p B a s st) ?_))
  refine bcd (fun h2 => ?_) (fun h2 => ?_)
  · rw [rws_len] at h2
    first | refine optK_intro _ (rfO_get p B a s st) ?_ | refine optR (optK_intro _ (rfO_get p B a s st) ?_) | refine optR (optR (optK_intro _ (rfO_get p B a s st) ?_))
    refine ⟨by simp, ?_⟩
    refine ret ?_
    show R _ ((rfO p B a s st).setObj p (.cells [byts B, int a, int 11]))
    rw [rfO_put]
    exact fin a ⟨[], 11⟩ (by rw [byte_end hs h1 (by omega)]; exact must_stick (by simp)) (hs.bad (by simp)) _ rfl
  rw [rws_len] at h2
  have hlt : a < B.length := by omega
  have hb := byte_at hs h1 hlt
  refine ADraw.of_sched infoOK (by rfl) (by rfl) sch64_3 (by rfl) ?_
  first | refine optK_intro _ (rfO_get p B a s st) ?_ | refine optR (optK_intro _ (rfO_get p B a s st) ?_) | refine optR (optR (optK_intro _ (rfO_get p B a s st) ?_))
  first | refine optK_intro _ (rfO_get p B a s st) ?_ | refine optR (optK_intro _ (rfO_get p B a s st) ?_) | refine optR (optR (optK_intro _ (rfO_get p B a s st) ?_))
  refine ⟨a, rfl, optK_intro _ (rws_get hlt) ?_⟩
  refine bcne (fun h3 => ?_) (fun h3 => ?_)
  · first | refine optK_intro _ (rfO_get p B a s st) ?_ | refine optR (optK_intro _ (rfO_get p B a s st) ?_) | refine optR (optR (optK_intro _ (rfO_get p B a s st) ?_))
    refine ⟨by simp, ?_⟩
    refine ret ?_
    show R _ ((rfO p B a s st).setObj p (.cells [byts B, int a, int 1]))
    rw [rfO_put]
    have hne : (B[a] == c) = false := by
      rw [Bool.eq_false_iff]; intro h4; rw [beq_iff_eq] at h4; rw [h4] at h3; exact h3 rfl
    exact fin a ⟨B.drop (a + 1), 1⟩ (by rw [hb, hne]; rfl) (hs.bad (by simp)) _ rfl
  · have heq : (B[a] == c) = true := by rw [beq_iff_eq]; exact UInt8.toNat_inj.1 (by omega)
    first | refine optK_intro _ (rfO_get p B a s st) ?_ | refine optR (optK_intro _ (rfO_get p B a s st) ?_) | refine optR (optR (optK_intro _ (rfO_get p B a s st) ?_))
    refine ⟨⟨by omega, by omega⟩, ?_⟩
    first | refine optK_intro _ (rfO_get p B a s st) ?_ | refine optR (optK_intro _ (rfO_get p B a s st) ?_) | refine optR (optR (optK_intro _ (rfO_get p B a s st) ?_))
    refine ⟨by simp, ?_⟩
    refine ret ?_
    show R _ ((rfO p B a s st).setObj p (.cells [byts B, int ((a : Int) + 1), int s.e]))
    rw [rfO_put, h1]
    exact fin (a + 1) ⟨B.drop (a + 1), 0⟩ (by rw [hb, heq]; rfl) ⟨by omega, fun _ => rfl⟩ _ rfl

theorem same_snoc (s : Rd) {l : List UInt8} {i : Nat} (h : i < l.length) : s.same (l.take (i + 1)) = (s.same (l.take i)).byte.2.must ((s.same (l.take i)).byte.1 == l[i]) := by
  rw [List.take_succ_eq_append_getElem h]
  unfold Rd.same
  rw [List.foldl_append]
  rfl

theorem rsum_spec (p a : Nat) (B : List UInt8) (s : Rd) (st : Store) (hs : Stands B a s) (hB : B.length ≤ 1048576) (R : AV → Store → Prop)
    (h : ∀ a', Stands B a' (s.same (eightL (fnvSum fnvStart (B.take a)))) → R (.tup []) (rfO p B a' (s.same (eightL (fnvSum fnvStart (B.take a)))) st)) : ACalls Try.prog 113 [ptr p] (rfO p B a s st) R := by
  refine ACalls.of_body (c := cfg 30) infoOK Try.func113 (by rfl) (by rfl) (by rfl) (by rfl) ?_
  first | refine optK_intro _ (rfO_get p B a s st) ?_ | refine optR (optK_intro _ (rfO_get p B a s st) ?_) | refine optR (optR (optK_intro _ (rfO_get p B a s st) ?_))
  refine bcne (fun h1 => ?_) (fun h1 => ?_)
  · have h := h a (by rw [same_stick _ h1]; exact hs)
    rw [same_stick _ h1] at h
    exact ret h
  refine ADraw.of_sched infoOK (by rfl) (by rfl) sch113_1 (by rfl) ?_
  first | refine optK_intro _ (rfO_get p B a s st) ?_ | refine optR (optK_intro _ (rfO_get p B a s st) ?_) | refine optR (optR (optK_intro _ (rfO_get p B a s st) ?_))
  first | refine optK_intro _ (rfO_get p B a s st) ?_ | refine optR (optK_intro _ (rfO_get p B a s st) ?_) | refine optR (optR (optK_intro _ (rfO_get p B a s st) ?_))
  refine ⟨0, a, rfl, rfl, Nat.zero_le _, by rw [rws_len]; exact hs.1, ?_⟩
  rw [List.drop_zero, rws_take]
  refine ⟨sum3_spec fnvStart (l := B.take a) (AV.le_refl _) (by rw [List.length_take]; omega) ⟨trivial, ?_⟩, trivial⟩
  refine ⟨eight3_spec _ ⟨trivial, ?_⟩, trivial⟩
  refine ⟨⟨trivial, ?_⟩, trivial⟩
  have hl8 := eightL_len (fnvSum fnvStart (B.take a))
  generalize eightL (fnvSum fnvStart (B.take a)) = l at h hl8 ⊢
  refine AWp.loop (σ := Nat × Nat) ⟨fun x => [(0, .av (ptr p)), (2, .av (byts l)), (3, .av (int (x.1 : Nat)))], fun _ => [],
    fun x st' => x.1 ≤ 8 ∧ Stands B x.2 (s.same (l.take x.1)) ∧ st' = rfO p B x.2 (s.same (l.take x.1)) st, fun x => 8 - x.1⟩ infoOK ?_ ?_
  · exact ⟨(0, a), trivial, ⟨Nat.zero_le _, hs, rfl⟩, ⟨LV.le_refl _, LV.le_refl _, LV.le_refl _, trivial⟩, trivial⟩
  · rintro ⟨i, a'⟩ st' ⟨hi, hst, rfl⟩
    dsimp only at hi hst ⊢
    refine bcd (fun h2 => ?_) (fun h2 => ?_)
    · have hlt : i < l.length := by omega
      refine ⟨i, rfl, optK_intro _ (rws_get hlt) ?_⟩
      refine rsign_spec p a' B _ st l[i] hst hB _ (fun a2 hst2 => ?_)
      rw [← same_snoc s hlt] at hst2 ⊢
      refine ⟨⟨by omega, by omega⟩, ?_⟩
      refine ⟨(i + 1, a2), ?_, ⟨by simp only; omega, hst2, rfl⟩, ⟨LV.le_refl _, LV.le_refl _, LV.le_refl _, trivial⟩, trivial⟩
      show 8 - (i + 1) < 8 - i
      omega
    · obtain rfl : i = 8 := by omega
      rw [List.take_of_length_le (by omega)] at hst ⊢
      exact ret (h a' hst)

theorem runits_spec (p a : Nat) (B : List UInt8) (s : Rd) (st : Store) (hs : Stands B a s) (hB : B.length ≤ 1048576) (R : AV → Store → Prop)
    (h : ∀ a' l, Stands B a' s.ids.2 → (s.ids.2.e = 0 → l = s.ids.1) → R (ints l) (rfO p B a' s.ids.2 st)) : ACalls Try.prog 146 [ptr p] (rfO p B a s st) R := by
  refine ACalls.of_body (c := cfg 32) infoOK Try.func146 (by rfl) (by rfl) (by rfl) (by rfl) ?_
  refine rnum_spec p a B s st 1 64 hs hB _ (fun a1 hs1 => ?_)
  have hr := numR_bd s 1 64
  have hz : (s.num 1 64).2.e = 0 → s.numR 1 64 = (s.num 1 64).1 := numR_ok
  unfold Rd.ids at h
  generalize s.numR 1 64 = n at hr hz ⊢
  generalize s.num 1 64 = m at h hs1 hz ⊢
  generalize hI : Rd.idsGo m.1.toNat m.2 0 [] = I at h
  refine AWp.loop (σ := Nat × Nat × Rd × Int × List Int × AV × Nat × List Int) ⟨fun x => [(0, .av (ptr p)), (3, .av (int n)), (4, .av (int (x.2.2.2.1 + 1))), (5, .av x.2.2.2.2.2.1), (6, .av (int (x.1 : Nat)))], fun _ => [],
    fun x st' => Stands B x.2.1 x.2.2.1 ∧ Rd.idsGo x.2.2.2.2.2.2.1 x.2.2.1 x.2.2.2.1 x.2.2.2.2.2.2.2 = I ∧ (x.2.2.1.e = 0 → x.2.2.2.2.2.2.2 = x.2.2.2.2.1 ∧ n = (x.2.2.2.2.2.2.1 : Int) + x.1) ∧ (0 ≤ x.2.2.2.1 ∧ x.2.2.2.1 ≤ 1099511627776) ∧ (x.1 : Int) ≤ n ∧ x.2.2.2.2.1.length = x.1 ∧
      App 1 (rfO p B x.2.1 x.2.2.1 st) x.2.2.2.2.2.1 (rowsI x.2.2.2.2.1) st', fun x => n.toNat - x.1⟩ infoOK ?_ ?_
  · refine ⟨(0, a1, m.2, 0, [], _, m.1.toNat, []), trivial, ⟨hs1, hI, fun he => ⟨rfl, ?_⟩, by simp, by simp only; omega, rfl, App.start 1 _⟩, ⟨LV.le_refl _, LV.le_refl _, LV.le_refl _, LV.le_refl _, LV.le_refl _, trivial⟩, trivial⟩
    have := hz he
    simp only
    omega
  · rintro ⟨i, a2, t, last, l, v, k, g⟩ st' ⟨hst, hgo, heq, hlast, hin, hll, ha⟩
    dsimp only at hst hgo heq hlast hin hll ha ⊢
    obtain ⟨st1, rfl, hs2, hA⟩ := ha.split
    change ∀ y, App 1 (st.setObj p y) v (rowsI l) (st1.setObj p y) at hA
    show vc _ _ _ _ _ (rfO p B a2 t st1)
    have fin : ¬ ((i : Int) < n ∧ t.e = 0) → R (ints l) (rfO p B a2 t st) := by
      intro hc
      have hI2 : I = (g, t) := by
        rw [← hgo]
        by_cases he : t.e = 0
        · have := (heq he).2
          have : k = 0 := by omega
          subst this; rfl
        · exact idsGo_bad he
      have := h a2 l (by rw [hI2]; exact hst) (fun he => by rw [hI2] at he ⊢; exact ((heq he).1).symm)
      rw [hI2] at this
      exact this
    refine bcd (fun h1 => ?_) (fun h1 => ?_)
    rotate_left
    · exact retR (fin (fun hc => h1 hc.1)) (has_setObj2 hs2) ha.le
    first | refine optK_intro _ (rfO_get p B a2 t st1) ?_ | refine optR (optK_intro _ (rfO_get p B a2 t st1) ?_) | refine optR (optR (optK_intro _ (rfO_get p B a2 t st1) ?_))
    refine bceq (fun h2 => ?_) (fun h2 => ?_)
    rotate_left
    · exact retR (fin (fun hc => h2 hc.2)) (has_setObj2 hs2) ha.le
    obtain ⟨hg, hk⟩ := heq h2
    subst hg
    obtain ⟨k', rfl⟩ : ∃ k', k = k' + 1 := ⟨k - 1, by omega⟩
    refine rnum_spec p a2 B t st1 (last + 1) 1099511627776 hst hB _ (fun a3 hst3 => ?_)
    rw [idsGo_ok h2] at hgo
    have hb := numR_bd t (last + 1) 1099511627776
    have hv2 : (t.num (last + 1) 1099511627776).2.e = 0 → t.numR (last + 1) 1099511627776 = (t.num (last + 1) 1099511627776).1 := numR_ok
    generalize t.numR (last + 1) 1099511627776 = x at hb hv2 ⊢
    generalize t.num (last + 1) 1099511627776 = u at hgo hst3 hv2 ⊢
    refine ⟨⟨by omega, by omega⟩, ?_⟩
    refine ⟨by decide, ?_⟩
    refine appendK_app (ie := ti3) (rows' := [[int x]]) (hA (.cells [byts B, int a3, int u.2.e])) (by rfl) (by rfl) ⟨?_, ?_⟩ (fun v2 st2 ha2 => ?_)
    · simp [rws_len, ti3]; omega
    · simp [rws_len]; omega
    refine ⟨⟨by omega, by omega⟩, ?_⟩
    refine ⟨(i + 1, a3, u.2, x, g ++ [x], v2, k', g ++ [u.1]), ?_, ⟨hst3, ?_, fun he => ⟨by rw [hv2 he], by simp only; omega⟩, by simp only; omega, by simp only; omega, by simp; omega, ?_⟩, ⟨LV.le_refl _, LV.le_refl _, LV.le_refl _, LV.le_refl _, LV.le_refl _, trivial⟩, trivial⟩
    · show n.toNat - (i + 1) < n.toNat - i
      omega
    · show Rd.idsGo k' u.2 x (g ++ [u.1]) = I
      by_cases he : u.2.e = 0
      · rw [hv2 he]; exact hgo
      · rw [idsGo_bad he]
        rw [idsGo_bad he] at hgo
        exact hgo
    · show App 1 (rfO p B a3 u.2 st) v2 (rowsI (g ++ [x])) st2
      have e : rowsI (g ++ [x]) = rowsI g ++ [[int x]] := (rws_app g [x]).symm
      rw [e]
      exact ha2
end Go.Proofs
namespace Go.Proofs
open Go Go.V
set_option linter.unusedVariables false

theorem appB1 {c : UInt8} : rowsB [c] = [[u8 c]] := rfl
set_option maxHeartbeats 2000000 in
set_option maxRecDepth 20000 in
theorem refMap_spec (b : List UInt8) (hB : b.length ≤ 1048576) {w : AV} (hw : AV.le w (byts b)) (st : Store) (R : AV → Store → Prop) (h : R (.tup [.agg (gndC (mapParse b).1), int (mapParse b).2]) st) : ACalls Try.prog 111 [w] st R := by
  refine ACalls.le (ys := [byts b]) ⟨hw, trivial⟩ ?_
  refine ACalls.of_body (c := cfg 127) infoOK Try.func111 (by rfl) (by rfl) (by rfl) (by rfl) ?_
  have bad : ∀ e : Int, (mapSum b).e = e → e ≠ 0 → ∀ st' : Store, st'.Has st → ∃ r st2, AV.le (.tup [.agg [int 0, int 0, nil], int e]) r ∧ st'.Has st2 ∧ R r st2 := by
    intro e h1 h2 st' hs
    rw [mapParse_bad h1 h2] at h
    exact retR h hs (AV.le_tupL ⟨AV.le_aggL ⟨AV.le_refl _, AV.le_refl _, AV.le_nil 1, trivial⟩, AV.le_refl _, trivial⟩)
  refine ⟨by decide, ?_⟩
  refine AWp.loop (σ := Nat) ⟨fun i => [(0, .av (byts b)), (2, .bx 2 0), (4, .av (byts [84, 71])), (5, .av (int (i : Nat)))], fun _ => [(2, [int 0, int 0, nil])],
    fun i st' => i ≤ 2 ∧ (Rd.same ⟨b, 0⟩ ([84, 71].take i)).e = 0 ∧ Stands b i (Rd.same ⟨b, 0⟩ ([84, 71].take i)) ∧ st' = st, fun i => 2 - i⟩ infoOK ?_ ?_
  · exact ⟨0, trivial, ⟨Nat.zero_le _, rfl, Stands.start b, rfl⟩, ⟨LV.le_refl _, LV.le_refl _, LV.le_refl _, LV.le_refl _, trivial⟩, ⟨rfl, trivial⟩⟩
  rintro i st1 ⟨hi, he, hst, hst1⟩
  have hst1 := hst1.symm
  subst hst1
  refine bcd (fun h1 => ?_) (fun h1 => ?_)
  · have hlt : i < ([84, 71] : List UInt8).length := by simp; omega
    have hsn := same_snoc ⟨b, 0⟩ hlt
    have hbad : ∀ e : Int, (Rd.same ⟨b, 0⟩ ([84, 71].take (i + 1))).e = e → e ≠ 0 → (mapSum b).e = e := fun e h2 h3 => by
      have h4 := same_bad (s := ⟨b, 0⟩) (l := [84, 71]) (i := i + 1) (by rw [h2]; exact h3)
      have h5 := mapSum_sign (b := b) (by rw [h4, h2]; exact h3)
      rw [h5, h4, h2]
    refine bcd (fun h2 => ?_) (fun h2 => ?_)
    · rw [rws_len] at h2
      refine bad 11 (hbad 11 ?_ (by decide)) (by decide) _ (Store.Has.refl _)
      rw [hsn, byte_end hst he (by omega), must_stick (by simp)]
    rw [rws_len] at h2
    have hltb : i < b.length := by omega
    have hby := byte_at hst he hltb
    rw [hby] at hsn
    simp only at hsn
    refine ADraw.of_sched infoOK (by rfl) (by rfl) sch111_7 (by rfl) ?_
    refine ⟨i, rfl, optK_intro _ (rws_get hltb) ?_⟩
    refine ⟨i, rfl, optK_intro _ (rws_get hlt) ?_⟩
    refine bcne (fun h3 => ?_) (fun h3 => ?_)
    · refine bad 1 (hbad 1 ?_ (by decide)) (by decide) _ (Store.Has.refl _)
      rw [hsn]
      have : (b[i] == ([84, 71] : List UInt8)[i]) = false := by
        rw [Bool.eq_false_iff]; intro h4; rw [beq_iff_eq] at h4; rw [h4] at h3; exact h3 rfl
      rw [this]; rfl
    · have heq : (b[i] == ([84, 71] : List UInt8)[i]) = true := by rw [beq_iff_eq]; exact UInt8.toNat_inj.1 (by omega)
      rw [heq] at hsn
      refine ⟨⟨by omega, by omega⟩, ?_⟩
      refine ⟨i + 1, ?_, ⟨by omega, by rw [hsn]; rfl, by rw [hsn]; exact ⟨by omega, fun _ => rfl⟩, rfl⟩, ⟨LV.le_refl _, LV.le_refl _, LV.le_refl _, LV.le_refl _, trivial⟩, ⟨rfl, trivial⟩⟩
      show 2 - (i + 1) < 2 - i
      omega
  obtain rfl : i = 2 := by omega
  have e2 : ([84, 71] : List UInt8).take 2 = [84, 71] := rfl
  rw [e2] at he hst
  have hl2 := hst.1
  refine ⟨2, b.length, rfl, rws_len b ▸ rfl, hst.1, by rw [rws_len]; exact Nat.le_refl _, ?_⟩
  have e1 : ∀ a, ((rowsB b).take b.length).drop a = rowsB (b.drop a) := fun a => by rw [rws_take, List.take_length, rws_drop]
  rw [e1]
  refine refSide_spec (b.drop 2) (by rw [List.length_drop]; omega) _ _ ?_
  have hw1 : (mapHead b).1 = ((Rd.same ⟨b, 0⟩ [84, 71]).num 1 128).1 := rfl
  have hw2 : (mapHead b).2 = ((Rd.same ⟨b, 0⟩ [84, 71]).num 1 128).2 := rfl
  have hf := sideR_le (b.drop 2)
  have hsp := side_step hst he
  generalize (Rd.same ⟨b, 0⟩ [84, 71]).num 1 128 = x1 at hw1 hw2 hsp
  generalize sideR (b.drop 2) = g at hsp hf ⊢
  obtain ⟨w, k, e⟩ := g
  dsimp only at hsp hf ⊢
  rcases hsp with ⟨hz, rfl, hv, hst1, hlo, hhi⟩ | ⟨hz, rfl⟩
  rotate_left
  · refine bcne (fun _ => ?_) (fun h3 => absurd h3 hz)
    exact bad _ (by rw [mapSum_head (by rw [hw2]; exact hz), hw2]) hz _ (Store.Has.refl _)
  have hl3 := hst1.1
  refine ⟨⟨by omega, by omega⟩, ?_⟩
  refine ⟨2 + k, b.length, rfl, rws_len b ▸ rfl, hst1.1, by rw [rws_len]; exact Nat.le_refl _, ?_⟩
  rw [e1]
  refine refSide_spec (b.drop (2 + k)) (by rw [List.length_drop]; omega) _ _ ?_
  have hw3 : (mapSide b).1 = (x1.2.num 1 128).1 := by unfold mapSide; rw [hw2]
  have hw4 : (mapSide b).2 = (x1.2.num 1 128).2 := by unfold mapSide; rw [hw2]
  have hf2 := sideR_le (b.drop (2 + k))
  have hsp := side_step hst1 hz
  generalize x1.2.num 1 128 = x2 at hw3 hw4 hsp
  generalize sideR (b.drop (2 + k)) = g at hsp hf2 ⊢
  obtain ⟨hh, k2, e⟩ := g
  dsimp only at hsp hf2 ⊢
  rcases hsp with ⟨hz2, rfl, hv2, hst2, hlo2, hhi2⟩ | ⟨hz2, rfl⟩
  rotate_left
  · refine bcne (fun _ => ?_) (fun h3 => absurd h3 hz2)
    exact bad _ (by rw [mapSum_side (by rw [hw4]; exact hz2), hw4]) hz2 _ (Store.Has.refl _)
  have hl4 := hst2.1
  have hwh := side_mul (a := w) (b := hh) ⟨by omega, by omega⟩ ⟨by omega, by omega⟩
  refine ⟨⟨by omega, by omega⟩, ?_⟩
  have hT : mapTiles b = Rd.tilesGo (w * hh).toNat x2.2 [] := by unfold mapTiles; rw [hw1, hv, hw3, hv2, hw4]
  generalize hN : (w * hh).toNat = N at hT
  have hNi : (w * hh) = (N : Int) := by omega
  refine AWp.loop (σ := Nat × Nat × Rd × List UInt8 × AV) ⟨fun x => [(0, .av (byts b)), (2, .bx 2 0), (6, .av (int w)), (9, .av (int (x.2.1 : Nat))), (10, .av (int hh)), (11, .bx 11 0), (12, .av (int (x.1 : Nat)))], fun x => [(2, [int 0, int 0, nil]), (11, [int w, int hh, x.2.2.2.2])],
    fun x st' => x.1 ≤ N ∧ x.2.2.1.e = 0 ∧ Stands b x.2.1 x.2.2.1 ∧ Rd.tilesGo (N - x.1) x.2.2.1 x.2.2.2.1 = mapTiles b ∧ x.2.2.2.1.length = x.1 ∧ App 1 st x.2.2.2.2 (rowsB x.2.2.2.1) st', fun x => N - x.1⟩ infoOK ?_ ?_
  · exact ⟨(0, 2 + k + k2, x2.2, [], nil), trivial, ⟨Nat.zero_le _, hz2, hst2, hT.symm, rfl, App.start 1 _⟩, ⟨LV.le_refl _, LV.le_refl _, LV.le_refl _, LV.le_refl _, LV.le_refl _, LV.le_refl _, LV.le_refl _, trivial⟩, ⟨rfl, rfl, trivial⟩⟩
  rintro ⟨i, a, t, l, v⟩ st' ⟨hi, he, hst, hgo, hll, ha⟩
  dsimp only at hi he hst hgo hll ha ⊢
  have hal := hst.1
  refine ⟨⟨by omega, by omega⟩, ?_⟩
  refine bcd (fun h1 => ?_) (fun h1 => ?_)
  · have hlt : i < N := by omega
    obtain ⟨m, hm⟩ : ∃ m, N - i = m + 1 := ⟨N - i - 1, by omega⟩
    rw [hm, tilesGo_ok he] at hgo
    have hbad : ∀ e : Int, (t.byte.2.must (decide (t.byte.1.toNat ≤ 5))).e = e → e ≠ 0 → (mapSum b).e = e := fun e h2 h3 => by
      rw [tilesGo_bad (by rw [h2]; exact h3)] at hgo
      have h5 := mapSum_tiles (b := b) (by rw [← hgo]; simp only; rw [h2]; exact h3)
      rw [h5, ← hgo]; exact h2
    refine bcd (fun h2 => ?_) (fun h2 => ?_)
    · rw [rws_len] at h2
      refine bad 11 (hbad 11 ?_ (by decide)) (by decide) _ ha.has
      rw [byte_end hst he (by omega), must_stick (by simp)]
    rw [rws_len] at h2
    have hltb : a < b.length := by omega
    have hby := byte_at hst he hltb
    rw [hby] at hgo hbad
    simp only at hgo hbad
    refine ⟨a, rfl, optK_intro _ (rws_get hltb) ?_⟩
    refine bcd (fun h3 => ?_) (fun h3 => ?_)
    · refine bad 1 (hbad 1 ?_ (by decide)) (by decide) _ ha.has
      rw [show decide (b[a].toNat ≤ 5) = false by simp; omega]; rfl
    rw [show decide (b[a].toNat ≤ 5) = true by simp; omega] at hgo
    refine ADraw.of_sched infoOK (by rfl) (by rfl) sch111_25 (by rfl) ?_
    refine ⟨a, rfl, optK_intro _ (rws_get hltb) ?_⟩
    refine ⟨by decide, ?_⟩
    refine ⟨?_, trivial⟩
    refine appB ha (l := [b[a]]) (by rfl) (by simp; omega) (fun v2 st2 ha2 => ?_)
    obtain ⟨tb, rfl⟩ := ha2.lst (by simp [rws])
    refine ⟨trivial, ?_⟩
    refine ⟨⟨trivial, ?_⟩, trivial⟩
    refine ⟨⟨by omega, by omega⟩, ?_⟩
    refine ⟨⟨by omega, by omega⟩, ?_⟩
    refine ⟨(i + 1, a + 1, ⟨b.drop (a + 1), 0⟩, l ++ [b[a]], _), ?_, ⟨hlt, rfl, ⟨by simp only; omega, fun _ => rfl⟩, ?_, by simp; omega, ha2⟩, ⟨LV.le_refl _, LV.le_refl _, LV.le_refl _, LV.le_refl _, LV.le_refl _, LV.le_refl _, LV.le_refl _, trivial⟩, ⟨rfl, rfl, trivial⟩⟩
    · show N - (i + 1) < N - i
      omega
    · simp only
      rw [show N - (i + 1) = m by omega]
      exact hgo
  obtain rfl : i = N := by omega
  have hTl : mapTiles b = (l, t) := by rw [← hgo, Nat.sub_self]; rfl
  have hP : (mapSum b).e = 0 → mapParse b = (⟨w, hh, l⟩, 0) := by
    intro h2
    unfold mapParse
    rw [h2, hw1, hv, hw3, hv2, hTl]
    simp
  refine ⟨0, a, rfl, rfl, Nat.zero_le _, by rw [rws_len]; exact hal, ?_⟩
  rw [List.drop_zero, rws_take]
  refine sum3_spec fnvStart (l := b.take a) (AV.le_refl _) (by rw [List.length_take]; omega) ?_
  refine eight3_spec _ ?_
  have hl8 := eightL_len (fnvSum fnvStart (b.take a))
  have hS : mapSum b = (t.same (eightL (fnvSum fnvStart (b.take a)))).fin := by
    unfold mapSum
    rw [hTl]
    simp only
    rw [hst.at he]
  generalize eightL (fnvSum fnvStart (b.take a)) = q at hS hl8 ⊢
  refine AWp.loop (σ := Nat × Nat) ⟨fun x => [(0, .av (byts b)), (2, .bx 2 0), (9, .av (int (x.2 : Nat))), (11, .bx 11 0), (13, .av (byts q)), (14, .av (int (x.1 : Nat)))], fun x => [(2, [int 0, int 0, nil]), (11, [int w, int hh, v])],
    fun x st2 => x.1 ≤ 8 ∧ (t.same (q.take x.1)).e = 0 ∧ Stands b x.2 (t.same (q.take x.1)) ∧ st2 = st', fun x => 8 - x.1⟩ infoOK ?_ ?_
  · exact ⟨(0, a), trivial, ⟨Nat.zero_le _, he, hst, rfl⟩, ⟨LV.le_refl _, LV.le_refl _, LV.le_refl _, LV.le_refl _, LV.le_refl _, LV.le_refl _, trivial⟩, ⟨rfl, rfl, trivial⟩⟩
  rintro ⟨j, a⟩ st2 ⟨hj, he, hst, rfl⟩
  dsimp only at hj he hst ⊢
  have hal := hst.1
  refine bcd (fun h1 => ?_) (fun h1 => ?_)
  · have hlt : j < q.length := by omega
    have hsn := same_snoc t hlt
    have hbad : ∀ e : Int, (t.same (q.take (j + 1))).e = e → e ≠ 0 → (mapSum b).e = e := fun e h2 h3 => by
      have h4 := same_bad (s := t) (l := q) (i := j + 1) (by rw [h2]; exact h3)
      rw [hS, h4, fin_stick (by rw [h2]; exact h3), h2]
    refine bcd (fun h2 => ?_) (fun h2 => ?_)
    · rw [rws_len] at h2
      refine bad 11 (hbad 11 ?_ (by decide)) (by decide) _ ha.has
      rw [hsn, byte_end hst he (by omega), must_stick (by simp)]
    rw [rws_len] at h2
    have hltb : a < b.length := by omega
    have hby := byte_at hst he hltb
    rw [hby] at hsn
    simp only at hsn
    refine ADraw.of_sched infoOK (by rfl) (by rfl) sch111_33 (by rfl) ?_
    refine ⟨a, rfl, optK_intro _ (rws_get hltb) ?_⟩
    refine ⟨j, rfl, optK_intro _ (rws_get hlt) ?_⟩
    refine bcne (fun h3 => ?_) (fun h3 => ?_)
    · refine bad 1 (hbad 1 ?_ (by decide)) (by decide) _ ha.has
      rw [hsn]
      have : (b[a] == q[j]) = false := by
        rw [Bool.eq_false_iff]; intro h4; rw [beq_iff_eq] at h4; rw [h4] at h3; exact h3 rfl
      rw [this]; rfl
    · have heq : (b[a] == q[j]) = true := by rw [beq_iff_eq]; exact UInt8.toNat_inj.1 (by omega)
      rw [heq] at hsn
      refine ⟨⟨by omega, by omega⟩, ?_⟩
      refine ⟨⟨by omega, by omega⟩, ?_⟩
      refine ⟨(j + 1, a + 1), ?_, ⟨by simp only; omega, by rw [hsn]; rfl, by rw [hsn]; exact ⟨by simp only; omega, fun _ => rfl⟩, rfl⟩, ⟨LV.le_refl _, LV.le_refl _, LV.le_refl _, LV.le_refl _, LV.le_refl _, LV.le_refl _, trivial⟩, ⟨rfl, rfl, trivial⟩⟩
      show 8 - (j + 1) < 8 - j
      omega
  obtain rfl : j = 8 := by omega
  rw [List.take_of_length_le (by omega)] at he hst
  have hbl : (t.same q).b.length = b.length - a := by rw [hst.2 he, List.length_drop]
  refine bcne (fun h2 => ?_) (fun h2 => ?_)
  · rw [rws_len] at h2
    refine bad 1 ?_ (by decide) _ ha.has
    rw [hS]
    unfold Rd.fin
    rw [show ((t.same q).b.length == 0) = false by rw [beq_eq_false_iff_ne]; omega]
    unfold Rd.must Rd.fail
    simp [he]
  · rw [rws_len] at h2
    have h0 : (mapSum b).e = 0 := by
      rw [hS]
      unfold Rd.fin
      rw [show ((t.same q).b.length == 0) = true by rw [beq_iff_eq]; omega]
      exact he
    rw [hP h0] at h
    have h : R (.tup [.agg [int w, int hh, byts l], int 0]) st := h
    have hone := ha.one
    refine storeK_boxL (v := .agg [int w, int hh, v]) (xs := [int w, int hh, v]) (by rfl) (by simp only [List.all_cons, List.all_nil, hone]; rfl) (by rfl) (by rfl) (by simp) ?_
    exact retR h ha.has (AV.le_tupL ⟨AV.le_aggL ⟨AV.le_refl _, AV.le_refl _, ha.le, trivial⟩, AV.le_refl _, trivial⟩)
end Go.Proofs
namespace Go.Proofs
open Go Go.V
set_option linter.unusedVariables false

theorem cmdOut_congr {B : List UInt8} {c c' : Cmd} {s : Rd} (h : s.e = 0 → c = c') : cmdOut B (c, s) = cmdOut B (c', s) := by
  by_cases he : s.e = 0
  · rw [h he]
  · unfold cmdOut; rw [if_neg he, if_neg he]
theorem cmdOut_tail {B : List UInt8} {c c' : Cmd} {s : Rd} (h : s.e = 0 → c = c') : cmdOut B (s.tail c) = cmdOut B (s.tail c') := by
  by_cases he : s.e = 0
  · rw [h he]
  · unfold cmdOut; rw [tail_stick he, tail_stick he, if_neg he, if_neg he]
def cellsV (c : Cmd) (v : AV) : List AV := [int c.P, int c.S, int c.K, int c.N, v, int c.T, int c.W, int c.H, int c.X, int c.Y]

set_option maxHeartbeats 2000000 in
theorem refCmd_spec (B : List UInt8) (hB : B.length ≤ 1048576) {w : AV} (hw : AV.le w (byts B)) (st : Store) (R : AV → Store → Prop)
    (h : R (.tup [.agg (cmdC (cmdRef B).1), int (cmdRef B).2.1, int (cmdRef B).2.2]) st) : ACalls Try.prog 112 [w] st R := by
  refine ACalls.le (ys := [byts B]) ⟨hw, trivial⟩ ?_
  refine ACalls.of_awp (c := cfg 96 [11] []) infoOK Try.func112 (by rfl) (by rfl) (by rfl) (by rfl) ?_
  refine AWp.seq (AWp.of_vc infoOK ?_)
  refine AWp.seq (AWp.of_vc infoOK ?_)
  intro p hp
  change AWp _ _ _ _ _ (rfO p B 0 ⟨B, 0⟩ st)
  have hdrop : ∀ {a : Nat} {s : Rd}, (rfO p B a s st).Has st := has_setObj hp.1
  refine AWp.seq (AWp.of_vc infoOK ?_)
  refine rnum_spec p 0 B _ st 1 7 (Stands.start B) hB _ (fun a1 hs1 => ?_)
  refine AWp.seq (AWp.of_vc infoOK ?_)
  refine rnum_spec p a1 B _ st 1 8 hs1 hB _ (fun a2 hs2 => ?_)
  refine AWp.seq (AWp.of_vc infoOK ?_)
  refine rnum_spec p a2 B _ st 0 1099511627776 hs2 hB _ (fun a3 hs3 => ?_)
  have e1 : cmdRef B = cmdOut B ((((Rd.num ⟨B, 0⟩ 1 7).2.num 1 8).2.num 0 1099511627776).2.tail (cmd0 ((Rd.num ⟨B, 0⟩ 1 7).2.numR 1 8) (((Rd.num ⟨B, 0⟩ 1 7).2.num 1 8).2.numR 0 1099511627776) (Rd.numR ⟨B, 0⟩ 1 7))) := by
    refine cmdOut_tail (fun he => ?_)
    have h2 := num_e he
    have h3 := num_e h2
    rw [numR_ok he, numR_ok h2, numR_ok h3]
  generalize (((Rd.num ⟨B, 0⟩ 1 7).2.num 1 8).2.numR 0 1099511627776) = vS at e1 ⊢
  generalize ((Rd.num ⟨B, 0⟩ 1 7).2.numR 1 8) = vP at e1 ⊢
  generalize (Rd.numR ⟨B, 0⟩ 1 7) = vK at e1 ⊢
  generalize (((Rd.num ⟨B, 0⟩ 1 7).2.num 1 8).2.num 0 1099511627776).2 = s at e1 hs3 ⊢
  refine AWp.meet (σ := Nat × Cmd × Rd × AV) ⟨fun x => [(2, .bx 2 0), (5, .av (ptr p)), (6, .bx 6 0)], fun x => [(2, cellsV cmdZ nil), (6, cellsV x.2.1 x.2.2.2)],
    fun x st' => st' = rfO p B x.1 x.2.2.1 st ∧ Stands B x.1 x.2.2.1 ∧ cmdRef B = cmdOut B (x.2.1, x.2.2.1) ∧ AV.le x.2.2.2 (ints x.2.1.U) ∧ (x.2.2.2 = nil ∨ ∃ l, x.2.2.2 = ints l)⟩ infoOK ?_ ?_
  · have nl : AV.le nil (ints []) := AV.le_nil 1
    refine bceq (fun k1 => ?_) (fun k1 => ?_)
    · have et : s.tail (cmd0 vP vS vK) = ({ cmd0 vP vS vK with N := (s.num 0 3).1, X := ((s.num 0 3).2.int (-1099511627776) 1099511627776).1, Y := (((s.num 0 3).2.int (-1099511627776) 1099511627776).2.int (-1099511627776) 1099511627776).1 }, (((s.num 0 3).2.int (-1099511627776) 1099511627776).2.int (-1099511627776) 1099511627776).2) := by
        unfold Rd.tail; exact if_pos k1
      refine rnum_spec p a3 B s st 0 3 hs3 hB _ (fun a4 hs4 => ?_)
      refine rint_spec p a4 B _ st (-1099511627776) 1099511627776 hs4 hB _ (fun a5 hs5 => ?_)
      refine rint_spec p a5 B _ st (-1099511627776) 1099511627776 hs5 hB _ (fun a6 hs6 => ?_)
      refine ⟨(a6, { cmd0 vP vS vK with N := s.numR 0 3, X := (s.num 0 3).2.intR (-1099511627776) 1099511627776, Y := ((s.num 0 3).2.int (-1099511627776) 1099511627776).2.intR (-1099511627776) 1099511627776 }, _, nil), ⟨rfl, hs6, ?_, nl, .inl rfl⟩, ⟨LV.le_refl _, LV.le_refl _, LV.le_refl _, trivial⟩, ⟨rfl, rfl, trivial⟩⟩
      rw [e1, et]
      refine cmdOut_congr (fun he => ?_)
      have h2 := int_e he
      have h3 := int_e h2
      rw [intR_ok he, intR_ok h2, numR_ok h3]
    refine bceq (fun k2 => ?_) (fun k2 => ?_)
    · have et : s.tail (cmd0 vP vS vK) = ({ cmd0 vP vS vK with U := s.ids.1, T := (s.ids.2.num 0 16383).1 }, (s.ids.2.num 0 16383).2) := by
        unfold Rd.tail; exact (if_neg k1).trans (if_pos k2)
      refine runits_spec p a3 B s st hs3 hB _ (fun a4 l hs4 hl => ?_)
      refine rnum_spec p a4 B _ st 0 16383 hs4 hB _ (fun a5 hs5 => ?_)
      refine ⟨(a5, { cmd0 vP vS vK with U := l, T := s.ids.2.numR 0 16383 }, _, ints l), ⟨rfl, hs5, ?_, AV.le_refl _, .inr ⟨_, rfl⟩⟩, ⟨LV.le_refl _, LV.le_refl _, LV.le_refl _, trivial⟩, ⟨rfl, rfl, trivial⟩⟩
      rw [e1, et]
      refine cmdOut_congr (fun he => ?_)
      have h2 := num_e he
      rw [numR_ok he, hl h2]
    refine bceq (fun k3 => ?_) (fun k3 => ?_)
    · have et : s.tail (cmd0 vP vS vK) = ({ cmd0 vP vS vK with U := s.ids.1 }, s.ids.2) := by
        unfold Rd.tail; exact (if_neg k1).trans ((if_neg k2).trans (if_pos k3))
      refine runits_spec p a3 B s st hs3 hB _ (fun a4 l hs4 hl => ?_)
      refine ⟨(a4, { cmd0 vP vS vK with U := l }, _, ints l), ⟨rfl, hs4, ?_, AV.le_refl _, .inr ⟨_, rfl⟩⟩, ⟨LV.le_refl _, LV.le_refl _, LV.le_refl _, trivial⟩, ⟨rfl, rfl, trivial⟩⟩
      rw [e1, et]
      refine cmdOut_congr (fun he => ?_)
      rw [hl he]
    refine bceq (fun k4 => ?_) (fun k4 => ?_)
    · have et : s.tail (cmd0 vP vS vK) = ({ cmd0 vP vS vK with T := (s.num 0 16383).1, W := ((s.num 0 16383).2.num 1 4).1, H := (((s.num 0 16383).2.num 1 4).2.num 1 4).1 }, (((s.num 0 16383).2.num 1 4).2.num 1 4).2) := by
        unfold Rd.tail; exact (if_neg k1).trans ((if_neg k2).trans ((if_neg k3).trans (if_pos k4)))
      refine rnum_spec p a3 B s st 0 16383 hs3 hB _ (fun a4 hs4 => ?_)
      refine rnum_spec p a4 B _ st 1 4 hs4 hB _ (fun a5 hs5 => ?_)
      refine rnum_spec p a5 B _ st 1 4 hs5 hB _ (fun a6 hs6 => ?_)
      refine ⟨(a6, { cmd0 vP vS vK with T := s.numR 0 16383, W := (s.num 0 16383).2.numR 1 4, H := ((s.num 0 16383).2.num 1 4).2.numR 1 4 }, _, nil), ⟨rfl, hs6, ?_, nl, .inl rfl⟩, ⟨LV.le_refl _, LV.le_refl _, LV.le_refl _, trivial⟩, ⟨rfl, rfl, trivial⟩⟩
      rw [e1, et]
      refine cmdOut_congr (fun he => ?_)
      have h2 := num_e he
      have h3 := num_e h2
      rw [numR_ok he, numR_ok h2, numR_ok h3]
    refine bceq (fun k5 => ?_) (fun k5 => ?_)
    · have et : s.tail (cmd0 vP vS vK) = ({ cmd0 vP vS vK with N := (s.num 1 1099511627776).1 }, (s.num 1 1099511627776).2) := by
        unfold Rd.tail; exact (if_neg k1).trans ((if_neg k2).trans ((if_neg k3).trans ((if_neg k4).trans (if_pos k5))))
      refine rnum_spec p a3 B s st 1 1099511627776 hs3 hB _ (fun a4 hs4 => ?_)
      refine ⟨(a4, { cmd0 vP vS vK with N := s.numR 1 1099511627776 }, _, nil), ⟨rfl, hs4, ?_, nl, .inl rfl⟩, ⟨LV.le_refl _, LV.le_refl _, LV.le_refl _, trivial⟩, ⟨rfl, rfl, trivial⟩⟩
      rw [e1, et]
      refine cmdOut_congr (fun he => ?_)
      rw [numR_ok he]
    refine bceq (fun k6 => ?_) (fun k6 => ?_)
    · have et : s.tail (cmd0 vP vS vK) = ({ cmd0 vP vS vK with U := s.ids.1, N := (s.ids.2.num 1 1099511627776).1 }, (s.ids.2.num 1 1099511627776).2) := by
        unfold Rd.tail; exact (if_neg k1).trans ((if_neg k2).trans ((if_neg k3).trans ((if_neg k4).trans ((if_neg k5).trans (if_pos k6)))))
      refine runits_spec p a3 B s st hs3 hB _ (fun a4 l hs4 hl => ?_)
      refine rnum_spec p a4 B _ st 1 1099511627776 hs4 hB _ (fun a5 hs5 => ?_)
      refine ⟨(a5, { cmd0 vP vS vK with U := l, N := s.ids.2.numR 1 1099511627776 }, _, ints l), ⟨rfl, hs5, ?_, AV.le_refl _, .inr ⟨_, rfl⟩⟩, ⟨LV.le_refl _, LV.le_refl _, LV.le_refl _, trivial⟩, ⟨rfl, rfl, trivial⟩⟩
      rw [e1, et]
      refine cmdOut_congr (fun he => ?_)
      have h2 := num_e he
      rw [numR_ok he, hl h2]
    refine bceq (fun k7 => ?_) (fun k7 => ?_)
    · have et : s.tail (cmd0 vP vS vK) = ({ cmd0 vP vS vK with N := (s.num 1 1099511627776).1, T := ((s.num 1 1099511627776).2.num 0 16383).1 }, ((s.num 1 1099511627776).2.num 0 16383).2) := by
        unfold Rd.tail; exact (if_neg k1).trans ((if_neg k2).trans ((if_neg k3).trans ((if_neg k4).trans ((if_neg k5).trans ((if_neg k6).trans (if_pos k7))))))
      refine rnum_spec p a3 B s st 1 1099511627776 hs3 hB _ (fun a4 hs4 => ?_)
      refine rnum_spec p a4 B _ st 0 16383 hs4 hB _ (fun a5 hs5 => ?_)
      refine ⟨(a5, { cmd0 vP vS vK with N := s.numR 1 1099511627776, T := (s.num 1 1099511627776).2.numR 0 16383 }, _, nil), ⟨rfl, hs5, ?_, nl, .inl rfl⟩, ⟨LV.le_refl _, LV.le_refl _, LV.le_refl _, trivial⟩, ⟨rfl, rfl, trivial⟩⟩
      rw [e1, et]
      refine cmdOut_congr (fun he => ?_)
      have h2 := num_e he
      rw [numR_ok he, numR_ok h2]
    have et : s.tail (cmd0 vP vS vK) = (cmd0 vP vS vK, s) := by
      unfold Rd.tail; exact (if_neg k1).trans ((if_neg k2).trans ((if_neg k3).trans ((if_neg k4).trans ((if_neg k5).trans ((if_neg k6).trans (if_neg k7))))))
    refine ⟨(a3, cmd0 vP vS vK, s, nil), ⟨rfl, hs3, ?_, nl, .inl rfl⟩, ⟨LV.le_refl _, LV.le_refl _, LV.le_refl _, trivial⟩, ⟨rfl, rfl, trivial⟩⟩
    rw [e1, et]
  rintro ⟨a, c, s, v⟩ st' ⟨rfl, hst, hc, hle, hsh⟩
  dsimp only at hst hc hle hsh ⊢
  rw [hc] at h
  unfold cmdOut at h
  refine AWp.of_vc infoOK ?_
  first | refine optK_intro _ (rfO_get p B a s st) ?_ | refine optR (optK_intro _ (rfO_get p B a s st) ?_) | refine optR (optR (optK_intro _ (rfO_get p B a s st) ?_))
  refine bcne (fun he => ?_) (fun he => ?_)
  · rw [if_neg he] at h
    refine ADraw.of_sched infoOK (by rfl) (by rfl) sch112_29 (by rfl) ?_
    first | refine optK_intro _ (rfO_get p B a s st) ?_ | refine optR (optK_intro _ (rfO_get p B a s st) ?_) | refine optR (optR (optK_intro _ (rfO_get p B a s st) ?_))
    refine ⟨⟨⟨optR (optR (optR (optK_intro _ (rfO_get p B a s st) rfl))), trivial⟩, ?_⟩, trivial⟩
    refine ⟨⟨⟨optR (optR (optR (optK_intro _ (rfO_get p B a s st) rfl))), trivial⟩, ?_⟩, trivial⟩
    refine ⟨⟨trivial, ?_⟩, trivial⟩
    exact retR h hdrop (AV.le_tupL ⟨AV.le_aggL ⟨AV.le_refl _, AV.le_refl _, AV.le_refl _, AV.le_refl _, AV.le_nil 1, AV.le_refl _, AV.le_refl _, AV.le_refl _, AV.le_refl _, AV.le_refl _, trivial⟩, AV.le_refl _, AV.le_refl _, trivial⟩)
  · rw [if_pos he] at h
    simp only at h
    rw [hst.at he] at h
    rcases hsh with rfl | ⟨l, rfl⟩
    all_goals
      refine ADraw.of_sched infoOK (by rfl) (by rfl) sch112_30 (by rfl) ?_
      first | refine optK_intro _ (rfO_get p B a s st) ?_ | refine optR (optK_intro _ (rfO_get p B a s st) ?_) | refine optR (optR (optK_intro _ (rfO_get p B a s st) ?_))
      refine ⟨⟨⟨optR (optR (optR (optK_intro _ (rfO_get p B a s st) rfl))), trivial⟩, ?_⟩, trivial⟩
      refine ⟨⟨trivial, ?_⟩, trivial⟩
      refine ⟨⟨trivial, ?_⟩, trivial⟩
      exact retR h hdrop (AV.le_tupL ⟨AV.le_aggL ⟨AV.le_refl _, AV.le_refl _, AV.le_refl _, AV.le_refl _, hle, AV.le_refl _, AV.le_refl _, AV.le_refl _, AV.le_refl _, AV.le_refl _, trivial⟩, AV.le_refl _, AV.le_refl _, trivial⟩)
end Go.Proofs
namespace Go.Proofs
open Go Go.V
set_option linter.unusedVariables false

theorem refGround_spec (p a : Nat) (B : List UInt8) (s : Rd) (st : Store) (hs : Stands B a s) (hB : B.length ≤ 1048576) (R : AV → Store → Prop)
    (h : ∀ a' g, Stands B a' (gndR s).2 → ((gndR s).2.e = 0 → g = (gndR s).1) → R (.agg (gndC g)) (rfO p B a' (gndR s).2 st)) : ACalls Try.prog 66 [ptr p] (rfO p B a s st) R := by
  refine ACalls.of_body (c := cfg 56) infoOK Try.func66 (by rfl) (by rfl) (by rfl) (by rfl) ?_
  have le0 : AV.le (.agg [int 0, int 0, nil]) (.agg (gndC ⟨0, 0, []⟩)) := AV.le_aggL ⟨AV.le_refl _, AV.le_refl _, AV.le_nil 1, trivial⟩
  have fin : ∀ a' s', (gndR s).2 = s' → Stands B a' s' → ∀ e', s'.e = e' → ∀ g, (s'.e = 0 → g = (gndR s).1) → R (.agg (gndC g)) (st.setObj p (.cells [byts B, int a', int e'])) := by
    intro a' s' h2 h3 e' h4 g h5
    have := h a' g (by rw [h2]; exact h3) (by rw [h2]; exact h5)
    unfold rfO at this
    rw [h2, h4] at this
    exact this
  first | refine optK_intro _ (rfO_get p B a s st) ?_ | refine optR (optK_intro _ (rfO_get p B a s st) ?_) | refine optR (optR (optK_intro _ (rfO_get p B a s st) ?_))
  refine bcne (fun h1 => ?_) (fun h1 => ?_)
  · exact retR (fin a s (gndR_stick h1) hs _ rfl ⟨0, 0, []⟩ (fun h => absurd h h1)) (Store.Has.refl _) le0
  refine ADraw.of_sched infoOK (by rfl) (by rfl) sch66_3 (by rfl) ?_
  first | refine optK_intro _ (rfO_get p B a s st) ?_ | refine optR (optK_intro _ (rfO_get p B a s st) ?_) | refine optR (optR (optK_intro _ (rfO_get p B a s st) ?_))
  first | refine optK_intro _ (rfO_get p B a s st) ?_ | refine optR (optK_intro _ (rfO_get p B a s st) ?_) | refine optR (optR (optK_intro _ (rfO_get p B a s st) ?_))
  refine ⟨a, B.length, rfl, rws_len B ▸ rfl, hs.1, by rw [rws_len]; exact Nat.le_refl _, ?_⟩
  have e1 : ((rowsB B).take B.length).drop a = rowsB (B.drop a) := by rw [rws_take, List.take_length, rws_drop]
  rw [e1]
  refine ⟨refRaw_spec (B.drop a) (by rw [List.length_drop]; omega) _ _ (fun v hv => ⟨trivial, ?_⟩), trivial⟩
  refine ⟨⟨trivial, ?_⟩, trivial⟩
  refine ⟨⟨trivial, ?_⟩, trivial⟩
  refine ⟨⟨trivial, ?_⟩, trivial⟩
  have hrl : (getRaw (B.drop a)).1.length ≤ 1048576 := Nat.le_trans (getRaw_len _) (by rw [List.length_drop]; omega)
  have hsp := raw_step hs h1
  generalize getRaw (B.drop a) = g at hv hrl hsp ⊢
  obtain ⟨m, k, e⟩ := g
  dsimp only at hv hrl hsp ⊢
  rcases hsp with ⟨rfl, hm, hz, hst⟩ | ⟨he, hz⟩
  rotate_left
  · refine bcne (fun _ => ?_) (fun h => absurd h he)
    first | refine optK_intro _ (rfO_get p B a s st) ?_ | refine optR (optK_intro _ (rfO_get p B a s st) ?_) | refine optR (optR (optK_intro _ (rfO_get p B a s st) ?_))
    refine ⟨by simp, ?_⟩
    refine retR ?_ (Store.Has.refl _) le0
    show R _ ((rfO p B a s st).setObj p (.cells [byts B, int a, int e]))
    rw [rfO_put]
    have e2 : gndR s = (⟨0, 0, []⟩, s.raw.2) := by unfold gndR; rw [if_neg (by rw [hz]; exact he)]
    exact fin a s.raw.2 (by rw [e2]) (hs.bad (by rw [hz]; exact he)) e hz ⟨0, 0, []⟩ (fun h => by rw [hz] at h; exact absurd h he)
  refine refMap_spec m hrl hv _ _ ?_
  have e2 : gndR s = ((mapParse m).1, s.raw.2.must (decide ((mapParse m).2 = 0))) := by unfold gndR; rw [if_pos hz, hm]
  generalize mapParse m = mp at e2 ⊢
  obtain ⟨g, f⟩ := mp
  dsimp only at e2 ⊢
  refine bcne (fun h3 => ?_) (fun h3 => ?_)
  · first | refine optK_intro _ (rfO_get p B a s st) ?_ | refine optR (optK_intro _ (rfO_get p B a s st) ?_) | refine optR (optR (optK_intro _ (rfO_get p B a s st) ?_))
    refine ⟨by simp, ?_⟩
    refine retR ?_ (Store.Has.refl _) le0
    show R _ ((rfO p B a s st).setObj p (.cells [byts B, int a, int 1]))
    rw [rfO_put]
    have e3 : (gndR s).2 = ⟨s.raw.2.b, 1⟩ := by
      rw [e2, show decide (f = 0) = false by simp [h3]]
      unfold Rd.must Rd.fail
      simp [hz]
    exact fin a _ e3 (hs.bad (by simp)) 1 rfl ⟨0, 0, []⟩ (fun h => by simp at h)
  · have e3 : (gndR s).2 = s.raw.2 := by
      rw [e2, show decide (f = 0) = true by simp [h3]]; rfl
    first | refine optK_intro _ (rfO_get p B a s st) ?_ | refine optR (optK_intro _ (rfO_get p B a s st) ?_) | refine optR (optR (optK_intro _ (rfO_get p B a s st) ?_))
    have hl := hst.1
    refine ⟨⟨by omega, by omega⟩, ?_⟩
    first | refine optK_intro _ (rfO_get p B a s st) ?_ | refine optR (optK_intro _ (rfO_get p B a s st) ?_) | refine optR (optR (optK_intro _ (rfO_get p B a s st) ?_))
    refine ⟨by simp, ?_⟩
    refine retR ?_ (Store.Has.refl _) (AV.le_refl (.agg (gndC g)))
    show R _ ((rfO p B a s st).setObj p (.cells [byts B, int ((a : Int) + (k : Int)), int s.e]))
    rw [rfO_put, h1]
    exact fin (a + k) s.raw.2 e3 hst 0 hz g (fun _ => by rw [e2])
end Go.Proofs
namespace Go.Proofs
open Go Go.V
set_option linter.unusedVariables false

set_option maxHeartbeats 4000000 in
theorem refFrame_spec (p a0 : Nat) (B : List UInt8) (s0 : Rd) (st : Store) (hs0 : Stands B a0 s0) (he0 : s0.e = 0) (hB : B.length ≤ 1048576) (r : Rep) (hr : r.F.length ≤ 4096) (sum : Int) (hsum : sum = fnvSum fnvStart (B.take a0))
    {w : AV} (hw : AV.le w (.agg (repC r))) (R : AV → Store → Prop)
    (h : ∀ a' f, Stands B a' (frRd r.P sum (s0.must (decide (r.F.length < 4096)))) → ((frRd r.P sum (s0.must (decide (r.F.length < 4096)))).e = 0 → f = frFrm r.P s0 r.F.length) →
      R (.agg (frmC f)) (rfO p B a' (frRd r.P sum (s0.must (decide (r.F.length < 4096)))) st)) : ACalls Try.prog 67 [ptr p, w] (rfO p B a0 s0 st) R := by
  refine ACalls.le (ys := [ptr p, .agg (repC r)]) ⟨AV.le_refl _, hw, trivial⟩ ?_
  refine ACalls.of_awp (c := cfg 148) infoOK Try.func67 (by rfl) (by rfl) (by rfl) (by rfl) ?_
  refine AWp.seq (AWp.of_vc infoOK ?_)
  refine AWp.seq (AWp.of_vc infoOK ?_)
  generalize hs1 : s0.must (decide (r.F.length < 4096)) = s at h
  have hst0 : Stands B a0 s := by
    rw [← hs1]
    by_cases h1 : r.F.length < 4096
    · rw [show decide (r.F.length < 4096) = true by simp [h1]]; exact hs0
    · rw [show decide (r.F.length < 4096) = false by simp; omega]
      refine hs0.bad ?_
      unfold Rd.must Rd.fail
      simp [he0]
  have hs2 : s.e = 0 → s = s0 := by
    intro he
    rw [← hs1] at he ⊢
    exact (must_e he).2.2
  refine AWp.meet (σ := Unit) ⟨fun _ => [(0, .av (ptr p)), (3, .bx 3 0), (4, .bx 4 0), (5, .bx 5 0)], fun _ => [(3, repC r), (4, [int 0, nil, u64 0]), (5, [int r.F.length, nil, u64 0])],
    fun _ st' => st' = rfO p B a0 s st⟩ infoOK ?_ ?_
  · refine bcd (fun h1 => ?_) (fun h1 => ?_)
    all_goals rw [rws_len] at h1
    · first | refine optK_intro _ (rfO_get p B a0 s0 st) ?_ | refine optR (optK_intro _ (rfO_get p B a0 s0 st) ?_) | refine optR (optR (optK_intro _ (rfO_get p B a0 s0 st) ?_))
      refine ⟨by simp, ?_⟩
      refine ⟨(), ?_, ⟨LV.le_refl _, LV.le_refl _, LV.le_refl _, LV.le_refl _, trivial⟩, ⟨rfl, rfl, by first | rfl | (rw [rws_len]; rfl), trivial⟩⟩
      show (rfO p B a0 s0 st).setObj p (.cells [byts B, int a0, int 1]) = _
      rw [rfO_put, ← hs1, show decide (r.F.length < 4096) = false by simp; omega]
      unfold rfO Rd.must Rd.fail
      simp [he0]
    · refine ⟨(), ?_, ⟨LV.le_refl _, LV.le_refl _, LV.le_refl _, LV.le_refl _, trivial⟩, ⟨rfl, rfl, by first | rfl | (rw [rws_len]; rfl), trivial⟩⟩
      rw [← hs1, show decide (r.F.length < 4096) = true by simp; omega]
      rfl
  rintro _ st' rfl
  refine AWp.seq (AWp.of_vc infoOK ?_)
  refine rnum_spec p a0 B s st 0 512 hst0 hB _ (fun a1 hst1 => ?_)
  have hnb := numR_bd s 0 512
  have hnv : (s.num 0 512).2.e = 0 → s.numR 0 512 = (s.num 0 512).1 := numR_ok
  have hgo0 : Rd.cmdsGo r.P (s.num 0 512).1.toNat (s.num 0 512).2 [] = frCmds r.P s := rfl
  generalize s.numR 0 512 = n at hnb hnv ⊢
  generalize s.num 0 512 = m at hst1 hnv hgo0 ⊢
  refine AWp.meet (σ := Nat × Rd × List Cmd × AV × Store) ⟨fun _ => [(0, .av (ptr p)), (4, .bx 4 0), (5, .bx 5 0)], fun x => [(4, [int 0, nil, u64 0]), (5, [int r.F.length, x.2.2.2.1, u64 0])],
    fun x st' => st' = rfO p B x.1 x.2.1 x.2.2.2.2 ∧ x.2.2.2.2.Has st ∧ Stands B x.1 x.2.1 ∧ (frCmds r.P s).2 = x.2.1 ∧ (x.2.1.e = 0 → x.2.2.1 = (frCmds r.P s).1) ∧ AV.le x.2.2.2.1 (lst 10 cmdC x.2.2.1) ∧ x.2.2.2.1.one = true⟩ infoOK ?_ ?_
  · refine AWp.loop (σ := Nat × Nat × Rd × List Cmd × AV × Nat × List Cmd) ⟨fun x => [(0, .av (ptr p)), (3, .bx 3 0), (4, .bx 4 0), (5, .bx 5 0), (6, .av (int n)), (7, .av (int (x.1 : Nat)))], fun x => [(3, repC r), (4, [int 0, nil, u64 0]), (5, [int r.F.length, x.2.2.2.2.1, u64 0])],
      fun x st' => Stands B x.2.1 x.2.2.1 ∧ Rd.cmdsGo r.P x.2.2.2.2.2.1 x.2.2.1 x.2.2.2.2.2.2 = frCmds r.P s ∧ (x.2.2.1.e = 0 → x.2.2.2.2.2.2 = x.2.2.2.1 ∧ n = (x.2.2.2.2.2.1 : Int) + x.1) ∧ (x.1 : Int) ≤ n ∧ x.2.2.2.1.length = x.1 ∧
        App 10 (rfO p B x.2.1 x.2.2.1 st) x.2.2.2.2.1 (rws cmdC x.2.2.2.1) st' ∧ (x.2.2.2.1 = [] → x.2.2.2.2.1 = nil), fun x => n.toNat - x.1⟩ infoOK ?_ ?_
    · refine ⟨(0, a1, m.2, [], nil, m.1.toNat, []), trivial, ⟨hst1, hgo0, fun he => ⟨rfl, ?_⟩, by simp only; omega, rfl, App.start 10 _, fun _ => rfl⟩, ⟨LV.le_refl _, LV.le_refl _, LV.le_refl _, LV.le_refl _, LV.le_refl _, LV.le_refl _, trivial⟩, ⟨rfl, rfl, rfl, trivial⟩⟩
      have := hnv he
      simp only
      omega
    rintro ⟨i, a, t, l, v, k, g⟩ st' ⟨hst, hgo, heq, hin, hll, ha, hnil⟩
    dsimp only at hst hgo heq hin hll ha hnil ⊢
    have hone := ha.one
    have hle := ha.le
    obtain ⟨st1, rfl, hs3, hA⟩ := ha.split
    change ∀ y, App 10 (st.setObj p y) v (rws cmdC l) (st1.setObj p y) at hA
    show vc _ _ _ _ _ (rfO p B a t st1)
    have fin : ¬ ((i : Int) < n ∧ t.e = 0) → (frCmds r.P s).2 = t ∧ (t.e = 0 → l = (frCmds r.P s).1) := by
      intro hc
      have hI2 : frCmds r.P s = (g, t) := by
        rw [← hgo]
        by_cases he : t.e = 0
        · have := (heq he).2
          have : k = 0 := by omega
          subst this; rfl
        · exact cmdsGo_bad he
      rw [hI2]
      exact ⟨rfl, fun he => ((heq he).1).symm⟩
    refine bcd (fun h1 => ?_) (fun h1 => ?_)
    rotate_left
    · obtain ⟨f1, f2⟩ := fin (fun hc => h1 hc.1)
      exact ⟨(a, t, l, v, st1), ⟨rfl, hs3, hst, f1, f2, hle, hone⟩, ⟨LV.le_refl _, LV.le_refl _, LV.le_refl _, trivial⟩, ⟨rfl, rfl, trivial⟩⟩
    first | refine optK_intro _ (rfO_get p B a t st1) ?_ | refine optR (optK_intro _ (rfO_get p B a t st1) ?_) | refine optR (optR (optK_intro _ (rfO_get p B a t st1) ?_))
    refine bceq (fun h2 => ?_) (fun h2 => ?_)
    rotate_left
    · obtain ⟨f1, f2⟩ := fin (fun hc => h2 hc.2)
      exact ⟨(a, t, l, v, st1), ⟨rfl, hs3, hst, f1, f2, hle, hone⟩, ⟨LV.le_refl _, LV.le_refl _, LV.le_refl _, trivial⟩, ⟨rfl, rfl, trivial⟩⟩
    clear fin
    obtain ⟨hg, hk⟩ := heq h2
    have hg2 := hg.symm
    subst hg2
    obtain ⟨k', rfl⟩ : ∃ k', k = k' + 1 := ⟨k - 1, by omega⟩
    rw [cmdsGo_ok h2] at hgo
    have hal := hst.1
    have hcs := cmdRef_step hst h2
    have hdl : (B.drop a).length ≤ 1048576 := by rw [List.length_drop]; omega
    have e1 : ((rowsB B).take B.length).drop a = rowsB (B.drop a) := by rw [rws_take, List.take_length, rws_drop]
    refine ADraw.of_sched infoOK (by rfl) (by rfl) sch67_8 (by rfl) ?_
    first | refine optK_intro _ (rfO_get p B a t st1) ?_ | refine optR (optK_intro _ (rfO_get p B a t st1) ?_) | refine optR (optR (optK_intro _ (rfO_get p B a t st1) ?_))
    first | refine optK_intro _ (rfO_get p B a t st1) ?_ | refine optR (optK_intro _ (rfO_get p B a t st1) ?_) | refine optR (optR (optK_intro _ (rfO_get p B a t st1) ?_))
    refine ⟨a, B.length, rfl, rws_len B ▸ rfl, hst.1, by rw [rws_len]; exact Nat.le_refl _, ?_⟩
    rw [e1]
    refine ⟨refCmd_spec (B.drop a) hdl (AV.le_refl _) _ _ ⟨trivial, ?_⟩, ?_⟩
    rotate_left
    refine ⟨⟨?_, ?_⟩, trivial⟩
    · repeat (first | exact trivial | refine ⟨rfl, ?_⟩ | refine ⟨optR (optR (optR (optK_intro _ (rfO_get p B a t st1) rfl))), ?_⟩ | refine ⟨⟨a, B.length, rfl, rws_len B ▸ rfl, hst.1, by rw [rws_len]; exact Nat.le_refl _, by rw [e1]; rfl⟩, ?_⟩)
    refine ⟨refCmd_spec (B.drop a) hdl (AV.le_refl _) _ _ ⟨trivial, ?_⟩, trivial⟩
    rotate_left
    refine ⟨⟨?_, ?_⟩, trivial⟩
    · repeat (first | exact trivial | refine ⟨rfl, ?_⟩ | refine ⟨optR (optR (optR (optK_intro _ (rfO_get p B a t st1) rfl))), ?_⟩ | refine ⟨⟨a, B.length, rfl, rws_len B ▸ rfl, hst.1, by rw [rws_len]; exact Nat.le_refl _, by rw [e1]; rfl⟩, ?_⟩)
    all_goals
      refine ⟨⟨trivial, ?_⟩, trivial⟩
      refine ⟨⟨trivial, ?_⟩, trivial⟩
      refine ⟨⟨trivial, ?_⟩, trivial⟩
      generalize cmdRef (B.drop a) = cr at hcs ⊢
      rcases hcs with ⟨hz, rfl, hst2⟩ | ⟨hz, rfl⟩
      rotate_left
      · dsimp only
        refine ADraw.of_sched infoOK (by rfl) (by rfl) sch67_9 (by rfl) ?_
        refine bceq (fun h3 => absurd h3 hz) (fun _ => ?_)
        refine ⟨⟨trivial, ?_⟩, trivial⟩
        refine bcne (fun _ => ?_) (fun h3 => absurd h3 hz)
        first | refine optK_intro _ (rfO_get p B a t st1) ?_ | refine optR (optK_intro _ (rfO_get p B a t st1) ?_) | refine optR (optR (optK_intro _ (rfO_get p B a t st1) ?_))
        refine ⟨by simp, ?_⟩
        have f : (t.cmd.2.must (nextB r.P l t.cmd.1)) = t.cmd.2 := must_stick hz
        rw [f, cmdsGo_stick hz] at hgo
        refine ⟨(a, t.cmd.2, l, v, st1), ⟨?_, hs3, hst.bad hz, by rw [← hgo], fun h => absurd h hz, hle, hone⟩, ⟨LV.le_refl _, LV.le_refl _, LV.le_refl _, trivial⟩, ⟨rfl, rfl, trivial⟩⟩
        show (rfO p B a t st1).setObj p (.cells [byts B, int a, int t.cmd.2.e]) = _
        rw [rfO_put]
        rfl
      dsimp only
      by_cases hl : l = []
      · have hv := hnil hl
        subst hv
        have hi0 : i = 0 := by rw [← hll, hl]; rfl
        refine ADraw.of_sched infoOK (by rfl) (by rfl) sch67_9 (by rfl) ?_
        refine bcd (fun h3 => ?_) (fun h3 => ?_)
        · have hn : nextB r.P l t.cmd.1 = false := by rw [hl, nextB_nil]; simp; omega
          refine ⟨⟨trivial, ?_⟩, trivial⟩
          rw [hn] at hgo
          have f : (t.cmd.2.must false) = ⟨t.cmd.2.b, 1⟩ := by unfold Rd.must Rd.fail; simp [hz]
          rw [f, cmdsGo_stick (by simp)] at hgo
          first | refine optK_intro _ (rfO_get p B a t st1) ?_ | refine optR (optK_intro _ (rfO_get p B a t st1) ?_) | refine optR (optR (optK_intro _ (rfO_get p B a t st1) ?_))
          refine ⟨by simp, ?_⟩
          refine ⟨(a, ⟨t.cmd.2.b, 1⟩, l, _, st1), ⟨?_, hs3, hst.bad (by simp), by rw [← hgo], fun h => by simp at h, hle, hone⟩, ⟨LV.le_refl _, LV.le_refl _, LV.le_refl _, trivial⟩, ⟨rfl, rfl, trivial⟩⟩
          show (rfO p B a t st1).setObj p (.cells [byts B, int a, int 1]) = _
          rw [rfO_put]
          rfl
        · have hn : nextB r.P l t.cmd.1 = true := by rw [hl, nextB_nil]; simp; omega
          refine bcd (fun h4 => by exfalso; omega) (fun _ => ?_)
          refine ⟨⟨trivial, ?_⟩, trivial⟩
          rw [hn] at hgo
          have f : t.cmd.2.must true = t.cmd.2 := rfl
          rw [f] at hgo
          first | refine optK_intro _ (rfO_get p B a t st1) ?_ | refine optR (optK_intro _ (rfO_get p B a t st1) ?_) | refine optR (optR (optK_intro _ (rfO_get p B a t st1) ?_))
          have hl2 := hst2.1
          refine ⟨⟨by omega, by omega⟩, ?_⟩
          first | refine optK_intro _ (rfO_get p B a t st1) ?_ | refine optR (optK_intro _ (rfO_get p B a t st1) ?_) | refine optR (optR (optK_intro _ (rfO_get p B a t st1) ?_))
          refine ⟨by simp, ?_⟩
          refine ⟨by decide, ?_⟩
          refine appendK_app (ie := ti84) (rows' := [cmdC t.cmd.1]) (ha.setObj (y := .cells [byts B, int ((a : Int) + (((B.drop a).length - t.cmd.2.b.length : Nat) : Int)), int t.e])) (by rfl) (by rfl) ⟨?_, ?_⟩ (fun v2 st2 ha2 => ?_)
          · simp [rws_len, ti84]; omega
          · simp [rws_len]; omega
          refine storeK_box ha2.cells ha2.one (by rfl) (by rfl) (by simp) ?_
          refine ⟨⟨by omega, by omega⟩, ?_⟩
          refine ⟨(i + 1, _, t.cmd.2, l ++ [t.cmd.1], v2, k', l ++ [t.cmd.1]), ?_, ⟨hst2, hgo, fun he => ⟨rfl, by simp only; omega⟩, by simp only; omega, by simp; omega, ?_, fun h => by simp at h⟩, ⟨LV.le_refl _, LV.le_refl _, LV.le_refl _, LV.le_refl _, LV.le_refl _, LV.le_refl _, trivial⟩, ⟨rfl, rfl, rfl, trivial⟩⟩
          · show n.toNat - (i + 1) < n.toNat - i
            omega
          · show App 10 (rfO p B _ t.cmd.2 st) v2 (rws cmdC (l ++ [t.cmd.1])) st2
            rw [← rws_app]
            unfold rfO
            rw [hz, ← h2]
            exact ha2
      · have hpos : 0 < l.length := List.length_pos_iff.2 hl
        have hlt : l.length - 1 < l.length := by omega
        obtain ⟨tb, rfl⟩ := ha.lst (by intro e; apply hl; have := congrArg List.length e; rw [rws_len] at this; exact List.eq_nil_of_length_eq_zero this)
        refine ADraw.of_sched infoOK (by rfl) (by rfl) sch67_9 (by rfl) ?_
        refine bcd (fun h3 => ?_) (fun h3 => ?_)
        · have hn : nextB r.P l t.cmd.1 = false := by rw [nextB_cons hlt]; simp; omega
          refine ⟨⟨trivial, ?_⟩, trivial⟩
          rw [hn] at hgo
          have f : (t.cmd.2.must false) = ⟨t.cmd.2.b, 1⟩ := by unfold Rd.must Rd.fail; simp [hz]
          rw [f, cmdsGo_stick (by simp)] at hgo
          first | refine optK_intro _ (rfO_get p B a t st1) ?_ | refine optR (optK_intro _ (rfO_get p B a t st1) ?_) | refine optR (optR (optK_intro _ (rfO_get p B a t st1) ?_))
          refine ⟨by simp, ?_⟩
          refine ⟨(a, ⟨t.cmd.2.b, 1⟩, l, _, st1), ⟨?_, hs3, hst.bad (by simp), by rw [← hgo], fun h => by simp at h, hle, hone⟩, ⟨LV.le_refl _, LV.le_refl _, LV.le_refl _, trivial⟩, ⟨rfl, rfl, trivial⟩⟩
          show (rfO p B a t st1).setObj p (.cells [byts B, int a, int 1]) = _
          rw [rfO_put]
          rfl
        · refine bcd (fun h4 => ?_) (fun h4 => by exfalso; omega)
          refine ⟨⟨by omega, by omega⟩, ?_⟩
          refine ⟨l.length - 1, by omega, optK_intro _ (rws_get hlt) ?_⟩
          refine ⟨after_spec l[l.length - 1] t.cmd.1 _ _ (fun x hx => ⟨trivial, ?_⟩), trivial⟩
          have hn : nextB r.P l t.cmd.1 = x := by
            rw [nextB_cons hlt, Bool.eq_iff_iff, hx]
            simp
            omega
          cases x with
          | true =>
            rw [hn] at hgo
            have f : t.cmd.2.must true = t.cmd.2 := rfl
            rw [f] at hgo
            first | refine optK_intro _ (rfO_get p B a t st1) ?_ | refine optR (optK_intro _ (rfO_get p B a t st1) ?_) | refine optR (optR (optK_intro _ (rfO_get p B a t st1) ?_))
            have hl2 := hst2.1
            refine ⟨⟨by omega, by omega⟩, ?_⟩
            first | refine optK_intro _ (rfO_get p B a t st1) ?_ | refine optR (optK_intro _ (rfO_get p B a t st1) ?_) | refine optR (optR (optK_intro _ (rfO_get p B a t st1) ?_))
            refine ⟨by simp, ?_⟩
            refine ⟨by decide, ?_⟩
            refine appendK_app (ie := ti84) (rows' := [cmdC t.cmd.1]) (ha.setObj (y := .cells [byts B, int ((a : Int) + (((B.drop a).length - t.cmd.2.b.length : Nat) : Int)), int t.e])) (by rfl) (by rfl) ⟨?_, ?_⟩ (fun v2 st2 ha2 => ?_)
            · simp [rws_len, ti84]; omega
            · simp [rws_len]; omega
            refine storeK_box ha2.cells ha2.one (by rfl) (by rfl) (by simp) ?_
            refine ⟨⟨by omega, by omega⟩, ?_⟩
            refine ⟨(i + 1, _, t.cmd.2, l ++ [t.cmd.1], v2, k', l ++ [t.cmd.1]), ?_, ⟨hst2, hgo, fun he => ⟨rfl, by simp only; omega⟩, by simp only; omega, by simp; omega, ?_, fun h => by simp at h⟩, ⟨LV.le_refl _, LV.le_refl _, LV.le_refl _, LV.le_refl _, LV.le_refl _, LV.le_refl _, trivial⟩, ⟨rfl, rfl, rfl, trivial⟩⟩
            · show n.toNat - (i + 1) < n.toNat - i
              omega
            · show App 10 (rfO p B _ t.cmd.2 st) v2 (rws cmdC (l ++ [t.cmd.1])) st2
              rw [← rws_app]
              unfold rfO
              rw [hz, ← h2]
              exact ha2
          | false =>
            rw [hn] at hgo
            have f : (t.cmd.2.must false) = ⟨t.cmd.2.b, 1⟩ := by unfold Rd.must Rd.fail; simp [hz]
            rw [f, cmdsGo_stick (by simp)] at hgo
            first | refine optK_intro _ (rfO_get p B a t st1) ?_ | refine optR (optK_intro _ (rfO_get p B a t st1) ?_) | refine optR (optR (optK_intro _ (rfO_get p B a t st1) ?_))
            refine ⟨by simp, ?_⟩
            refine ⟨(a, ⟨t.cmd.2.b, 1⟩, l, _, st1), ⟨?_, hs3, hst.bad (by simp), by rw [← hgo], fun h => by simp at h, hle, hone⟩, ⟨LV.le_refl _, LV.le_refl _, LV.le_refl _, trivial⟩, ⟨rfl, rfl, trivial⟩⟩
            show (rfO p B a t st1).setObj p (.cells [byts B, int a, int 1]) = _
            rw [rfO_put]
            rfl
  rintro ⟨a, t, l, v, st1⟩ st' ⟨rfl, hs3, hst, hct, hcl, hle, hone⟩
  dsimp only at hs3 hst hct hcl hle hone ⊢
  refine AWp.meet (σ := Nat × Rd × Int) ⟨fun _ => [(0, .av (ptr p)), (4, .bx 4 0), (5, .bx 5 0)], fun x => [(4, [int 0, nil, u64 0]), (5, [int r.F.length, v, u64 x.2.2])],
    fun x st' => st' = rfO p B x.1 x.2.1 st1 ∧ Stands B x.1 x.2.1 ∧ (frHash r.P s).2 = x.2.1 ∧ (x.2.1.e = 0 → x.2.2 = leN (frHash r.P s).1)⟩ infoOK ?_ ?_
  · refine AWp.loop (σ := Nat × Nat × Rd × List UInt8 × Int × Nat) ⟨fun x => [(0, .av (ptr p)), (4, .bx 4 0), (5, .bx 5 0), (11, .av (int (x.1 : Nat)))], fun x => [(4, [int 0, nil, u64 0]), (5, [int r.F.length, v, u64 x.2.2.2.2.1])],
      fun x st' => Stands B x.2.1 x.2.2.1 ∧ Rd.bytesGo x.2.2.2.2.2 x.2.2.1 x.2.2.2.1 = frHash r.P s ∧ (x.2.2.1.e = 0 → x.2.2.2.2.2 = 8 - x.1 ∧ x.2.2.2.1.length = x.1 ∧ x.2.2.2.2.1 = leN x.2.2.2.1) ∧ x.1 ≤ 8 ∧ st' = rfO p B x.2.1 x.2.2.1 st1, fun x => 8 - x.1⟩ infoOK ?_ ?_
    · refine ⟨(0, a, t, [], 0, 8), trivial, ⟨hst, by unfold frHash; rw [hct], fun _ => ⟨rfl, rfl, rfl⟩, by simp, rfl⟩, ⟨LV.le_refl _, LV.le_refl _, LV.le_refl _, LV.le_refl _, trivial⟩, ⟨rfl, rfl, trivial⟩⟩
    rintro ⟨i, a, u, hs, hv, k⟩ st' ⟨hst, hgo, heq, hi, rfl⟩
    dsimp only at hst hgo heq hi ⊢
    have fin : ¬ ((i : Int) < 8 ∧ u.e = 0) → (frHash r.P s).2 = u ∧ (u.e = 0 → hv = leN (frHash r.P s).1) := by
      intro hc
      rw [← hgo]
      by_cases he : u.e = 0
      · obtain ⟨h1, h2, h3⟩ := heq he
        have : k = 0 := by omega
        subst this
        exact ⟨rfl, fun _ => h3⟩
      · exact ⟨bytesGo_stick _ he, fun h => absurd h he⟩
    refine bcd (fun h1 => ?_) (fun h1 => ?_)
    rotate_left
    · obtain ⟨f1, f2⟩ := fin (fun hc => h1 hc.1)
      exact ⟨(a, u, hv), ⟨rfl, hst, f1, f2⟩, ⟨LV.le_refl _, LV.le_refl _, LV.le_refl _, trivial⟩, ⟨rfl, rfl, trivial⟩⟩
    first | refine optK_intro _ (rfO_get p B a u st1) ?_ | refine optR (optK_intro _ (rfO_get p B a u st1) ?_) | refine optR (optR (optK_intro _ (rfO_get p B a u st1) ?_))
    refine bceq (fun h2 => ?_) (fun h2 => ?_)
    rotate_left
    · obtain ⟨f1, f2⟩ := fin (fun hc => h2 hc.2)
      exact ⟨(a, u, hv), ⟨rfl, hst, f1, f2⟩, ⟨LV.le_refl _, LV.le_refl _, LV.le_refl _, trivial⟩, ⟨rfl, rfl, trivial⟩⟩
    clear fin
    obtain ⟨hk, hhl, rfl⟩ := heq h2
    obtain ⟨k', rfl⟩ : ∃ k', k = k' + 1 := ⟨k - 1, by omega⟩
    have hgo : Rd.bytesGo k' u.byte.2 (hs ++ [u.byte.1]) = frHash r.P s := hgo
    refine ADraw.of_sched infoOK (by rfl) (by rfl) sch67_18 (by rfl) ?_
    first | refine optK_intro _ (rfO_get p B a u st1) ?_ | refine optR (optK_intro _ (rfO_get p B a u st1) ?_) | refine optR (optR (optK_intro _ (rfO_get p B a u st1) ?_))
    first | refine optK_intro _ (rfO_get p B a u st1) ?_ | refine optR (optK_intro _ (rfO_get p B a u st1) ?_) | refine optR (optR (optK_intro _ (rfO_get p B a u st1) ?_))
    refine bcd (fun h3 => ?_) (fun h3 => ?_)
    all_goals rw [rws_len] at h3
    · first | refine optK_intro _ (rfO_get p B a u st1) ?_ | refine optR (optK_intro _ (rfO_get p B a u st1) ?_) | refine optR (optR (optK_intro _ (rfO_get p B a u st1) ?_))
      refine ⟨by simp, ?_⟩
      rw [byte_end hst h2 (by omega)] at hgo
      refine ⟨(a, ⟨[], 11⟩, _), ⟨?_, hst.bad (by simp), ?_, fun h => by simp at h⟩, ⟨LV.le_refl _, LV.le_refl _, LV.le_refl _, trivial⟩, ⟨rfl, rfl, trivial⟩⟩
      · show (rfO p B a u st1).setObj p (.cells [byts B, int a, int 11]) = _
        rw [rfO_put]
        rfl
      · rw [← hgo]
        exact bytesGo_stick _ (by simp)
    · have hlt : a < B.length := by omega
      have hby := byte_at hst h2 hlt
      rw [hby] at hgo
      simp only at hgo
      have hor := or8 (l := hs) (c := B[a]) (by omega)
      rw [hhl] at hor
      refine ADraw.of_sched infoOK (by rfl) (by rfl) sch67_20 (by rfl) ?_
      first | refine optK_intro _ (rfO_get p B a u st1) ?_ | refine optR (optK_intro _ (rfO_get p B a u st1) ?_) | refine optR (optR (optK_intro _ (rfO_get p B a u st1) ?_))
      first | refine optK_intro _ (rfO_get p B a u st1) ?_ | refine optR (optK_intro _ (rfO_get p B a u st1) ?_) | refine optR (optR (optK_intro _ (rfO_get p B a u st1) ?_))
      refine ⟨a, rfl, optK_intro _ (rws_get hlt) ?_⟩
      refine ⟨⟨by omega, by omega⟩, ?_⟩
      refine ⟨by omega, ?_⟩
      refine ⟨⟨trivial, ?_⟩, trivial⟩
      first | refine optK_intro _ (rfO_get p B a u st1) ?_ | refine optR (optK_intro _ (rfO_get p B a u st1) ?_) | refine optR (optR (optK_intro _ (rfO_get p B a u st1) ?_))
      refine ⟨⟨by omega, by omega⟩, ?_⟩
      first | refine optK_intro _ (rfO_get p B a u st1) ?_ | refine optR (optK_intro _ (rfO_get p B a u st1) ?_) | refine optR (optR (optK_intro _ (rfO_get p B a u st1) ?_))
      refine ⟨by simp, ?_⟩
      refine ⟨⟨by omega, by omega⟩, ?_⟩
      refine ⟨(i + 1, a + 1, ⟨B.drop (a + 1), 0⟩, hs ++ [B[a]], leN (hs ++ [B[a]]), k'), ?_, ⟨⟨by simp only; omega, fun _ => rfl⟩, hgo, fun _ => ⟨by simp only; omega, by simp; omega, rfl⟩, by simp only; omega, ?_⟩, ⟨LV.le_refl _, LV.le_refl _, LV.le_refl _, LV.le_refl _, trivial⟩, ⟨rfl, ?_, trivial⟩⟩
      · show 8 - (i + 1) < 8 - i
        omega
      · show (rfO p B a u st1).setObj p (.cells [byts B, int ((a : Int) + 1), int u.e]) = _
        rw [rfO_put, h2]
        rfl
      · simp only
        rw [← hor]
        rfl
  rintro ⟨a, u, hv⟩ st' ⟨rfl, hst2, hhu, hhv⟩
  dsimp only at hst2 hhu hhv ⊢
  refine AWp.of_vc infoOK ?_
  refine rsum_spec p a B u st1 hst2 hB _ (fun a2 hst3 => ?_)
  have hse : u.e = 0 → s.e = 0 := by
    intro h1
    rw [← hhu] at h1
    have h2 := frCmds_e h1
    unfold frCmds at h2
    exact num_e (cmdsGo_put _ _ _ _ h2).1
  have hfr : u.same (eightL (fnvSum fnvStart (B.take a))) = frRd r.P sum s := by
    unfold frRd
    rw [hhu]
    by_cases h1 : u.e = 0
    · rw [frSum_at hst0 (hse h1) hsum (by rw [hhu]; exact hst2) (by rw [hhu]; exact h1)]
    · rw [same_stick _ h1, same_stick _ h1]
  rw [hfr] at hst3 ⊢
  refine storeK_boxL (v := .agg [int r.F.length, v, u64 hv]) (xs := [int r.F.length, v, u64 hv]) (by rfl) (by simp only [List.all_cons, List.all_nil, hone]; rfl) (by rfl) (by rfl) (by simp) ?_
  refine retR (h a2 ⟨r.F.length, l, hv⟩ hst3 (fun he => ?_)) (has_setObj2 hs3) (AV.le_aggL ⟨AV.le_refl _, hle, AV.le_refl _, trivial⟩)
  have h1 := frRd_e he
  have h2 := frCmds_e h1
  have h3 : u.e = 0 := by rw [← hhu]; exact h1
  have h4 : t.e = 0 := by rw [← hct]; exact h2
  unfold frFrm
  rw [← hs2 (hse h3), hcl h4, hhv h3]
end Go.Proofs
namespace Go.Proofs
open Go Go.V
set_option linter.unusedVariables false

theorem take_more {B X : List UInt8} {a a' : Nat} (ha : a ≤ B.length) (ha' : a' ≤ B.length) (h : B.drop a = X ++ B.drop a') : B.take a' = B.take a ++ X := by
  have h1 : B = (B.take a ++ X) ++ B.drop a' := by rw [List.append_assoc, ← h, List.take_append_drop]
  have h2 := congrArg List.length h
  rw [List.length_append, List.length_drop, List.length_drop] at h2
  have h3 : (B.take a ++ X).length = a' := by rw [List.length_append, List.length_take]; omega
  have h4 : ((B.take a ++ X) ++ B.drop a').take a' = B.take a ++ X := by rw [← h3, List.take_left]
  rw [← h1] at h4
  exact h4
theorem frNext_at {B : List UInt8} {a a' : Nat} {s : Rd} {pl sum : Int} (h : Stands B a s) (he : s.e = 0) (hs : sum = fnvSum fnvStart (B.take a)) (h' : Stands B a' (frRd pl sum s)) (he' : (frRd pl sum s).e = 0) :
    frNext pl sum s = fnvSum fnvStart (B.take a') := by
  obtain ⟨_, h2, h3, _⟩ := frame_put (turn := 0) he'
  rw [h.2 he, h'.2 he'] at h3
  rw [take_more h.1 h'.1 h3, fnvSum_app, ← hs, fnvSum_app, ← h2]
  rfl

set_option maxHeartbeats 2000000 in
theorem refReplay_spec (b : List UInt8) (hb : b.length ≤ 100000000000000) (st : Store) (R : AV → Store → Prop) (h : R (.tup [.agg (repC (repParse b).1), int (repParse b).2]) st) : ACalls Try.prog 22 [byts b] st R := by
  refine ACalls.of_awp (c := cfg 61 [13] []) infoOK Try.func22 (by rfl) (by rfl) (by rfl) (by rfl) ?_
  have rep0le : AV.le (.agg [int 0, int 0, int 0, nil, nil]) (.agg (repC rep0)) := AV.le_aggL ⟨AV.le_refl _, AV.le_refl _, AV.le_refl _, AV.le_nil 1, AV.le_nil 3, trivial⟩
  unfold repParse at h
  refine AWp.seq (AWp.of_vc infoOK ?_)
  refine AWp.seq (AWp.of_vc infoOK ?_)
  refine bcd (fun h1 => ?_) (fun h1 => ?_)
  · rw [rws_len] at h1
    rw [if_pos (by omega)] at h
    exact retR h (Store.Has.refl _) (AV.le_tupL ⟨rep0le, AV.le_refl _, trivial⟩)
  rw [rws_len] at h1
  rw [if_neg (by omega)] at h
  have hB : b.length ≤ 1048576 := by omega
  refine AWp.seq (AWp.of_vc infoOK ?_)
  intro p hp
  change AWp _ _ _ _ _ (rfO p b 0 ⟨b, 0⟩ st)
  have hdrop : ∀ {a : Nat} {s : Rd} {st1 : Store}, st1.Has st → (rfO p b a s st1).Has st := fun hs => (has_setObj2 hs).trans (has_setObj hp.1)
  refine AWp.seq (AWp.of_vc infoOK ?_)
  refine rsign_spec p 0 b _ st 84 (Stands.start b) hB _ (fun a1 hs1 => ?_)
  refine AWp.seq (AWp.of_vc infoOK ?_)
  refine rsign_spec p a1 b _ st 82 hs1 hB _ (fun a2 hs2 => ?_)
  change Stands b a2 (Rd.same ⟨b, 0⟩ [84, 82]) at hs2
  change AWp _ _ _ _ _ (rfO p b a2 (Rd.same ⟨b, 0⟩ [84, 82]) st)
  refine AWp.seq (AWp.of_vc infoOK ?_)
  refine rnum_spec p a2 b _ st 1 8 hs2 hB _ (fun a3 hs3 => ?_)
  change Stands b a3 (rpHead b).2 at hs3
  have hvP : (rpHead b).2.e = 0 → (Rd.same ⟨b, 0⟩ [84, 82]).numR 1 8 = (rpHead b).1 := numR_ok
  change AWp _ _ _ _ _ (rfO p b a3 (rpHead b).2 st)
  generalize (Rd.same ⟨b, 0⟩ [84, 82]).numR 1 8 = vP at hvP ⊢
  refine AWp.seq (AWp.of_vc infoOK ?_)
  refine refGround_spec p a3 b (rpHead b).2 st hs3 hB _ (fun a4 g hs4 hg => ?_)
  rw [← rpGnd_R] at hs4 hg ⊢
  have hvP2 : (rpGnd b).2.e = 0 → vP = (rpHead b).1 := by
    intro he
    refine hvP ?_
    by_cases h2 : (rpHead b).2.e = 0
    · exact h2
    · rw [rpGnd_R, gndR_stick h2] at he; exact absurd he h2
  clear hvP
  refine AWp.seq (AWp.of_vc infoOK ?_)
  first | refine optK_intro _ (rfO_get p b a4 _ st) ?_ | refine optR (optK_intro _ (rfO_get p b a4 _ st) ?_) | refine optR (optR (optK_intro _ (rfO_get p b a4 _ st) ?_))
  refine bcne (fun h3 => ?_) (fun h3 => ?_)
  · rw [if_pos h3] at h
    refine ADraw.of_sched infoOK (by rfl) (by rfl) sch22_9 (by rfl) ?_
    first | refine optK_intro _ (rfO_get p b a4 _ st) ?_ | refine optR (optK_intro _ (rfO_get p b a4 _ st) ?_) | refine optR (optR (optK_intro _ (rfO_get p b a4 _ st) ?_))
    refine ⟨⟨⟨optR (optR (optR (optK_intro _ (rfO_get p b a4 _ st) rfl))), trivial⟩, ?_⟩, trivial⟩
    refine ⟨⟨trivial, ?_⟩, trivial⟩
    exact retR h (hdrop (Store.Has.refl _)) (AV.le_tupL ⟨rep0le, AV.le_refl _, trivial⟩)
  rw [if_neg (by simpa using h3)] at h
  have hpl := hvP2 h3
  have hg := hg h3
  subst hpl
  have hF : rpFrames b = framesGo (rpHead b).1 4097 (rpGnd b).2 (fnvSum fnvStart (b.take a4)) [] := by
    unfold rpFrames
    rw [hs4.at h3]
  rw [← hg] at h
  generalize (rpGnd b).2 = gs at hs4 h3 hF
  generalize (rpHead b).1 = pl at h hF ⊢
  generalize rpFrames b = F at h hF
  refine AWp.of_vc infoOK ?_
  refine AWp.loop (σ := Nat × Nat × Rd × Int × List Frm × AV) ⟨fun x => [(0, .av (byts b)), (2, .bx 2 0), (4, .av (ptr p)), (5, .bx 5 0)], fun x => [(2, [int 0, int 0, int 0, nil, nil]), (5, [int pl, int g.W, int g.H, byts g.T, x.2.2.2.2.2])],
    fun x st' => (x.2.2.2.2.1.length + x.1 = 4097 ∧ x.2.2.1.e = 0 ∧ x.2.2.2.2.1.length ≤ 4096) ∧ framesGo pl x.1 x.2.2.1 x.2.2.2.1 x.2.2.2.2.1 = F ∧ App 3 (rfO p b x.2.1 x.2.2.1 st) x.2.2.2.2.2 (rws frmC x.2.2.2.2.1) st' ∧ Stands b x.2.1 x.2.2.1 ∧ x.2.2.2.1 = fnvSum fnvStart (b.take x.2.1) ∧ (x.2.2.2.2.1 = [] → x.2.2.2.2.2 = nil), fun x => x.1⟩ infoOK ?_ ?_
  · exact ⟨(4097, a4, gs, _, [], nil), trivial, ⟨⟨rfl, h3, by simp⟩, hF.symm, App.start 3 _, hs4, rfl, fun _ => rfl⟩, ⟨LV.le_refl _, LV.le_refl _, LV.le_refl _, LV.le_refl _, trivial⟩, ⟨rfl, rfl, trivial⟩⟩
  rintro ⟨n, a, s, sum, l, v⟩ st' ⟨⟨hn, he, hl⟩, hgo, ha, hst, hsum, hnil⟩
  dsimp only at hn he hl hgo ha hst hsum hnil ⊢
  have hle := ha.le
  have hone := ha.one
  obtain ⟨st1, rfl, hs5, hA⟩ := ha.split
  change ∀ y, App 3 (st.setObj p y) v (rws frmC l) (st1.setObj p y) at hA
  have hsl : s.b.length = b.length - a := by rw [hst.2 he, List.length_drop]
  have hal := hst.1
  obtain ⟨m, rfl⟩ : ∃ m, n = m + 1 := ⟨n - 1, by omega⟩
  have hm1 : s.must (decide (l.length < 4096)) = if l.length < 4096 then s else ⟨s.b, 1⟩ := by
    unfold Rd.must Rd.fail
    rw [if_pos he]
    by_cases h5 : l.length < 4096 <;> simp [h5]
  have hrl2 : ∀ l : List Frm, rws frmC l ≠ [] ↔ l ≠ [] := fun l => by simp [rws]
  have hsh : v = nil ∨ ∃ tb rows, v = .lst 3 rows (some tb) := by
    by_cases hl0 : l = []
    · exact .inl (hnil hl0)
    · obtain ⟨tb, h⟩ := ha.lst ((hrl2 l).2 hl0)
      exact .inr ⟨tb, _, h⟩
  show vc _ _ _ _ _ (rfO p b a s st1)
  first | refine optK_intro _ (rfO_get p b a s st1) ?_ | refine optR (optK_intro _ (rfO_get p b a s st1) ?_) | refine optR (optR (optK_intro _ (rfO_get p b a s st1) ?_))
  refine bcd (fun h4 => ?_) (fun h4 => ?_)
  all_goals rw [rws_len] at h4
  rotate_left
  · rw [framesGo_nil (by omega)] at hgo
    rw [← hgo] at h
    simp only at h
    rw [he] at h
    refine storeK_boxL (v := .agg [int pl, int g.W, int g.H, byts g.T, v]) (xs := [int pl, int g.W, int g.H, byts g.T, v]) (by rfl) (by simp only [List.all_cons, List.all_nil, hone]; rfl) (by rfl) (by rfl) (by simp) ?_
    exact retR h (hdrop hs5) (AV.le_tupL ⟨AV.le_aggL ⟨AV.le_refl _, AV.le_refl _, AV.le_refl _, AV.le_refl _, hle, trivial⟩, AV.le_refl _, trivial⟩)
  refine refFrame_spec p a b s st1 hst he hB ⟨pl, g, l⟩ hl sum hsum (AV.le_aggL (xs := [int pl, int g.W, int g.H, byts g.T, v]) ⟨AV.le_refl _, AV.le_refl _, AV.le_refl _, AV.le_refl _, hle, trivial⟩) _ (fun a' f hst' hf => ?_)
  simp only at hst' hf ⊢
  by_cases h5 : l.length < 4096
  · rw [if_pos h5] at hm1
    rw [hm1] at hst' hf ⊢
    by_cases h6 : (frRd pl sum s).e = 0
    · have hnx := frNext_at hst he hsum hst' h6
      rw [framesGo_ok (by omega) hm1 he h6, ← hf h6, hnx] at hgo
      clear hf
      generalize frRd pl sum s = s2 at *
      first | refine optK_intro _ (rfO_get p b a' s2 st1) ?_ | refine optR (optK_intro _ (rfO_get p b a' s2 st1) ?_) | refine optR (optR (optK_intro _ (rfO_get p b a' s2 st1) ?_))
      refine bcne (fun h => absurd h6 h) (fun _ => ?_)
      refine ⟨by decide, ?_⟩
      refine appendK_app (ie := ti53) (rows' := [frmC f]) (hA (.cells [byts b, int a', int s2.e])) (by rfl) (by rfl) ⟨?_, ?_⟩ (fun v2 st2 ha2 => ?_)
      · simp [rws_len, ti53]; omega
      · simp [rws_len]; omega
      have ha3 : App 3 (rfO p b a' s2 st) v2 (rws frmC (l ++ [f])) st2 := by
        rw [← rws_app]
        exact ha2
      refine storeK_box ha3.cells ha3.one (by rfl) (by rfl) (by simp) ?_
      refine ⟨(m, a', s2, _, l ++ [f], v2), ?_, ⟨⟨by simp; omega, h6, by simp; omega⟩, hgo, ha3, hst', rfl, fun h => by simp at h⟩, ⟨LV.le_refl _, LV.le_refl _, LV.le_refl _, LV.le_refl _, trivial⟩, ⟨rfl, rfl, trivial⟩⟩
      show m < m + 1
      omega
    · rw [framesGo_bad (by omega) hm1 he h6] at hgo
      rw [← hgo] at h
      simp only at h
      clear hf
      generalize frRd pl sum s = s2 at *
      first | refine optK_intro _ (rfO_get p b a' s2 st1) ?_ | refine optR (optK_intro _ (rfO_get p b a' s2 st1) ?_) | refine optR (optR (optK_intro _ (rfO_get p b a' s2 st1) ?_))
      refine bcne (fun _ => ?_) (fun h => absurd h h6)
      rcases hsh with rfl | ⟨tb, rows, rfl⟩
      all_goals
        refine ADraw.of_sched infoOK (by rfl) (by rfl) sch22_13 (by rfl) ?_
        first | refine optK_intro _ (rfO_get p b a' s2 st1) ?_ | refine optR (optK_intro _ (rfO_get p b a' s2 st1) ?_) | refine optR (optR (optK_intro _ (rfO_get p b a' s2 st1) ?_))
        refine ⟨⟨⟨optR (optR (optR (optK_intro _ (rfO_get p b a' s2 st1) rfl))), trivial⟩, ?_⟩, trivial⟩
        refine ⟨⟨trivial, ?_⟩, trivial⟩
        exact retR h (hdrop hs5) (AV.le_tupL ⟨AV.le_aggL ⟨AV.le_refl _, AV.le_refl _, AV.le_refl _, AV.le_refl _, hle, trivial⟩, AV.le_refl _, trivial⟩)
  · rw [if_neg h5] at hm1
    rw [framesGo_many (by omega) (by rw [hm1]; simp), hm1] at hgo
    rw [← hgo] at h
    simp only at h
    rw [hm1, frRd_stick (by simp)] at hst' ⊢
    first | refine optK_intro _ (rfO_get p b a' ⟨s.b, 1⟩ st1) ?_ | refine optR (optK_intro _ (rfO_get p b a' ⟨s.b, 1⟩ st1) ?_) | refine optR (optR (optK_intro _ (rfO_get p b a' ⟨s.b, 1⟩ st1) ?_))
    rcases hsh with rfl | ⟨tb, rows, rfl⟩
    all_goals
      refine ADraw.of_sched infoOK (by rfl) (by rfl) sch22_13 (by rfl) ?_
      first | refine optK_intro _ (rfO_get p b a' ⟨s.b, 1⟩ st1) ?_ | refine optR (optK_intro _ (rfO_get p b a' ⟨s.b, 1⟩ st1) ?_) | refine optR (optR (optK_intro _ (rfO_get p b a' ⟨s.b, 1⟩ st1) ?_))
      refine ⟨⟨⟨optR (optR (optR (optK_intro _ (rfO_get p b a' ⟨s.b, 1⟩ st1) rfl))), trivial⟩, ?_⟩, trivial⟩
      refine ⟨⟨trivial, ?_⟩, trivial⟩
      exact retR h (hdrop hs5) (AV.le_tupL ⟨AV.le_aggL ⟨AV.le_refl _, AV.le_refl _, AV.le_refl _, AV.le_refl _, hle, trivial⟩, AV.le_refl _, trivial⟩)
end Go.Proofs
namespace Go.Proofs
open Go Go.V
set_option linter.unusedVariables false

set_option maxHeartbeats 1000000 in
theorem replayParses_law (l : List Ask29) (hl : l.length ≤ 140737488355328) (hs : ∀ a ∈ l, a.sized) (st : Store) (R : AV → Store → Prop) (h : R (bool true) st) : ACalls Try.prog 4 [lst 6 askC l] st R := by
  refine ACalls.of_body (c := cfg 65) infoOK Try.func4 (by rfl) (by rfl) (by rfl) (by rfl) ?_
  refine AWp.loop (σ := Nat) ⟨fun i => [(0, .av (lst 6 askC l)), (3, .av (int (i : Nat)))], fun _ => [], fun i st' => i ≤ l.length ∧ st' = st, fun i => l.length - i⟩ infoOK ?_ ?_
  · exact ⟨0, trivial, ⟨Nat.zero_le _, rfl⟩, ⟨LV.le_refl _, LV.le_refl _, trivial⟩, trivial⟩
  rintro i st' ⟨hi, rfl⟩
  refine bcase_intro (fun h1 => ?_) (fun h1 => ?_)
  rotate_left
  · exact wakes_spec _ _ (ret h)
  have hlt : i < l.length := lt_len h1
  refine bcd (fun h2 => ?_) (fun h2 => ?_)
  rotate_left
  · exact wakes_spec _ _ (ret h)
  refine ⟨i, rfl, optK_intro _ (rws_get hlt) ?_⟩
  refine heavy_spec l[i] (hs _ (List.getElem_mem hlt)) _ _ (fun b hb => ?_)
  cases b with
  | true => exact ret h
  | false =>
  obtain ⟨hL, hX⟩ := hb rfl
  refine ⟨i, rfl, optK_intro _ (rws_get hlt) ?_⟩
  refine copyBytes_spec l[i].X (by omega) _ _ ?_
  refine repParse_spec l[i].X (by omega) _ _ ?_
  refine ⟨i, rfl, optK_intro _ (rws_get hlt) ?_⟩
  refine refReplay_spec l[i].X (by omega) _ _ ?_
  have hfit : (repParse l[i].X).1.fits := by
    rcases repParse_put l[i].X with ⟨h3, _⟩ | ⟨h3, _⟩
    · rw [h3]; exact ⟨by unfold Gnd.fits; decide, by decide, fun f hf => by cases hf⟩
    · exact repP_fits h3
  generalize repParse l[i].X = re at hfit ⊢
  obtain ⟨r, e⟩ := re
  dsimp only at hfit ⊢
  refine num_law e _ _ ?_
  refine bcne (fun h3 => absurd rfl h3) (fun _ => ?_)
  refine eqReplay_spec r r hfit _ _ ?_
  rw [show decide (r = r) = true by simp]
  refine ⟨i, rfl, optK_intro _ (rws_get hlt) ?_⟩
  refine eqBytes_spec l[i].X l[i].X (by omega) _ _ ?_
  rw [show decide (l[i].X = l[i].X) = true by simp]
  refine ⟨⟨by omega, by omega⟩, ?_⟩
  refine ⟨i + 1, ?_, ⟨hlt, rfl⟩, ⟨LV.le_refl _, LV.le_refl _, trivial⟩, trivial⟩
  show l.length - (i + 1) < l.length - i
  omega
end Go.Proofs
