/- The ground on which laws of thronglaw26 are proved: contracts of functions and plain lemmas; no condition beyond the row's own. -/
import Derived.Test.YtimehecofabmjaaGreatPA
import Derived.Test.YtimehecofabmjaaGreatSH
import Derived.Test.YtimehecofabmjaaGreatFI6A
set_option linter.unusedSimpArgs false
set_option linter.unusedVariables false
namespace Go.Proofs
open Go Go.V
set_option linter.unusedVariables false

theorem tmod_nat (a b : Nat) : (a : Int).tmod (b : Int) = ((a % b : Nat) : Int) := rfl
set_option maxRecDepth 20000 in
theorem refNum_spec (b : List UInt8) (hb : b.length ≤ 140737488355328) (st : Store) (R : AV → Store → Prop) (h : R (.tup [int (getNum b).1, int (getNum b).2.1, int (getNum b).2.2]) st) : ACalls Tryz.prog 76 [byts b] st R := by
  refine ACalls.of_body (c := cfg 48) infoOK Tryz.func76 (by rfl) (by rfl) (by rfl) (by rfl) ?_
  refine AWp.loop (σ := Nat × Int) ⟨fun s => [(0, .av (byts b)), (5, .av (int s.2)), (6, .av (int (s.1 : Nat)))], fun _ => [],
    fun s st' => s.1 ≤ b.length ∧ s.1 ≤ 9 ∧ st' = st ∧ (s.1 ≤ 8 → getGo (b.drop s.1) s.1 s.2 = getNum b) ∧ (s.1 = 9 → getNum b = (0, 0, 1)) ∧ 0 ≤ s.2 ∧ s.2 < 128 ^ s.1, fun s => b.length - s.1⟩ infoOK ?_ ?_
  · exact ⟨(0, 0), trivial, ⟨Nat.zero_le _, by simp, rfl, fun _ => rfl, fun h => by simp at h, by decide, by decide⟩, ⟨LV.le_refl _, LV.le_refl _, LV.le_refl _, trivial⟩, trivial⟩
  · rintro ⟨i, n⟩ st' ⟨hi, h9, rfl, hg, hg9, h0, hn⟩
    dsimp only at hi h9 hg hg9 h0 hn ⊢
    have fin1 : i = 9 → R (.tup [int 0, int 0, int 1]) st' := fun e => by
      have := hg9 e
      rw [this] at h; exact h
    have fin2 : i = b.length → i ≤ 8 → R (.tup [int 0, int 0, int 11]) st' := fun e h8 => by
      have := hg h8
      rw [e, List.drop_length] at this
      rw [← this] at h; exact h
    refine bcd (fun h1 => ?_) (fun h1 => ?_)
    rotate_left
    · obtain rfl : i = b.length := by rw [rws_len] at h1; omega
      refine bcd (fun h2 => ?_) (fun h2 => ?_)
      · rw [rws_len] at h2; exact ret (fin1 (by omega))
      · rw [rws_len] at h2; exact ret (fin2 rfl (by omega))
    have hlt : i < b.length := by rw [rws_len] at h1; omega
    refine bcd (fun h2 => ?_) (fun h2 => ?_)
    rotate_left
    · refine bcd (fun h3 => ?_) (fun h3 => ?_)
      · exact ret (fin1 (by omega))
      · rw [rws_len] at h3; omega
    have h8 : i ≤ 8 := by omega
    refine ⟨i, rfl, optK_intro _ (rws_get hlt) ?_⟩
    have hg := hg h8
    rw [List.drop_eq_getElem_cons hlt] at hg
    unfold getGo at hg
    have hx : b[i].toNat % 128 < 128 := Nat.mod_lt _ (by omega)
    have hs := step_lt (x := b[i].toNat % 128) h0 hn hx
    have hp := pow128_le (i := i + 1) (by omega)
    have htm : (b[i].toNat : Int).tmod 128 = ((b[i].toNat % 128 : Nat) : Int) := tmod_nat _ 128
    have hor : bitsOf .or .i64 n (IntKind.i64.wrap ((b[i].toNat : Int).tmod 128 * 2 ^ (min ((7 : Int) * (i : Int)).toNat IntKind.i64.bits))) = n + (b[i].toNat % 128 : Nat) * 128 ^ i := by
      rw [htm]; exact or7 h0 hn hx h8
    refine ⟨by decide, ?_⟩
    refine ⟨?_, ?_⟩
    · rw [htm]; exact ⟨by omega, by omega⟩
    refine ⟨⟨by omega, by omega⟩, ?_⟩
    refine ⟨by omega, ?_⟩
    refine ⟨i, rfl, optK_intro _ (rws_get hlt) ?_⟩
    refine bcd (fun h3 => ?_) (fun h3 => ?_)
    · refine ⟨i, rfl, optK_intro _ (rws_get hlt) ?_⟩
      refine bceq (fun h4 => ?_) (fun h4 => ?_)
      · refine bcd (fun h5 => ?_) (fun h5 => ?_)
        · rw [if_pos (.inr ⟨by omega, by omega⟩)] at hg
          rw [← hg] at h
          exact ret h
        · rw [if_neg (by omega), if_pos (by omega)] at hg
          refine ⟨⟨by omega, by omega⟩, ?_⟩
          rw [← hg, ← hor] at h
          exact ret h
      · rw [if_neg (by omega), if_pos (by omega)] at hg
        refine ⟨⟨by omega, by omega⟩, ?_⟩
        rw [← hg, ← hor] at h
        exact ret h
    · refine ⟨⟨by omega, by omega⟩, ?_⟩
      refine ⟨(i + 1, n + (b[i].toNat % 128 : Nat) * 128 ^ i), ?_, ⟨hlt, by simp only; omega, rfl, fun h8' => ?_, fun e => ?_, hs.1, hs.2⟩, ⟨LV.le_refl _, by simp only; rw [← hor]; exact LV.le_refl _, LV.le_refl _, trivial⟩, trivial⟩
      · show b.length - (i + 1) < b.length - i
        omega
      · simp only at h8'
        rw [if_neg (by omega), if_neg (by omega)] at hg
        exact hg
      · simp only at e
        rw [if_pos (.inl ⟨by omega, by omega⟩)] at hg
        exact hg.symm

theorem refInt_spec (b : List UInt8) (hb : b.length ≤ 140737488355328) (st : Store) (R : AV → Store → Prop) (h : R (.tup [int (getInt b).1, int (getInt b).2.1, int (getInt b).2.2]) st) : ACalls Tryz.prog 77 [byts b] st R := by
  refine ACalls.of_body (c := cfg 28) infoOK Tryz.func77 (by rfl) (by rfl) (by rfl) (by rfl) ?_
  refine refNum_spec b hb _ _ ?_
  have hf := getNum_facts b
  unfold getInt at h
  simp only at h
  generalize getNum b = g at h hf ⊢
  obtain ⟨n, k, e⟩ := g
  dsimp only at h hf ⊢
  refine bcne (fun h1 => ?_) (fun h1 => ?_)
  · have hn : n = 0 ∧ k = 0 := by omega
    rw [hn.1, hn.2] at h
    exact ret h
  · have hn : 0 ≤ n ∧ n < 9223372036854775808 := by omega
    have ht : n.tmod 2 = n % 2 := Int.tmod_eq_emod_of_nonneg hn.1
    have hq : n.tdiv 2 = n / 2 := Int.tdiv_eq_ediv_of_nonneg hn.1
    refine ⟨by decide, ?_⟩
    rw [ht]
    unfold zig at h
    subst h1
    refine bceq (fun h2 => ?_) (fun h2 => ?_)
    · rw [if_neg (by omega)] at h
      refine ⟨by decide, ?_⟩
      rw [hq]
      refine ⟨⟨by omega, by omega⟩, ?_⟩
      refine ⟨⟨by omega, by omega⟩, ?_⟩
      refine ⟨⟨by omega, by omega⟩, ?_⟩
      rw [show (-(n / 2) - 1 : Int) = 0 - n / 2 - 1 by omega] at h
      exact ret h
    · rw [if_pos (by omega)] at h
      refine ⟨by decide, ?_⟩
      rw [hq]
      refine ⟨⟨by omega, by omega⟩, ?_⟩
      exact ret h

theorem refRaw_spec (b : List UInt8) (hb : b.length ≤ 140737488355328) (st : Store) (R : AV → Store → Prop) (h : ∀ v, AV.le v (byts (getRaw b).1) → R (.tup [v, int (getRaw b).2.1, int (getRaw b).2.2]) st) : ACalls Tryz.prog 74 [byts b] st R := by
  refine ACalls.of_body (c := cfg 34) infoOK Tryz.func74 (by rfl) (by rfl) (by rfl) (by rfl) ?_
  refine refNum_spec b hb _ _ ?_
  have hf := getNum_facts b
  unfold getRaw at h
  generalize getNum b = g at h hf ⊢
  obtain ⟨n, k, e⟩ := g
  dsimp only at h hf ⊢
  refine bcne (fun h1 => ?_) (fun h1 => ?_)
  · rw [if_pos h1] at h
    exact ret (h nil (AV.le_nil 1))
  · subst h1
    rw [if_neg (by simp)] at h
    have hn : 0 ≤ n ∧ n < 9223372036854775808 ∧ k ≤ b.length ∧ k ≤ 9 := by omega
    refine bcd (fun h2 => ?_) (fun h2 => ?_)
    · rw [if_pos h2] at h
      exact ret (h nil (AV.le_nil 1))
    rw [if_neg h2] at h
    refine ⟨by rw [rws_len]; exact ⟨by omega, by omega⟩, ?_⟩
    rw [rws_len]
    refine bcd (fun h3 => ?_) (fun h3 => ?_)
    · rw [if_pos h3] at h
      exact ret (h nil (AV.le_nil 1))
    rw [if_neg h3] at h
    have hk : ((k : Int) + n) = ((k + n.toNat : Nat) : Int) := by omega
    refine ⟨⟨by omega, by omega⟩, ?_⟩
    refine ⟨k, k + n.toNat, rfl, hk, by omega, by rw [rws_len]; omega, ?_⟩
    refine ⟨⟨by omega, by omega⟩, ?_⟩
    refine ret ?_
    have := h (byts ((b.drop k).take n.toNat)) (AV.le_refl _)
    have e1 : ((rowsB b).take (k + n.toNat)).drop k = rowsB ((b.drop k).take n.toNat) := by
      rw [rws_take, rws_drop, List.take_drop]
    show R (.tup [.lst 1 (((rowsB b).take (k + n.toNat)).drop k) none, int ((k : Int) + n), int 0]) _
    rw [e1, hk]
    exact this

theorem refSide_spec (b : List UInt8) (hb : b.length ≤ 140737488355328) (st : Store) (R : AV → Store → Prop) (h : R (.tup [int (sideR b).1, int (sideR b).2.1, int (sideR b).2.2]) st) : ACalls Tryz.prog 108 [byts b] st R := by
  refine ACalls.of_body (c := cfg 27) infoOK Tryz.func108 (by rfl) (by rfl) (by rfl) (by rfl) ?_
  refine refNum_spec b hb _ _ ?_
  unfold sideR at h
  generalize getNum b = g at h ⊢
  obtain ⟨n, k, e⟩ := g
  dsimp only at h ⊢
  refine bceq (fun h1 => ?_) (fun h1 => ?_)
  · refine bcd (fun h2 => ?_) (fun h2 => ?_)
    · rw [if_pos ⟨h1, .inl h2⟩] at h
      exact ret h
    · refine bcd (fun h3 => ?_) (fun h3 => ?_)
      · rw [if_pos ⟨h1, .inr h3⟩] at h
        exact ret h
      · rw [if_neg (by omega)] at h
        exact ret h
  · rw [if_neg (fun hc => h1 hc.1)] at h
    exact ret h
end Go.Proofs
namespace Go.Proofs
open Go Go.V
set_option linter.unusedVariables false

def rfO (p : Nat) (B : List UInt8) (a : Nat) (s : Rd) (st : Store) : Store := st.setObj p (.cells [byts B, int a, int s.e])
theorem rfO_get (p : Nat) (B : List UInt8) (a : Nat) (s : Rd) (st : Store) : (rfO p B a s st).obj p = some (.cells [byts B, int a, int s.e]) := setObj_self _ _ _
theorem rfO_put (p : Nat) (B : List UInt8) (a : Nat) (s : Rd) (st : Store) (l : List AV) : (rfO p B a s st).setObj p (.cells l) = st.setObj p (.cells l) := setObj_setObj _ _ _ _
theorem refIntZ_spec (b : List UInt8) (hb : b.length ≤ 140737488355328) (st : Store) (R : AV → Store → Prop) (h : R (.tup [int (zig (getNum b).1), int (getNum b).2.1, int (getNum b).2.2]) st) : ACalls Tryz.prog 77 [byts b] st R := refInt_spec b hb st R h
theorem intR_bad {s : Rd} {lo hi : Int} (h : (s.int lo hi).2.e ≠ 0) : s.intR lo hi = 0 := by unfold Rd.intR; rw [if_neg h]

theorem rnum_spec (p a : Nat) (B : List UInt8) (s : Rd) (st : Store) (lo hi : Int) (hs : Stands B a s) (hB : B.length ≤ 1048576) (R : AV → Store → Prop)
    (h : ∀ a', Stands B a' (s.num lo hi).2 → R (int (s.numR lo hi)) (rfO p B a' (s.num lo hi).2 st)) : ACalls Tryz.prog 40 [ptr p, int lo, int hi] (rfO p B a s st) R := by
  refine ACalls.of_body (c := cfg 57) infoOK Tryz.func40 (by rfl) (by rfl) (by rfl) (by rfl) ?_
  first | refine optK_intro _ (rfO_get p B a s st) ?_ | refine optR (optK_intro _ (rfO_get p B a s st) ?_) | refine optR (optR (optK_intro _ (rfO_get p B a s st) ?_))
  refine bcne (fun h1 => ?_) (fun h1 => ?_)
  · have h := h a (hs.bad (by rw [num_stick h1]; exact h1))
    rw [numR_bad (by rw [num_stick h1]; exact h1), num_stick h1] at h
    exact ret h
  refine ADraw.of_sched infoOK (by rfl) (by rfl) sch40_3 (by rfl) ?_
  first | refine optK_intro _ (rfO_get p B a s st) ?_ | refine optR (optK_intro _ (rfO_get p B a s st) ?_) | refine optR (optR (optK_intro _ (rfO_get p B a s st) ?_))
  first | refine optK_intro _ (rfO_get p B a s st) ?_ | refine optR (optK_intro _ (rfO_get p B a s st) ?_) | refine optR (optR (optK_intro _ (rfO_get p B a s st) ?_))
  refine ⟨a, B.length, rfl, rws_len B ▸ rfl, hs.1, by rw [rws_len]; exact Nat.le_refl _, ?_⟩
  have e1 : ((rowsB B).take B.length).drop a = rowsB (B.drop a) := by rw [rws_take, List.take_length, rws_drop]
  rw [e1]
  refine ⟨refNum_spec (B.drop a) (by rw [List.length_drop]; omega) _ _ ⟨trivial, ?_⟩, trivial⟩
  refine ⟨⟨trivial, ?_⟩, trivial⟩
  refine ⟨⟨trivial, ?_⟩, trivial⟩
  refine ⟨⟨trivial, ?_⟩, trivial⟩
  have hf := getNum_facts (B.drop a)
  have hl : (B.drop a).length ≤ 1048576 := by rw [List.length_drop]; omega
  have fin : ∀ a' e', Stands B a' (s.num lo hi).2 → (s.num lo hi).2.e = e' → ∀ v, s.numR lo hi = v → R (int v) (st.setObj p (.cells [byts B, int a', int e'])) := by
    intro a' e' h2 h3 v h4
    have := h a' h2
    unfold rfO at this
    rw [h3, h4] at this
    exact this
  have hsp := num_step (lo := lo) (hi := hi) hs h1
  generalize getNum (B.drop a) = g at hf hsp ⊢
  obtain ⟨n, k, e⟩ := g
  dsimp only at hf hsp ⊢
  rcases hsp with ⟨hz, he, hlo, hhi, hv, hst⟩ | ⟨hz, hv, ⟨he, hw⟩ | ⟨he, hr, hw⟩⟩
  · subst he
    refine bcd (fun h2 => by exfalso; omega) (fun _ => ?_)
    refine bcd (fun h2 => by exfalso; omega) (fun _ => ?_)
    first | refine optK_intro _ (rfO_get p B a s st) ?_ | refine optR (optK_intro _ (rfO_get p B a s st) ?_) | refine optR (optR (optK_intro _ (rfO_get p B a s st) ?_))
    refine ⟨⟨by have := hs.1; omega, by have := hs.1; omega⟩, ?_⟩
    first | refine optK_intro _ (rfO_get p B a s st) ?_ | refine optR (optK_intro _ (rfO_get p B a s st) ?_) | refine optR (optR (optK_intro _ (rfO_get p B a s st) ?_))
    refine ⟨by simp, ?_⟩
    refine ret ?_
    show R (int n) ((rfO p B a s st).setObj p (.cells [byts B, int ((a : Int) + (k : Int)), int s.e]))
    rw [rfO_put, h1]
    exact fin (a + k) 0 hst hz n hv
  · refine bceq (fun h2 => absurd h2 he) (fun _ => ?_)
    refine bcne (fun _ => ?_) (fun h2 => absurd h2 he)
    first | refine optK_intro _ (rfO_get p B a s st) ?_ | refine optR (optK_intro _ (rfO_get p B a s st) ?_) | refine optR (optR (optK_intro _ (rfO_get p B a s st) ?_))
    refine ⟨by simp, ?_⟩
    refine ret ?_
    show R (int 0) ((rfO p B a s st).setObj p (.cells [byts B, int a, int e]))
    rw [rfO_put]
    exact fin a e (hs.bad hz) hw 0 hv
  · subst he
    have fin2 : R (int 0) ((rfO p B a s st).setObj p (.cells [byts B, int a, int 1])) := by
      rw [rfO_put]
      exact fin a 1 (hs.bad hz) hw 0 hv
    refine bcd (fun h2 => ?_) (fun h2 => ?_)
    · first | refine optK_intro _ (rfO_get p B a s st) ?_ | refine optR (optK_intro _ (rfO_get p B a s st) ?_) | refine optR (optR (optK_intro _ (rfO_get p B a s st) ?_))
      refine ⟨by simp, ?_⟩
      exact ret fin2
    refine bcd (fun h3 => ?_) (fun h3 => ?_)
    · first | refine optK_intro _ (rfO_get p B a s st) ?_ | refine optR (optK_intro _ (rfO_get p B a s st) ?_) | refine optR (optR (optK_intro _ (rfO_get p B a s st) ?_))
      refine ⟨by simp, ?_⟩
      exact ret fin2
    exact absurd ⟨by omega, by omega⟩ hr

theorem rint_spec (p a : Nat) (B : List UInt8) (s : Rd) (st : Store) (lo hi : Int) (hs : Stands B a s) (hB : B.length ≤ 1048576) (R : AV → Store → Prop)
    (h : ∀ a', Stands B a' (s.int lo hi).2 → R (int (s.intR lo hi)) (rfO p B a' (s.int lo hi).2 st)) : ACalls Tryz.prog 41 [ptr p, int lo, int hi] (rfO p B a s st) R := by
  refine ACalls.of_body (c := cfg 57) infoOK Tryz.func41 (by rfl) (by rfl) (by rfl) (by rfl) ?_
  first | refine optK_intro _ (rfO_get p B a s st) ?_ | refine optR (optK_intro _ (rfO_get p B a s st) ?_) | refine optR (optR (optK_intro _ (rfO_get p B a s st) ?_))
  refine bcne (fun h1 => ?_) (fun h1 => ?_)
  · have h := h a (hs.bad (by rw [int_stick h1]; exact h1))
    rw [intR_bad (by rw [int_stick h1]; exact h1), int_stick h1] at h
    exact ret h
  refine ADraw.of_sched infoOK (by rfl) (by rfl) sch41_3 (by rfl) ?_
  first | refine optK_intro _ (rfO_get p B a s st) ?_ | refine optR (optK_intro _ (rfO_get p B a s st) ?_) | refine optR (optR (optK_intro _ (rfO_get p B a s st) ?_))
  first | refine optK_intro _ (rfO_get p B a s st) ?_ | refine optR (optK_intro _ (rfO_get p B a s st) ?_) | refine optR (optR (optK_intro _ (rfO_get p B a s st) ?_))
  refine ⟨a, B.length, rfl, rws_len B ▸ rfl, hs.1, by rw [rws_len]; exact Nat.le_refl _, ?_⟩
  have e1 : ((rowsB B).take B.length).drop a = rowsB (B.drop a) := by rw [rws_take, List.take_length, rws_drop]
  rw [e1]
  refine ⟨refIntZ_spec (B.drop a) (by rw [List.length_drop]; omega) _ _ ⟨trivial, ?_⟩, trivial⟩
  refine ⟨⟨trivial, ?_⟩, trivial⟩
  refine ⟨⟨trivial, ?_⟩, trivial⟩
  refine ⟨⟨trivial, ?_⟩, trivial⟩
  have hf := getNum_facts (B.drop a)
  have hl : (B.drop a).length ≤ 1048576 := by rw [List.length_drop]; omega
  have fin : ∀ a' e', Stands B a' (s.int lo hi).2 → (s.int lo hi).2.e = e' → ∀ v, s.intR lo hi = v → R (int v) (st.setObj p (.cells [byts B, int a', int e'])) := by
    intro a' e' h2 h3 v h4
    have := h a' h2
    unfold rfO at this
    rw [h3, h4] at this
    exact this
  have hsp := int_step (lo := lo) (hi := hi) hs h1
  generalize getNum (B.drop a) = g at hf hsp ⊢
  obtain ⟨n0, k, e⟩ := g
  dsimp only at hf hsp ⊢
  generalize zig n0 = n at hsp ⊢
  rcases hsp with ⟨hz, he, hlo, hhi, hv, hst⟩ | ⟨hz, hv, ⟨he, hw⟩ | ⟨he, hr, hw⟩⟩
  · subst he
    refine bcd (fun h2 => by exfalso; omega) (fun _ => ?_)
    refine bcd (fun h2 => by exfalso; omega) (fun _ => ?_)
    first | refine optK_intro _ (rfO_get p B a s st) ?_ | refine optR (optK_intro _ (rfO_get p B a s st) ?_) | refine optR (optR (optK_intro _ (rfO_get p B a s st) ?_))
    refine ⟨⟨by have := hs.1; omega, by have := hs.1; omega⟩, ?_⟩
    first | refine optK_intro _ (rfO_get p B a s st) ?_ | refine optR (optK_intro _ (rfO_get p B a s st) ?_) | refine optR (optR (optK_intro _ (rfO_get p B a s st) ?_))
    refine ⟨by simp, ?_⟩
    refine ret ?_
    show R (int n) ((rfO p B a s st).setObj p (.cells [byts B, int ((a : Int) + (k : Int)), int s.e]))
    rw [rfO_put, h1]
    exact fin (a + k) 0 hst hz n hv
  · refine bceq (fun h2 => absurd h2 he) (fun _ => ?_)
    refine bcne (fun _ => ?_) (fun h2 => absurd h2 he)
    first | refine optK_intro _ (rfO_get p B a s st) ?_ | refine optR (optK_intro _ (rfO_get p B a s st) ?_) | refine optR (optR (optK_intro _ (rfO_get p B a s st) ?_))
    refine ⟨by simp, ?_⟩
    refine ret ?_
    show R (int 0) ((rfO p B a s st).setObj p (.cells [byts B, int a, int e]))
    rw [rfO_put]
    exact fin a e (hs.bad hz) hw 0 hv
  · subst he
    have fin2 : R (int 0) ((rfO p B a s st).setObj p (.cells [byts B, int a, int 1])) := by
      rw [rfO_put]
      exact fin a 1 (hs.bad hz) hw 0 hv
    refine bcd (fun h2 => ?_) (fun h2 => ?_)
    · first | refine optK_intro _ (rfO_get p B a s st) ?_ | refine optR (optK_intro _ (rfO_get p B a s st) ?_) | refine optR (optR (optK_intro _ (rfO_get p B a s st) ?_))
      refine ⟨by simp, ?_⟩
      exact ret fin2
    refine bcd (fun h3 => ?_) (fun h3 => ?_)
    · first | refine optK_intro _ (rfO_get p B a s st) ?_ | refine optR (optK_intro _ (rfO_get p B a s st) ?_) | refine optR (optR (optK_intro _ (rfO_get p B a s st) ?_))
      refine ⟨by simp, ?_⟩
      exact ret fin2
    exact absurd ⟨by omega, by omega⟩ hr

theorem rsign_spec (p a : Nat) (B : List UInt8) (s : Rd) (st : Store) (c : UInt8) (hs : Stands B a s) (hB : B.length ≤ 1048576) (R : AV → Store → Prop)
    (h : ∀ a', Stands B a' (s.byte.2.must (s.byte.1 == c)) → R (.tup []) (rfO p B a' (s.byte.2.must (s.byte.1 == c)) st)) : ACalls Tryz.prog 37 [ptr p, u8 c] (rfO p B a s st) R := by
  refine ACalls.of_body (c := cfg 44) infoOK Tryz.func37 (by rfl) (by rfl) (by rfl) (by rfl) ?_
  first | refine optK_intro _ (rfO_get p B a s st) ?_ | refine optR (optK_intro _ (rfO_get p B a s st) ?_) | refine optR (optR (optK_intro _ (rfO_get p B a s st) ?_))
  have fin : ∀ a' s', s.byte.2.must (s.byte.1 == c) = s' → Stands B a' s' → ∀ e', s'.e = e' → R (.tup []) (st.setObj p (.cells [byts B, int a', int e'])) := by
    intro a' s' h2 h3 e' h4
    have := h a' (by rw [h2]; exact h3)
    unfold rfO at this
    rw [h2, h4] at this
    exact this
  refine bcne (fun h1 => ?_) (fun h1 => ?_)
  · exact ret (fin a s (by rw [byte_stick h1]; exact must_stick h1) hs _ rfl)
  refine ADraw.of_sched infoOK (by rfl) (by rfl) sch37_1 (by rfl) ?_
  first | refine optK_intro _ (rfO_get p B a s st) ?_ | refine optR (optK_intro _ (rfO_get p B a s st) ?_) | refine optR (optR (optK_intro _ (rfO_get p B a s st) ?_))
  first | refine optK_intro _ (rfO_get p B a s st) ?_ | refine optR (optK_intro _ (rfO_get p B a s st) ?_) | refine optR (optR (optK_intro _ (rfO_get p B a s st) ?_))
  refine bcd (fun h2 => ?_) (fun h2 => ?_)
  · rw [rws_len] at h2
    first | refine optK_intro _ (rfO_get p B a s st) ?_ | refine optR (optK_intro _ (rfO_get p B a s st) ?_) | refine optR (optR (optK_intro _ (rfO_get p B a s st) ?_))
    refine ⟨by simp, ?_⟩
    refine ret ?_
    show R _ ((rfO p B a s st).setObj p (.cells [byts B, int a, int 11]))
    rw [rfO_put]
    exact fin a ⟨[], 11⟩ (by rw [byte_end hs h1 (by omega)]; exact must_stick (by simp)) (hs.bad (by simp)) _ rfl
  rw [rws_len] at h2
  have hlt : a < B.length := by omega
  have hb := byte_at hs h1 hlt
  refine ADraw.of_sched infoOK (by rfl) (by rfl) sch37_3 (by rfl) ?_
  first | refine optK_intro _ (rfO_get p B a s st) ?_ | refine optR (optK_intro _ (rfO_get p B a s st) ?_) | refine optR (optR (optK_intro _ (rfO_get p B a s st) ?_))
  first | refine optK_intro _ (rfO_get p B a s st) ?_ | refine optR (optK_intro _ (rfO_get p B a s st) ?_) | refine optR (optR (optK_intro _ (rfO_get p B a s st) ?_))
  refine ⟨a, rfl, optK_intro _ (rws_get hlt) ?_⟩
  refine bcne (fun h3 => ?_) (fun h3 => ?_)
  · first | refine optK_intro _ (rfO_get p B a s st) ?_ | refine optR (optK_intro _ (rfO_get p B a s st) ?_) | refine optR (optR (optK_intro _ (rfO_get p B a s st) ?_))
    refine ⟨by simp, ?_⟩
    refine ret ?_
    show R _ ((rfO p B a s st).setObj p (.cells [byts B, int a, int 1]))
    rw [rfO_put]
    have hne : (B[a] == c) = false := by
      rw [Bool.eq_false_iff]; intro h4; rw [beq_iff_eq] at h4; rw [h4] at h3; exact h3 rfl
    exact fin a ⟨B.drop (a + 1), 1⟩ (by rw [hb, hne]; rfl) (hs.bad (by simp)) _ rfl
  · have heq : (B[a] == c) = true := by rw [beq_iff_eq]; exact UInt8.toNat_inj.1 (by omega)
    first | refine optK_intro _ (rfO_get p B a s st) ?_ | refine optR (optK_intro _ (rfO_get p B a s st) ?_) | refine optR (optR (optK_intro _ (rfO_get p B a s st) ?_))
    refine ⟨⟨by omega, by omega⟩, ?_⟩
    first | refine optK_intro _ (rfO_get p B a s st) ?_ | refine optR (optK_intro _ (rfO_get p B a s st) ?_) | refine optR (optR (optK_intro _ (rfO_get p B a s st) ?_))
    refine ⟨by simp, ?_⟩
    refine ret ?_
    show R _ ((rfO p B a s st).setObj p (.cells [byts B, int ((a : Int) + 1), int s.e]))
    rw [rfO_put, h1]
    exact fin (a + 1) ⟨B.drop (a + 1), 0⟩ (by rw [hb, heq]; rfl) ⟨by omega, fun _ => rfl⟩ _ rfl

theorem same_snoc (s : Rd) {l : List UInt8} {i : Nat} (h : i < l.length) : s.same (l.take (i + 1)) = (s.same (l.take i)).byte.2.must ((s.same (l.take i)).byte.1 == l[i]) := by
  rw [List.take_succ_eq_append_getElem h]
  unfold Rd.same
  rw [List.foldl_append]
  rfl

theorem rsum_spec (p a : Nat) (B : List UInt8) (s : Rd) (st : Store) (hs : Stands B a s) (hB : B.length ≤ 1048576) (R : AV → Store → Prop)
    (h : ∀ a', Stands B a' (s.same (eightL (fnvSum fnvStart (B.take a)))) → R (.tup []) (rfO p B a' (s.same (eightL (fnvSum fnvStart (B.take a)))) st)) : ACalls Tryz.prog 42 [ptr p] (rfO p B a s st) R := by
  refine ACalls.of_body (c := cfg 30) infoOK Tryz.func42 (by rfl) (by rfl) (by rfl) (by rfl) ?_
  first | refine optK_intro _ (rfO_get p B a s st) ?_ | refine optR (optK_intro _ (rfO_get p B a s st) ?_) | refine optR (optR (optK_intro _ (rfO_get p B a s st) ?_))
  refine bcne (fun h1 => ?_) (fun h1 => ?_)
  · have h := h a (by rw [same_stick _ h1]; exact hs)
    rw [same_stick _ h1] at h
    exact ret h
  refine ADraw.of_sched infoOK (by rfl) (by rfl) sch42_1 (by rfl) ?_
  first | refine optK_intro _ (rfO_get p B a s st) ?_ | refine optR (optK_intro _ (rfO_get p B a s st) ?_) | refine optR (optR (optK_intro _ (rfO_get p B a s st) ?_))
  first | refine optK_intro _ (rfO_get p B a s st) ?_ | refine optR (optK_intro _ (rfO_get p B a s st) ?_) | refine optR (optR (optK_intro _ (rfO_get p B a s st) ?_))
  refine ⟨0, a, rfl, rfl, Nat.zero_le _, by rw [rws_len]; exact hs.1, ?_⟩
  rw [List.drop_zero, rws_take]
  refine ⟨sum3_spec fnvStart (l := B.take a) (AV.le_refl _) (by rw [List.length_take]; omega) ⟨trivial, ?_⟩, trivial⟩
  refine ⟨eight3_spec _ ⟨trivial, ?_⟩, trivial⟩
  refine ⟨⟨trivial, ?_⟩, trivial⟩
  have hl8 := eightL_len (fnvSum fnvStart (B.take a))
  generalize eightL (fnvSum fnvStart (B.take a)) = l at h hl8 ⊢
  refine AWp.loop (σ := Nat × Nat) ⟨fun x => [(0, .av (ptr p)), (2, .av (byts l)), (3, .av (int (x.1 : Nat)))], fun _ => [],
    fun x st' => x.1 ≤ 8 ∧ Stands B x.2 (s.same (l.take x.1)) ∧ st' = rfO p B x.2 (s.same (l.take x.1)) st, fun x => 8 - x.1⟩ infoOK ?_ ?_
  · exact ⟨(0, a), trivial, ⟨Nat.zero_le _, hs, rfl⟩, ⟨LV.le_refl _, LV.le_refl _, LV.le_refl _, trivial⟩, trivial⟩
  · rintro ⟨i, a'⟩ st' ⟨hi, hst, rfl⟩
    dsimp only at hi hst ⊢
    refine bcd (fun h2 => ?_) (fun h2 => ?_)
    · have hlt : i < l.length := by omega
      refine ⟨i, rfl, optK_intro _ (rws_get hlt) ?_⟩
      refine rsign_spec p a' B _ st l[i] hst hB _ (fun a2 hst2 => ?_)
      rw [← same_snoc s hlt] at hst2 ⊢
      refine ⟨⟨by omega, by omega⟩, ?_⟩
      refine ⟨(i + 1, a2), ?_, ⟨by simp only; omega, hst2, rfl⟩, ⟨LV.le_refl _, LV.le_refl _, LV.le_refl _, trivial⟩, trivial⟩
      show 8 - (i + 1) < 8 - i
      omega
    · obtain rfl : i = 8 := by omega
      rw [List.take_of_length_le (by omega)] at hst ⊢
      exact ret (h a' hst)

end Go.Proofs
namespace Go.Proofs
open Go Go.V
set_option linter.unusedVariables false

theorem appB1 {c : UInt8} : rowsB [c] = [[u8 c]] := rfl
set_option maxHeartbeats 2000000 in
set_option maxRecDepth 20000 in
theorem refMap_spec (b : List UInt8) (hB : b.length ≤ 1048576) {w : AV} (hw : AV.le w (byts b)) (st : Store) (R : AV → Store → Prop) (h : R (.tup [.agg (gndC (mapParse b).1), int (mapParse b).2]) st) : ACalls Tryz.prog 75 [w] st R := by
  refine ACalls.le (ys := [byts b]) ⟨hw, trivial⟩ ?_
  refine ACalls.of_body (c := cfg 127) infoOK Tryz.func75 (by rfl) (by rfl) (by rfl) (by rfl) ?_
  have bad : ∀ e : Int, (mapSum b).e = e → e ≠ 0 → ∀ st' : Store, st'.Has st → ∃ r st2, AV.le (.tup [.agg [int 0, int 0, nil], int e]) r ∧ st'.Has st2 ∧ R r st2 := by
    intro e h1 h2 st' hs
    rw [mapParse_bad h1 h2] at h
    exact retR h hs (AV.le_tupL ⟨AV.le_aggL ⟨AV.le_refl _, AV.le_refl _, AV.le_nil 1, trivial⟩, AV.le_refl _, trivial⟩)
  refine ⟨by decide, ?_⟩
  refine AWp.loop (σ := Nat) ⟨fun i => [(0, .av (byts b)), (2, .bx 2 0), (4, .av (byts [84, 71])), (5, .av (int (i : Nat)))], fun _ => [(2, [int 0, int 0, nil])],
    fun i st' => i ≤ 2 ∧ (Rd.same ⟨b, 0⟩ ([84, 71].take i)).e = 0 ∧ Stands b i (Rd.same ⟨b, 0⟩ ([84, 71].take i)) ∧ st' = st, fun i => 2 - i⟩ infoOK ?_ ?_
  · exact ⟨0, trivial, ⟨Nat.zero_le _, rfl, Stands.start b, rfl⟩, ⟨LV.le_refl _, LV.le_refl _, LV.le_refl _, LV.le_refl _, trivial⟩, ⟨rfl, trivial⟩⟩
  rintro i st1 ⟨hi, he, hst, hst1⟩
  have hst1 := hst1.symm
  subst hst1
  refine bcd (fun h1 => ?_) (fun h1 => ?_)
  · have hlt : i < ([84, 71] : List UInt8).length := by simp; omega
    have hsn := same_snoc ⟨b, 0⟩ hlt
    have hbad : ∀ e : Int, (Rd.same ⟨b, 0⟩ ([84, 71].take (i + 1))).e = e → e ≠ 0 → (mapSum b).e = e := fun e h2 h3 => by
      have h4 := same_bad (s := ⟨b, 0⟩) (l := [84, 71]) (i := i + 1) (by rw [h2]; exact h3)
      have h5 := mapSum_sign (b := b) (by rw [h4, h2]; exact h3)
      rw [h5, h4, h2]
    refine bcd (fun h2 => ?_) (fun h2 => ?_)
    · rw [rws_len] at h2
      refine bad 11 (hbad 11 ?_ (by decide)) (by decide) _ (Store.Has.refl _)
      rw [hsn, byte_end hst he (by omega), must_stick (by simp)]
    rw [rws_len] at h2
    have hltb : i < b.length := by omega
    have hby := byte_at hst he hltb
    rw [hby] at hsn
    simp only at hsn
    refine ADraw.of_sched infoOK (by rfl) (by rfl) sch75_7 (by rfl) ?_
    refine ⟨i, rfl, optK_intro _ (rws_get hltb) ?_⟩
    refine ⟨i, rfl, optK_intro _ (rws_get hlt) ?_⟩
    refine bcne (fun h3 => ?_) (fun h3 => ?_)
    · refine bad 1 (hbad 1 ?_ (by decide)) (by decide) _ (Store.Has.refl _)
      rw [hsn]
      have : (b[i] == ([84, 71] : List UInt8)[i]) = false := by
        rw [Bool.eq_false_iff]; intro h4; rw [beq_iff_eq] at h4; rw [h4] at h3; exact h3 rfl
      rw [this]; rfl
    · have heq : (b[i] == ([84, 71] : List UInt8)[i]) = true := by rw [beq_iff_eq]; exact UInt8.toNat_inj.1 (by omega)
      rw [heq] at hsn
      refine ⟨⟨by omega, by omega⟩, ?_⟩
      refine ⟨i + 1, ?_, ⟨by omega, by rw [hsn]; rfl, by rw [hsn]; exact ⟨by omega, fun _ => rfl⟩, rfl⟩, ⟨LV.le_refl _, LV.le_refl _, LV.le_refl _, LV.le_refl _, trivial⟩, ⟨rfl, trivial⟩⟩
      show 2 - (i + 1) < 2 - i
      omega
  obtain rfl : i = 2 := by omega
  have e2 : ([84, 71] : List UInt8).take 2 = [84, 71] := rfl
  rw [e2] at he hst
  have hl2 := hst.1
  refine ⟨2, b.length, rfl, rws_len b ▸ rfl, hst.1, by rw [rws_len]; exact Nat.le_refl _, ?_⟩
  have e1 : ∀ a, ((rowsB b).take b.length).drop a = rowsB (b.drop a) := fun a => by rw [rws_take, List.take_length, rws_drop]
  rw [e1]
  refine refSide_spec (b.drop 2) (by rw [List.length_drop]; omega) _ _ ?_
  have hw1 : (mapHead b).1 = ((Rd.same ⟨b, 0⟩ [84, 71]).num 1 128).1 := rfl
  have hw2 : (mapHead b).2 = ((Rd.same ⟨b, 0⟩ [84, 71]).num 1 128).2 := rfl
  have hf := sideR_le (b.drop 2)
  have hsp := side_step hst he
  generalize (Rd.same ⟨b, 0⟩ [84, 71]).num 1 128 = x1 at hw1 hw2 hsp
  generalize sideR (b.drop 2) = g at hsp hf ⊢
  obtain ⟨w, k, e⟩ := g
  dsimp only at hsp hf ⊢
  rcases hsp with ⟨hz, rfl, hv, hst1, hlo, hhi⟩ | ⟨hz, rfl⟩
  rotate_left
  · refine bcne (fun _ => ?_) (fun h3 => absurd h3 hz)
    exact bad _ (by rw [mapSum_head (by rw [hw2]; exact hz), hw2]) hz _ (Store.Has.refl _)
  have hl3 := hst1.1
  refine ⟨⟨by omega, by omega⟩, ?_⟩
  refine ⟨2 + k, b.length, rfl, rws_len b ▸ rfl, hst1.1, by rw [rws_len]; exact Nat.le_refl _, ?_⟩
  rw [e1]
  refine refSide_spec (b.drop (2 + k)) (by rw [List.length_drop]; omega) _ _ ?_
  have hw3 : (mapSide b).1 = (x1.2.num 1 128).1 := by unfold mapSide; rw [hw2]
  have hw4 : (mapSide b).2 = (x1.2.num 1 128).2 := by unfold mapSide; rw [hw2]
  have hf2 := sideR_le (b.drop (2 + k))
  have hsp := side_step hst1 hz
  generalize x1.2.num 1 128 = x2 at hw3 hw4 hsp
  generalize sideR (b.drop (2 + k)) = g at hsp hf2 ⊢
  obtain ⟨hh, k2, e⟩ := g
  dsimp only at hsp hf2 ⊢
  rcases hsp with ⟨hz2, rfl, hv2, hst2, hlo2, hhi2⟩ | ⟨hz2, rfl⟩
  rotate_left
  · refine bcne (fun _ => ?_) (fun h3 => absurd h3 hz2)
    exact bad _ (by rw [mapSum_side (by rw [hw4]; exact hz2), hw4]) hz2 _ (Store.Has.refl _)
  have hl4 := hst2.1
  have hwh := side_mul (a := w) (b := hh) ⟨by omega, by omega⟩ ⟨by omega, by omega⟩
  refine ⟨⟨by omega, by omega⟩, ?_⟩
  have hT : mapTiles b = Rd.tilesGo (w * hh).toNat x2.2 [] := by unfold mapTiles; rw [hw1, hv, hw3, hv2, hw4]
  generalize hN : (w * hh).toNat = N at hT
  have hNi : (w * hh) = (N : Int) := by omega
  refine AWp.loop (σ := Nat × Nat × Rd × List UInt8 × AV) ⟨fun x => [(0, .av (byts b)), (2, .bx 2 0), (6, .av (int w)), (9, .av (int (x.2.1 : Nat))), (10, .av (int hh)), (11, .bx 11 0), (12, .av (int (x.1 : Nat)))], fun x => [(2, [int 0, int 0, nil]), (11, [int w, int hh, x.2.2.2.2])],
    fun x st' => x.1 ≤ N ∧ x.2.2.1.e = 0 ∧ Stands b x.2.1 x.2.2.1 ∧ Rd.tilesGo (N - x.1) x.2.2.1 x.2.2.2.1 = mapTiles b ∧ x.2.2.2.1.length = x.1 ∧ App 1 st x.2.2.2.2 (rowsB x.2.2.2.1) st', fun x => N - x.1⟩ infoOK ?_ ?_
  · exact ⟨(0, 2 + k + k2, x2.2, [], nil), trivial, ⟨Nat.zero_le _, hz2, hst2, hT.symm, rfl, App.start 1 _⟩, ⟨LV.le_refl _, LV.le_refl _, LV.le_refl _, LV.le_refl _, LV.le_refl _, LV.le_refl _, LV.le_refl _, trivial⟩, ⟨rfl, rfl, trivial⟩⟩
  rintro ⟨i, a, t, l, v⟩ st' ⟨hi, he, hst, hgo, hll, ha⟩
  dsimp only at hi he hst hgo hll ha ⊢
  have hal := hst.1
  refine ⟨⟨by omega, by omega⟩, ?_⟩
  refine bcd (fun h1 => ?_) (fun h1 => ?_)
  · have hlt : i < N := by omega
    obtain ⟨m, hm⟩ : ∃ m, N - i = m + 1 := ⟨N - i - 1, by omega⟩
    rw [hm, tilesGo_ok he] at hgo
    have hbad : ∀ e : Int, (t.byte.2.must (decide (t.byte.1.toNat ≤ 5))).e = e → e ≠ 0 → (mapSum b).e = e := fun e h2 h3 => by
      rw [tilesGo_bad (by rw [h2]; exact h3)] at hgo
      have h5 := mapSum_tiles (b := b) (by rw [← hgo]; simp only; rw [h2]; exact h3)
      rw [h5, ← hgo]; exact h2
    refine bcd (fun h2 => ?_) (fun h2 => ?_)
    · rw [rws_len] at h2
      refine bad 11 (hbad 11 ?_ (by decide)) (by decide) _ ha.has
      rw [byte_end hst he (by omega), must_stick (by simp)]
    rw [rws_len] at h2
    have hltb : a < b.length := by omega
    have hby := byte_at hst he hltb
    rw [hby] at hgo hbad
    simp only at hgo hbad
    refine ⟨a, rfl, optK_intro _ (rws_get hltb) ?_⟩
    refine bcd (fun h3 => ?_) (fun h3 => ?_)
    · refine bad 1 (hbad 1 ?_ (by decide)) (by decide) _ ha.has
      rw [show decide (b[a].toNat ≤ 5) = false by simp; omega]; rfl
    rw [show decide (b[a].toNat ≤ 5) = true by simp; omega] at hgo
    refine ADraw.of_sched infoOK (by rfl) (by rfl) sch75_25 (by rfl) ?_
    refine ⟨a, rfl, optK_intro _ (rws_get hltb) ?_⟩
    refine ⟨by decide, ?_⟩
    refine ⟨?_, trivial⟩
    refine appB ha (l := [b[a]]) (by rfl) (by simp; omega) (fun v2 st2 ha2 => ?_)
    obtain ⟨tb, rfl⟩ := ha2.lst (by simp [rws])
    refine ⟨trivial, ?_⟩
    refine ⟨⟨trivial, ?_⟩, trivial⟩
    refine ⟨⟨by omega, by omega⟩, ?_⟩
    refine ⟨⟨by omega, by omega⟩, ?_⟩
    refine ⟨(i + 1, a + 1, ⟨b.drop (a + 1), 0⟩, l ++ [b[a]], _), ?_, ⟨hlt, rfl, ⟨by simp only; omega, fun _ => rfl⟩, ?_, by simp; omega, ha2⟩, ⟨LV.le_refl _, LV.le_refl _, LV.le_refl _, LV.le_refl _, LV.le_refl _, LV.le_refl _, LV.le_refl _, trivial⟩, ⟨rfl, rfl, trivial⟩⟩
    · show N - (i + 1) < N - i
      omega
    · simp only
      rw [show N - (i + 1) = m by omega]
      exact hgo
  obtain rfl : i = N := by omega
  have hTl : mapTiles b = (l, t) := by rw [← hgo, Nat.sub_self]; rfl
  have hP : (mapSum b).e = 0 → mapParse b = (⟨w, hh, l⟩, 0) := by
    intro h2
    unfold mapParse
    rw [h2, hw1, hv, hw3, hv2, hTl]
    simp
  refine ⟨0, a, rfl, rfl, Nat.zero_le _, by rw [rws_len]; exact hal, ?_⟩
  rw [List.drop_zero, rws_take]
  refine sum3_spec fnvStart (l := b.take a) (AV.le_refl _) (by rw [List.length_take]; omega) ?_
  refine eight3_spec _ ?_
  have hl8 := eightL_len (fnvSum fnvStart (b.take a))
  have hS : mapSum b = (t.same (eightL (fnvSum fnvStart (b.take a)))).fin := by
    unfold mapSum
    rw [hTl]
    simp only
    rw [hst.at he]
  generalize eightL (fnvSum fnvStart (b.take a)) = q at hS hl8 ⊢
  refine AWp.loop (σ := Nat × Nat) ⟨fun x => [(0, .av (byts b)), (2, .bx 2 0), (9, .av (int (x.2 : Nat))), (11, .bx 11 0), (13, .av (byts q)), (14, .av (int (x.1 : Nat)))], fun x => [(2, [int 0, int 0, nil]), (11, [int w, int hh, v])],
    fun x st2 => x.1 ≤ 8 ∧ (t.same (q.take x.1)).e = 0 ∧ Stands b x.2 (t.same (q.take x.1)) ∧ st2 = st', fun x => 8 - x.1⟩ infoOK ?_ ?_
  · exact ⟨(0, a), trivial, ⟨Nat.zero_le _, he, hst, rfl⟩, ⟨LV.le_refl _, LV.le_refl _, LV.le_refl _, LV.le_refl _, LV.le_refl _, LV.le_refl _, trivial⟩, ⟨rfl, rfl, trivial⟩⟩
  rintro ⟨j, a⟩ st2 ⟨hj, he, hst, rfl⟩
  dsimp only at hj he hst ⊢
  have hal := hst.1
  refine bcd (fun h1 => ?_) (fun h1 => ?_)
  · have hlt : j < q.length := by omega
    have hsn := same_snoc t hlt
    have hbad : ∀ e : Int, (t.same (q.take (j + 1))).e = e → e ≠ 0 → (mapSum b).e = e := fun e h2 h3 => by
      have h4 := same_bad (s := t) (l := q) (i := j + 1) (by rw [h2]; exact h3)
      rw [hS, h4, fin_stick (by rw [h2]; exact h3), h2]
    refine bcd (fun h2 => ?_) (fun h2 => ?_)
    · rw [rws_len] at h2
      refine bad 11 (hbad 11 ?_ (by decide)) (by decide) _ ha.has
      rw [hsn, byte_end hst he (by omega), must_stick (by simp)]
    rw [rws_len] at h2
    have hltb : a < b.length := by omega
    have hby := byte_at hst he hltb
    rw [hby] at hsn
    simp only at hsn
    refine ADraw.of_sched infoOK (by rfl) (by rfl) sch75_33 (by rfl) ?_
    refine ⟨a, rfl, optK_intro _ (rws_get hltb) ?_⟩
    refine ⟨j, rfl, optK_intro _ (rws_get hlt) ?_⟩
    refine bcne (fun h3 => ?_) (fun h3 => ?_)
    · refine bad 1 (hbad 1 ?_ (by decide)) (by decide) _ ha.has
      rw [hsn]
      have : (b[a] == q[j]) = false := by
        rw [Bool.eq_false_iff]; intro h4; rw [beq_iff_eq] at h4; rw [h4] at h3; exact h3 rfl
      rw [this]; rfl
    · have heq : (b[a] == q[j]) = true := by rw [beq_iff_eq]; exact UInt8.toNat_inj.1 (by omega)
      rw [heq] at hsn
      refine ⟨⟨by omega, by omega⟩, ?_⟩
      refine ⟨⟨by omega, by omega⟩, ?_⟩
      refine ⟨(j + 1, a + 1), ?_, ⟨by simp only; omega, by rw [hsn]; rfl, by rw [hsn]; exact ⟨by simp only; omega, fun _ => rfl⟩, rfl⟩, ⟨LV.le_refl _, LV.le_refl _, LV.le_refl _, LV.le_refl _, LV.le_refl _, LV.le_refl _, trivial⟩, ⟨rfl, rfl, trivial⟩⟩
      show 8 - (j + 1) < 8 - j
      omega
  obtain rfl : j = 8 := by omega
  rw [List.take_of_length_le (by omega)] at he hst
  have hbl : (t.same q).b.length = b.length - a := by rw [hst.2 he, List.length_drop]
  refine bcne (fun h2 => ?_) (fun h2 => ?_)
  · rw [rws_len] at h2
    refine bad 1 ?_ (by decide) _ ha.has
    rw [hS]
    unfold Rd.fin
    rw [show ((t.same q).b.length == 0) = false by rw [beq_eq_false_iff_ne]; omega]
    unfold Rd.must Rd.fail
    simp [he]
  · rw [rws_len] at h2
    have h0 : (mapSum b).e = 0 := by
      rw [hS]
      unfold Rd.fin
      rw [show ((t.same q).b.length == 0) = true by rw [beq_iff_eq]; omega]
      exact he
    rw [hP h0] at h
    have h : R (.tup [.agg [int w, int hh, byts l], int 0]) st := h
    have hone := ha.one
    refine storeK_boxL (v := .agg [int w, int hh, v]) (xs := [int w, int hh, v]) (by rfl) (by simp only [List.all_cons, List.all_nil, hone]; rfl) (by rfl) (by rfl) (by simp) ?_
    exact retR h ha.has (AV.le_tupL ⟨AV.le_aggL ⟨AV.le_refl _, AV.le_refl _, ha.le, trivial⟩, AV.le_refl _, trivial⟩)
end Go.Proofs
namespace Go.Proofs
open Go Go.V
set_option linter.unusedVariables false

theorem refGround_spec (p a : Nat) (B : List UInt8) (s : Rd) (st : Store) (hs : Stands B a s) (hB : B.length ≤ 1048576) (R : AV → Store → Prop)
    (h : ∀ a' g, Stands B a' (gndR s).2 → ((gndR s).2.e = 0 → g = (gndR s).1) → R (.agg (gndC g)) (rfO p B a' (gndR s).2 st)) : ACalls Tryz.prog 39 [ptr p] (rfO p B a s st) R := by
  refine ACalls.of_body (c := cfg 56) infoOK Tryz.func39 (by rfl) (by rfl) (by rfl) (by rfl) ?_
  have le0 : AV.le (.agg [int 0, int 0, nil]) (.agg (gndC ⟨0, 0, []⟩)) := AV.le_aggL ⟨AV.le_refl _, AV.le_refl _, AV.le_nil 1, trivial⟩
  have fin : ∀ a' s', (gndR s).2 = s' → Stands B a' s' → ∀ e', s'.e = e' → ∀ g, (s'.e = 0 → g = (gndR s).1) → R (.agg (gndC g)) (st.setObj p (.cells [byts B, int a', int e'])) := by
    intro a' s' h2 h3 e' h4 g h5
    have := h a' g (by rw [h2]; exact h3) (by rw [h2]; exact h5)
    unfold rfO at this
    rw [h2, h4] at this
    exact this
  first | refine optK_intro _ (rfO_get p B a s st) ?_ | refine optR (optK_intro _ (rfO_get p B a s st) ?_) | refine optR (optR (optK_intro _ (rfO_get p B a s st) ?_))
  refine bcne (fun h1 => ?_) (fun h1 => ?_)
  · exact retR (fin a s (gndR_stick h1) hs _ rfl ⟨0, 0, []⟩ (fun h => absurd h h1)) (Store.Has.refl _) le0
  refine ADraw.of_sched infoOK (by rfl) (by rfl) sch39_3 (by rfl) ?_
  first | refine optK_intro _ (rfO_get p B a s st) ?_ | refine optR (optK_intro _ (rfO_get p B a s st) ?_) | refine optR (optR (optK_intro _ (rfO_get p B a s st) ?_))
  first | refine optK_intro _ (rfO_get p B a s st) ?_ | refine optR (optK_intro _ (rfO_get p B a s st) ?_) | refine optR (optR (optK_intro _ (rfO_get p B a s st) ?_))
  refine ⟨a, B.length, rfl, rws_len B ▸ rfl, hs.1, by rw [rws_len]; exact Nat.le_refl _, ?_⟩
  have e1 : ((rowsB B).take B.length).drop a = rowsB (B.drop a) := by rw [rws_take, List.take_length, rws_drop]
  rw [e1]
  refine ⟨refRaw_spec (B.drop a) (by rw [List.length_drop]; omega) _ _ (fun v hv => ⟨trivial, ?_⟩), trivial⟩
  refine ⟨⟨trivial, ?_⟩, trivial⟩
  refine ⟨⟨trivial, ?_⟩, trivial⟩
  refine ⟨⟨trivial, ?_⟩, trivial⟩
  have hrl : (getRaw (B.drop a)).1.length ≤ 1048576 := Nat.le_trans (getRaw_len _) (by rw [List.length_drop]; omega)
  have hsp := raw_step hs h1
  generalize getRaw (B.drop a) = g at hv hrl hsp ⊢
  obtain ⟨m, k, e⟩ := g
  dsimp only at hv hrl hsp ⊢
  rcases hsp with ⟨rfl, hm, hz, hst⟩ | ⟨he, hz⟩
  rotate_left
  · refine bcne (fun _ => ?_) (fun h => absurd h he)
    first | refine optK_intro _ (rfO_get p B a s st) ?_ | refine optR (optK_intro _ (rfO_get p B a s st) ?_) | refine optR (optR (optK_intro _ (rfO_get p B a s st) ?_))
    refine ⟨by simp, ?_⟩
    refine retR ?_ (Store.Has.refl _) le0
    show R _ ((rfO p B a s st).setObj p (.cells [byts B, int a, int e]))
    rw [rfO_put]
    have e2 : gndR s = (⟨0, 0, []⟩, s.raw.2) := by unfold gndR; rw [if_neg (by rw [hz]; exact he)]
    exact fin a s.raw.2 (by rw [e2]) (hs.bad (by rw [hz]; exact he)) e hz ⟨0, 0, []⟩ (fun h => by rw [hz] at h; exact absurd h he)
  refine refMap_spec m hrl hv _ _ ?_
  have e2 : gndR s = ((mapParse m).1, s.raw.2.must (decide ((mapParse m).2 = 0))) := by unfold gndR; rw [if_pos hz, hm]
  generalize mapParse m = mp at e2 ⊢
  obtain ⟨g, f⟩ := mp
  dsimp only at e2 ⊢
  refine bcne (fun h3 => ?_) (fun h3 => ?_)
  · first | refine optK_intro _ (rfO_get p B a s st) ?_ | refine optR (optK_intro _ (rfO_get p B a s st) ?_) | refine optR (optR (optK_intro _ (rfO_get p B a s st) ?_))
    refine ⟨by simp, ?_⟩
    refine retR ?_ (Store.Has.refl _) le0
    show R _ ((rfO p B a s st).setObj p (.cells [byts B, int a, int 1]))
    rw [rfO_put]
    have e3 : (gndR s).2 = ⟨s.raw.2.b, 1⟩ := by
      rw [e2, show decide (f = 0) = false by simp [h3]]
      unfold Rd.must Rd.fail
      simp [hz]
    exact fin a _ e3 (hs.bad (by simp)) 1 rfl ⟨0, 0, []⟩ (fun h => by simp at h)
  · have e3 : (gndR s).2 = s.raw.2 := by
      rw [e2, show decide (f = 0) = true by simp [h3]]; rfl
    first | refine optK_intro _ (rfO_get p B a s st) ?_ | refine optR (optK_intro _ (rfO_get p B a s st) ?_) | refine optR (optR (optK_intro _ (rfO_get p B a s st) ?_))
    have hl := hst.1
    refine ⟨⟨by omega, by omega⟩, ?_⟩
    first | refine optK_intro _ (rfO_get p B a s st) ?_ | refine optR (optK_intro _ (rfO_get p B a s st) ?_) | refine optR (optR (optK_intro _ (rfO_get p B a s st) ?_))
    refine ⟨by simp, ?_⟩
    refine retR ?_ (Store.Has.refl _) (AV.le_refl (.agg (gndC g)))
    show R _ ((rfO p B a s st).setObj p (.cells [byts B, int ((a : Int) + (k : Int)), int s.e]))
    rw [rfO_put, h1]
    exact fin (a + k) s.raw.2 e3 hst 0 hz g (fun _ => by rw [e2])
end Go.Proofs
namespace Go.Proofs
open Go Go.V
set_option linter.unusedVariables false

theorem onRf {f : FuncId} {xs : List AV} {S : Store} {p a : Nat} {B : List UInt8} {s : Rd} {R : AV → Store → Prop} (h : S.obj p = some (.cells [byts B, int a, int s.e])) (k : ACalls Tryz.prog f xs (rfO p B a s S) R) : ACalls Tryz.prog f xs S R := by
  unfold rfO at k
  rw [setObj_get h] at k; exact k

theorem r26num_spec (p a : Nat) (B : List UInt8) (s : Rd) (st : Store) (hs : Stands B a s) (hB : B.length ≤ 1048576) (R : AV → Store → Prop)
    (h : ∀ a', Stands B a' (anyP s).2 → R (int (s.numR 0 9223372036854775807)) (rfO p B a' (anyP s).2 st)) : ACalls Tryz.prog 38 [ptr p] (rfO p B a s st) R := by
  refine ACalls.of_body (c := cfg 5) infoOK Tryz.func38 (by rfl) (by rfl) (by rfl) (by rfl) ?_
  refine rnum_spec p a B s st 0 9223372036854775807 hs hB _ (fun a' hs' => ?_)
  exact ret (h a' hs')

/-- What the page's Parse holds: its reader, its buildings, its units. -/
structure PRf (S : Store) (p : Nat) (B : List UInt8) (a : Nat) (s : Rd) (vB : AV) (l : List Bld) (vU : AV) (U : List Unt) : Prop where
  hp : S.obj p = some (.cells [byts B, int a, int s.e])
  hs : Stands B a s
  rB : RowsO 6 bldC S vB l
  rU : RowsO 10 untC S vU U
  nB : ∀ b n c, vB = .s (.slice (some ⟨b, 0, none⟩) n c) → b ≠ p
  nU : ∀ b n c, vU = .s (.slice (some ⟨b, 0, none⟩) n c) → b ≠ p
  nBU : ∀ b n c b' n' c', vB = .s (.slice (some ⟨b, 0, none⟩) n c) → vU = .s (.slice (some ⟨b', 0, none⟩) n' c') → b ≠ b'

section
variable {S : Store} {p a : Nat} {B : List UInt8} {s : Rd} {vB vU : AV} {l : List Bld} {U : List Unt}
theorem PRf.rd (h : PRf S p B a s vB l vU U) {a' : Nat} {t : Rd} (ht : Stands B a' t) : PRf (rfO p B a' t S) p B a' t vB l vU U :=
  ⟨rfO_get _ _ _ _ _, ht, h.rB.other h.nB _, h.rU.other h.nU _, h.nB, h.nU, h.nBU⟩
theorem PRf.appB (h : PRf S p B a s vB l vU U) {b cap : Nat} {L : List AV} {x : Bld} (hb : Fresh S b ∨ ∃ c0, vB = .s (.slice (some ⟨b, 0, none⟩) l.length c0))
    (h1 : (l ++ [x]).length ≤ cap) (h2 : cap * 6 ≤ (l ++ [x]).length * 6 + L.length) (h3 : cap ≤ 9223372036854775807) :
    PRf (S.setObj b (.cells ((rws bldC (l ++ [x])).flatten ++ L))) p B a s (.s (.slice (some ⟨b, 0, none⟩) (l ++ [x]).length cap)) (l ++ [x]) vU U := by
  have hbp : b ≠ p := by
    rcases hb with hb | ⟨c0, hb⟩
    · exact hb.ne_obj h.hp
    · exact h.nB b _ _ hb
  have hbU : ∀ b' n c, vU = .s (.slice (some ⟨b', 0, none⟩) n c) → b ≠ b' := fun b' n c e => by
    rcases hb with hb | ⟨c0, hb⟩
    · obtain ⟨y, hy⟩ := h.rU.blk e; exact hb.ne_obj hy
    · exact h.nBU _ _ _ _ _ _ hb e
  exact ⟨by rw [setObj_ne (Ne.symm hbp)]; exact h.hp, h.hs, .inr ⟨b, cap, L, rfl, setObj_self _ _ _, h1, h2, h3⟩, h.rU.other (fun b' n c e => Ne.symm (hbU b' n c e)) _, fun b' n c e => by cases e; exact hbp, h.nU, fun b' n c b2 n2 c2 e e2 => by cases e; exact hbU _ _ _ e2⟩
theorem PRf.appU (h : PRf S p B a s vB l vU U) {b cap : Nat} {L : List AV} {x : Unt} (hb : Fresh S b ∨ ∃ c0, vU = .s (.slice (some ⟨b, 0, none⟩) U.length c0))
    (h1 : (U ++ [x]).length ≤ cap) (h2 : cap * 10 ≤ (U ++ [x]).length * 10 + L.length) (h3 : cap ≤ 9223372036854775807) :
    PRf (S.setObj b (.cells ((rws untC (U ++ [x])).flatten ++ L))) p B a s vB l (.s (.slice (some ⟨b, 0, none⟩) (U ++ [x]).length cap)) (U ++ [x]) := by
  have hbp : b ≠ p := by
    rcases hb with hb | ⟨c0, hb⟩
    · exact hb.ne_obj h.hp
    · exact h.nU b _ _ hb
  have hbB : ∀ b' n c, vB = .s (.slice (some ⟨b', 0, none⟩) n c) → b' ≠ b := fun b' n c e => by
    rcases hb with hb | ⟨c0, hb⟩
    · obtain ⟨y, hy⟩ := h.rB.blk e; exact Ne.symm (hb.ne_obj hy)
    · exact h.nBU _ _ _ _ _ _ e hb
  exact ⟨by rw [setObj_ne (Ne.symm hbp)]; exact h.hp, h.hs, h.rB.other (fun b' n c e => hbB b' n c e) _, .inr ⟨b, cap, L, rfl, setObj_self _ _ _, h1, h2, h3⟩, h.nB, fun b' n c e => by cases e; exact hbp, fun b' n c b2 n2 c2 e e2 => by cases e2; exact hbB _ _ _ e⟩
end

def nR (s : Rd) : Int := s.numR 0 9223372036854775807
theorem nR_ok {s : Rd} (h : (anyP s).2.e = 0) : nR s = (anyP s).1 := numR_ok h
theorem nR_bd (s : Rd) : 0 ≤ nR s ∧ nR s ≤ 9223372036854775807 := by
  have := numR_bd s 0 9223372036854775807
  unfold nR
  omega
theorem any_e {s : Rd} (h : (anyP s).2.e = 0) : s.e = 0 := (any_PL.put s h).1
theorem cB_e {s : Rd} (h : (cntP 256 bldP_ s).2.e = 0) : s.e = 0 := ((cnt_PL bld_PL (hi := 256) (by decide)).put _ h).1
theorem cU_e {s : Rd} (h : (cntP 4096 untP_ s).2.e = 0) : s.e = 0 := ((cnt_PL unt_PL (hi := 4096) (by decide)).put _ h).1
theorem g_e {s : Rd} (h : (gndR s).2.e = 0) : s.e = 0 := (gnd_PL.put _ h).1

theorem rmayVV_spec {g : Store} {w : Wld} {vB vU : AV} (hB : RowsO 6 bldC g vB w.B) (hU : RowsO 10 untC g vU w.U) (hw : w.fits) (hn : ∀ u ∈ w.U, u.pos.ok) (R : AV → Store → Prop) (h : ∀ z : Bool, (z = true ↔ mayP w) → R (V.bool z) g) : ACalls Tryz.prog 21 [.agg (wldVV w vB vU)] g R :=
  ACalls.read (ys := [.agg (wldC w)]) (Q := fun r => ∃ z : Bool, r = V.bool z ∧ (z = true ↔ mayP w)) (fun Oth M W vs sto hr => by
    obtain ⟨x, rfl, h1⟩ := reads1 hr
    exact Reads.cons (wldVV_borrow hB hU sto h1) Reads.nil) (rmay_spec w hw hn _ _ fun z hz => ⟨z, rfl, hz⟩) (fun r ⟨z, e, _⟩ => e ▸ flat_s _) (fun r ⟨z, e, hz⟩ => e ▸ h z hz)

def Ref3 (b : List UInt8) (r : AV) (S : Store) : Prop :=
  (imgE b ≠ 0 ∧ r = .tup [.agg (z6 ++ [nil, nil]), int (imgE b)]) ∨ (imgE b = 0 ∧ ¬ mayP (imgW b) ∧ r = .tup [.agg (z6 ++ [nil, nil]), int 1]) ∨
  (imgE b = 0 ∧ mayP (imgW b) ∧ ∃ vB vU, RowsO 6 bldC S vB (imgW b).B ∧ RowsO 10 untC S vU (imgW b).U ∧ r = .tup [.agg (wldVV (imgW b) vB vU), int 0])

def refB (s : Rd) : Bld := ⟨nR s, nR (anyP s).2, nR (anyP (anyP s).2).2, nR (anyP (anyP (anyP s).2).2).2, nR (anyP (anyP (anyP (anyP s).2).2).2).2, nR (anyP (anyP (anyP (anyP (anyP s).2).2).2).2).2⟩
theorem refB_ok {s : Rd} (h : (bldP_ s).2.e = 0) : refB s = (bldP_ s).1 := by
  have h6 : (anyP (anyP (anyP (anyP (anyP (anyP s).2).2).2).2).2).2.e = 0 := h
  have h5 := any_e h6
  have h4 := any_e h5
  have h3 := any_e h4
  have h2 := any_e h3
  have h1 := any_e h2
  unfold refB
  rw [nR_ok h1, nR_ok h2, nR_ok h3, nR_ok h4, nR_ok h5, nR_ok h6]
  rfl

theorem int_top (s : Rd) : s.int (-4611686018427387904) 4611686018427387904 = signedP s := by
  have hz : 0 ≤ (getNum s.b).1 ∧ (getNum s.b).1 < 9223372036854775808 := by
    rcases getNum_facts s.b with h | h
    · omega
    · omega
  have hb := zig_bd hz.1 hz.2
  have key : ∀ v : Int, v ≤ 4611686018427387903 → inB v (-4611686018427387904) 4611686018427387904 = inB v (-4611686018427387904) 4611686018427387903 := fun v hv => by
    unfold inB
    rw [Bool.eq_iff_iff, decide_eq_true_iff, decide_eq_true_iff]
    omega
  show s.got (getInt s.b) _ _ = s.got (getInt s.b) _ _
  unfold Rd.got
  split
  · rfl
  · have hv : (s.take (getInt s.b).1 (getInt s.b).2.1 (getInt s.b).2.2).1 ≤ 4611686018427387903 := by
      unfold Rd.take
      split
      · show (0 : Int) ≤ 4611686018427387903
        decide
      · show zig (getNum s.b).1 ≤ _
        omega
    rw [key _ hv]

def iR (s : Rd) : Int := s.intR (-4611686018427387904) 4611686018427387904
theorem iR_ok {s : Rd} (h : (signedP s).2.e = 0) : iR s = (signedP s).1 := by
  rw [← int_top] at h ⊢
  exact intR_ok h
theorem signed_e {s : Rd} (h : (signedP s).2.e = 0) : s.e = 0 := (signed_PL.put s h).1
def refU (s : Rd) : Unt := ⟨nR s, nR (anyP s).2, nR (anyP (anyP s).2).2, (iR (anyP (anyP (anyP s).2).2).2, iR (signedP (anyP (anyP (anyP s).2).2).2).2),
    nR (signedP (signedP (anyP (anyP (anyP s).2).2).2).2).2 - 1, nR (anyP (signedP (signedP (anyP (anyP (anyP s).2).2).2).2).2).2 - 1, nR (anyP (anyP (signedP (signedP (anyP (anyP (anyP s).2).2).2).2).2).2).2,
    nR (anyP (anyP (anyP (signedP (signedP (anyP (anyP (anyP s).2).2).2).2).2).2).2).2, nR (anyP (anyP (anyP (anyP (signedP (signedP (anyP (anyP (anyP s).2).2).2).2).2).2).2).2).2⟩
theorem refU_ok {s : Rd} (h : (untP_ s).2.e = 0) : refU s = (untP_ s).1 := by
  have h10 : (anyP (anyP (anyP (anyP (anyP (signedP (signedP (anyP (anyP (anyP s).2).2).2).2).2).2).2).2).2).2.e = 0 := h
  have h9 := any_e h10
  have h8 := any_e h9
  have h7 := any_e h8
  have h6 := any_e h7
  have h5 := any_e h6
  have h4 := signed_e h5
  have h3 := signed_e h4
  have h2 := any_e h3
  have h1 := any_e h2
  unfold refU
  rw [nR_ok h1, nR_ok h2, nR_ok h3, iR_ok h4, iR_ok h5, nR_ok h6, nR_ok h7, nR_ok h8, nR_ok h9, nR_ok h10]
  rfl

set_option maxHeartbeats 4000000 in
set_option maxRecDepth 20000 in
theorem rparse_key (b : List UInt8) (hb : b.length ≤ 1048576) (R : AV → Store → Prop) (fin : ∀ r S, Ref3 b r S → R r S) : ACalls Tryz.prog 12 [byts b] Store.empty R := by
  have eS : imgS b = (cntP 4096 untP_ (cntP 256 bldP_ (gndR (anyP (anyP (anyP (Rd.same ⟨b, 0⟩ [84, 87])).2).2).2).2).2).2 := rfl
  have eW : imgW b = ⟨(anyP (Rd.same ⟨b, 0⟩ [84, 87])).1, (anyP (anyP (Rd.same ⟨b, 0⟩ [84, 87])).2).1, (anyP (anyP (anyP (Rd.same ⟨b, 0⟩ [84, 87])).2).2).1, (gndR (anyP (anyP (anyP (Rd.same ⟨b, 0⟩ [84, 87])).2).2).2).1,
    (cntP 256 bldP_ (gndR (anyP (anyP (anyP (Rd.same ⟨b, 0⟩ [84, 87])).2).2).2).2).1, (cntP 4096 untP_ (cntP 256 bldP_ (gndR (anyP (anyP (anyP (Rd.same ⟨b, 0⟩ [84, 87])).2).2).2).2).2).1⟩ := rfl
  refine ACalls.of_awp (c := cfg 157 [13] []) infoOK Tryz.func12 (by rfl) (by rfl) (by rfl) (by rfl) ?_
  refine AWp.seq (AWp.of_vc infoOK ?_)
  refine AWp.seq (AWp.of_vc infoOK ?_)
  intro p hp
  change AWp _ _ _ _ _ (rfO p b 0 ⟨b, 0⟩ Store.empty)
  refine AWp.seq (AWp.of_vc infoOK ?_)
  refine rsign_spec p 0 b _ _ 84 (Stands.start b) hb _ (fun a1 hs1 => ?_)
  refine AWp.seq (AWp.of_vc infoOK ?_)
  refine rsign_spec p a1 b _ _ 87 hs1 hb _ (fun a2 hs2 => ?_)
  change Stands b a2 (Rd.same ⟨b, 0⟩ [84, 87]) at hs2
  change AWp _ _ _ _ _ (rfO p b a2 (Rd.same ⟨b, 0⟩ [84, 87]) Store.empty)
  generalize Rd.same ⟨b, 0⟩ [84, 87] = s1 at *
  clear hs1
  refine AWp.seq (AWp.of_vc infoOK ?_)
  refine r26num_spec p a2 b s1 _ hs2 hb _ (fun a3 hs3 => ?_)
  refine AWp.seq (AWp.of_vc infoOK ?_)
  refine r26num_spec p a3 b _ _ hs3 hb _ (fun a4 hs4 => ?_)
  refine AWp.seq (AWp.of_vc infoOK ?_)
  refine r26num_spec p a4 b _ _ hs4 hb _ (fun a5 hs5 => ?_)
  refine AWp.seq (AWp.of_vc infoOK ?_)
  refine refGround_spec p a5 b _ _ hs5 hb _ (fun a6 g hs6 hg => ?_)
  have hval : (gndR (anyP (anyP (anyP s1).2).2).2).2.e = 0 → s1.numR 0 9223372036854775807 = (anyP s1).1 ∧ (anyP s1).2.numR 0 9223372036854775807 = (anyP (anyP s1).2).1 ∧ (anyP (anyP s1).2).2.numR 0 9223372036854775807 = (anyP (anyP (anyP s1).2).2).1 ∧ g = (gndR (anyP (anyP (anyP s1).2).2).2).1 := fun he => by
    have e3 := g_e he
    have e2 := any_e e3
    have e1 := any_e e2
    exact ⟨nR_ok e1, nR_ok e2, nR_ok e3, hg he⟩
  clear hg hs2 hs3 hs4 hs5
  generalize s1.numR 0 9223372036854775807 = t1 at *
  generalize (anyP s1).2.numR 0 9223372036854775807 = t2 at *
  generalize (anyP (anyP s1).2).2.numR 0 9223372036854775807 = t3 at *
  generalize (anyP s1).1 = u1 at *
  generalize (anyP (anyP s1).2).1 = u2 at *
  generalize (anyP (anyP (anyP s1).2).2).1 = u3 at *
  generalize gndR (anyP (anyP (anyP s1).2).2).2 = gg at *
  have P6 : PRf (rfO p b a6 gg.2 Store.empty) p b a6 gg.2 nil [] nil [] :=
    ⟨rfO_get _ _ _ _ _, hs6, .inl ⟨rfl, rfl⟩, .inl ⟨rfl, rfl⟩, fun _ _ _ e => (by cases e), fun _ _ _ e => (by cases e), fun _ _ _ _ _ _ e => (by cases e)⟩
  clear hs6 hp
  have eB : Rd.repGo bldP_ (gg.2.num 0 256).1.toNat (gg.2.num 0 256).2 [] = cntP 256 bldP_ gg.2 := rfl
  have eBe : (cntP 256 bldP_ gg.2).2.e = 0 → gg.2.e = 0 := cB_e
  generalize cntP 256 bldP_ gg.2 = cB at *
  refine AWp.seq (AWp.of_vc infoOK ?_)
  refine rnum_spec p a6 b gg.2 _ 0 256 P6.hs hb _ (fun a7 hs7 => ?_)
  have P7 := P6.rd hs7
  have e7 : rfO p b a7 (gg.2.num 0 256).2 (rfO p b a6 gg.2 Store.empty) = rfO p b a7 (gg.2.num 0 256).2 Store.empty := setObj_setObj _ _ _ _
  rw [e7] at P7
  generalize rfO p b a7 (gg.2.num 0 256).2 Store.empty = S7 at P7 ⊢
  clear e7 P6 hs7
  have hnb := numR_bd gg.2 0 256
  have hnv : (gg.2.num 0 256).2.e = 0 → gg.2.numR 0 256 = (gg.2.num 0 256).1 := numR_ok
  have hn0 := num_I64 gg.2 0 256
  generalize gg.2.numR 0 256 = n at hnb hnv ⊢
  generalize (gg.2.num 0 256).1 = m7 at *
  generalize (gg.2.num 0 256).2 = s7 at *
  refine AWp.meetA (σ := Store × Nat × AV × List Bld) ⟨fun _ => [(0, .av (byts b)), (2, .bx 2 0), (4, .av (ptr p)), (5, .bx 5 0)], fun x => [(2, z6 ++ [nil, nil]), (5, [int t1, int t2, int t3, int g.W, int g.H, byts g.T, x.2.2.1, nil])],
    fun x S => S = x.1 ∧ PRf x.1 p b x.2.1 cB.2 x.2.2.1 x.2.2.2 nil [] ∧ (cB.2.e = 0 → x.2.2.2 = cB.1)⟩ ?_ ?_
  · refine AWp.seq (AWp.of_vc infoOK ?_)
    refine AWp.of_vc infoOK ?_
    refine AWp.loop (σ := Nat × Store × Nat × Rd × AV × List Bld × Nat × List Bld) ⟨fun x => [(0, .av (byts b)), (2, .bx 2 0), (4, .av (ptr p)), (5, .bx 5 0), (6, .av (int n)), (7, .av (int (x.1 : Nat)))], fun x => [(2, z6 ++ [nil, nil]), (5, [int t1, int t2, int t3, int g.W, int g.H, byts g.T, x.2.2.2.2.1, nil])],
      fun x S => S = x.2.1 ∧ PRf x.2.1 p b x.2.2.1 x.2.2.2.1 x.2.2.2.2.1 x.2.2.2.2.2.1 nil [] ∧ Rd.repGo bldP_ x.2.2.2.2.2.2.1 x.2.2.2.1 x.2.2.2.2.2.2.2 = cB ∧ (x.2.2.2.1.e = 0 → x.2.2.2.2.2.2.2 = x.2.2.2.2.2.1 ∧ n = (x.2.2.2.2.2.2.1 : Int) + x.1) ∧ x.2.2.2.2.2.1.length = x.1 ∧ x.1 ≤ 256, fun x => n.toNat - x.1⟩ infoOK ?_ ?_
    · refine ⟨(0, S7, a7, s7, nil, [], m7.toNat, []), trivial, ⟨rfl, P7, eB, fun he => ⟨rfl, ?_⟩, rfl, Nat.zero_le _⟩, ⟨LV.le_refl _, LV.le_refl _, LV.le_refl _, LV.le_refl _, LV.le_refl _, LV.le_refl _, trivial⟩, ⟨rfl, rfl, trivial⟩⟩
      have := hnv he
      dsimp only
      omega
    rintro ⟨i, S, a, s, vB, l, k, l'⟩ S' ⟨rfl, P, hg, heq, hll, hi⟩
    dsimp only at P hg heq hll hi ⊢
    have stop : (¬ (i : Int) < n ∨ s.e ≠ 0) → cB.2 = s ∧ (cB.2.e = 0 → l = cB.1) := fun hh => by
      by_cases he : s.e = 0
      · obtain ⟨q1, q2⟩ := heq he
        have hk : k = 0 := by
          rcases hh with hh | hh
          · omega
          · exact absurd he hh
        subst hk
        rw [← hg]
        exact ⟨rfl, fun _ => q1.symm⟩
      · rw [repGo_bad he] at hg
        rw [← hg]
        exact ⟨rfl, fun h2 => absurd h2 he⟩
    refine bcd (fun c1 => ?_) (fun c1 => ?_)
    rotate_left
    · obtain ⟨q1, q2⟩ := stop (.inl c1)
      rw [← q1] at P
      exact ⟨(_, a, vB, l), ⟨rfl, P, q2⟩, ⟨LV.le_refl _, LV.le_refl _, LV.le_refl _, LV.le_refl _, trivial⟩, ⟨rfl, rfl, trivial⟩⟩
    refine optK_intro _ P.hp ?_
    refine bceq (fun c2 => ?_) (fun c2 => ?_)
    rotate_left
    · obtain ⟨q1, q2⟩ := stop (.inr c2)
      rw [← q1] at P
      exact ⟨(_, a, vB, l), ⟨rfl, P, q2⟩, ⟨LV.le_refl _, LV.le_refl _, LV.le_refl _, LV.le_refl _, trivial⟩, ⟨rfl, rfl, trivial⟩⟩
    obtain ⟨q1, q2⟩ := heq c2
    obtain ⟨k, rfl⟩ : ∃ j : Nat, k = j + 1 := ⟨k - 1, by omega⟩
    rw [repGo_ok c2] at hg
    refine onRf P.hp (r26num_spec p a b s S' P.hs hb _ (fun b1 k1 => ?_))
    refine r26num_spec p b1 b _ _ k1 hb _ (fun b2 k2 => ?_)
    refine r26num_spec p b2 b _ _ k2 hb _ (fun b3 k3 => ?_)
    refine r26num_spec p b3 b _ _ k3 hb _ (fun b4 k4 => ?_)
    refine r26num_spec p b4 b _ _ k4 hb _ (fun b5 k5 => ?_)
    refine r26num_spec p b5 b _ _ k5 hb _ (fun b6 k6 => ?_)
    have hx : (bldP_ s).2.e = 0 → refB s = (bldP_ s).1 := refB_ok
    have k6 : Stands b b6 (bldP_ s).2 := k6
    have P3 := P.rd k6
    show vcSeq _ _ _ _ _ _ (rfO p b b6 (bldP_ s).2 S')
    generalize rfO p b b6 (bldP_ s).2 S' = S3 at P3 ⊢
    refine ⟨by decide, ?_⟩
    refine appRows (ie := ti66) rfl bldC_len (by decide) P3.rB (refB s) rfl (by omega) (fun bb cap L r1 r2 r3 r4 => ?_)
    have P4 := P3.appB r1 r2 r3 r4
    refine in64 (by omega) ?_
    refine ⟨(i + 1, _, b6, (bldP_ s).2, _, l ++ [refB s], k, l' ++ [(bldP_ s).1]), ?_, ⟨rfl, P4, hg, fun he => ⟨?_, ?_⟩, ?_, ?_⟩, ⟨LV.le_refl _, LV.le_refl _, LV.le_refl _, LV.le_refl _, LV.le_refl _, LV.le_refl _, trivial⟩, ⟨rfl, rfl, trivial⟩⟩
    · show n.toNat - (i + 1) < n.toNat - i
      omega
    · dsimp only
      rw [q1, hx he]
    · dsimp only
      omega
    · dsimp only
      rw [List.length_append, hll]; rfl
    · dsimp only
      omega
  rintro ⟨S8, a8, vB, lB⟩ S8' ⟨rfl, P8, hlB⟩
  dsimp only at P8 hlB ⊢
  clear eB hnv hn0 hnb P7
  have eU : Rd.repGo untP_ (cB.2.num 0 4096).1.toNat (cB.2.num 0 4096).2 [] = cntP 4096 untP_ cB.2 := rfl
  have eUe : (cntP 4096 untP_ cB.2).2.e = 0 → cB.2.e = 0 := cU_e
  generalize cntP 4096 untP_ cB.2 = cU at *
  refine AWp.seq (AWp.of_vc infoOK ?_)
  refine onRf P8.hp (rnum_spec p a8 b cB.2 _ 0 4096 P8.hs hb _ (fun a9 hs9 => ?_))
  have P9 := P8.rd hs9
  generalize rfO p b a9 (cB.2.num 0 4096).2 _ = S9 at P9 ⊢
  clear P8 hs9
  have hnb := numR_bd cB.2 0 4096
  have hnv : (cB.2.num 0 4096).2.e = 0 → cB.2.numR 0 4096 = (cB.2.num 0 4096).1 := numR_ok
  have hn0 := num_I64 cB.2 0 4096
  generalize cB.2.numR 0 4096 = n at hnb hnv ⊢
  generalize (cB.2.num 0 4096).1 = m9 at *
  generalize (cB.2.num 0 4096).2 = s9 at *
  refine AWp.meetA (σ := Store × Nat × AV × List Unt) ⟨fun _ => [(0, .av (byts b)), (2, .bx 2 0), (4, .av (ptr p)), (5, .bx 5 0)], fun x => [(2, z6 ++ [nil, nil]), (5, [int t1, int t2, int t3, int g.W, int g.H, byts g.T, vB, x.2.2.1])],
    fun x S => S = x.1 ∧ PRf x.1 p b x.2.1 cU.2 vB lB x.2.2.1 x.2.2.2 ∧ (cU.2.e = 0 → x.2.2.2 = cU.1)⟩ ?_ ?_
  · refine AWp.seq (AWp.of_vc infoOK ?_)
    refine AWp.of_vc infoOK ?_
    refine AWp.loop (σ := Nat × Store × Nat × Rd × AV × List Unt × Nat × List Unt) ⟨fun x => [(0, .av (byts b)), (2, .bx 2 0), (4, .av (ptr p)), (5, .bx 5 0), (6, .av (int n)), (9, .av (int (x.1 : Nat)))], fun x => [(2, z6 ++ [nil, nil]), (5, [int t1, int t2, int t3, int g.W, int g.H, byts g.T, vB, x.2.2.2.2.1])],
      fun x S => S = x.2.1 ∧ PRf x.2.1 p b x.2.2.1 x.2.2.2.1 vB lB x.2.2.2.2.1 x.2.2.2.2.2.1 ∧ Rd.repGo untP_ x.2.2.2.2.2.2.1 x.2.2.2.1 x.2.2.2.2.2.2.2 = cU ∧ (x.2.2.2.1.e = 0 → x.2.2.2.2.2.2.2 = x.2.2.2.2.2.1 ∧ n = (x.2.2.2.2.2.2.1 : Int) + x.1) ∧ x.2.2.2.2.2.1.length = x.1 ∧ x.1 ≤ 4096, fun x => n.toNat - x.1⟩ infoOK ?_ ?_
    · refine ⟨(0, S9, a9, s9, nil, [], m9.toNat, []), trivial, ⟨rfl, P9, eU, fun he => ⟨rfl, ?_⟩, rfl, Nat.zero_le _⟩, ⟨LV.le_refl _, LV.le_refl _, LV.le_refl _, LV.le_refl _, LV.le_refl _, LV.le_refl _, trivial⟩, ⟨rfl, rfl, trivial⟩⟩
      have := hnv he
      dsimp only
      omega
    rintro ⟨i, S, a, s, vU, l, k, l'⟩ S' ⟨rfl, P, hg, heq, hll, hi⟩
    dsimp only at P hg heq hll hi ⊢
    have stop : (¬ (i : Int) < n ∨ s.e ≠ 0) → cU.2 = s ∧ (cU.2.e = 0 → l = cU.1) := fun hh => by
      by_cases he : s.e = 0
      · obtain ⟨q1, q2⟩ := heq he
        have hk : k = 0 := by
          rcases hh with hh | hh
          · omega
          · exact absurd he hh
        subst hk
        rw [← hg]
        exact ⟨rfl, fun _ => q1.symm⟩
      · rw [repGo_bad he] at hg
        rw [← hg]
        exact ⟨rfl, fun h2 => absurd h2 he⟩
    refine bcd (fun c1 => ?_) (fun c1 => ?_)
    rotate_left
    · obtain ⟨q1, q2⟩ := stop (.inl c1)
      rw [← q1] at P
      exact ⟨(_, a, vU, l), ⟨rfl, P, q2⟩, ⟨LV.le_refl _, LV.le_refl _, LV.le_refl _, LV.le_refl _, trivial⟩, ⟨rfl, rfl, trivial⟩⟩
    refine optK_intro _ P.hp ?_
    refine bceq (fun c2 => ?_) (fun c2 => ?_)
    rotate_left
    · obtain ⟨q1, q2⟩ := stop (.inr c2)
      rw [← q1] at P
      exact ⟨(_, a, vU, l), ⟨rfl, P, q2⟩, ⟨LV.le_refl _, LV.le_refl _, LV.le_refl _, LV.le_refl _, trivial⟩, ⟨rfl, rfl, trivial⟩⟩
    obtain ⟨q1, q2⟩ := heq c2
    obtain ⟨k, rfl⟩ : ∃ j : Nat, k = j + 1 := ⟨k - 1, by omega⟩
    rw [repGo_ok c2] at hg
    refine onRf P.hp (r26num_spec p a b s S' P.hs hb _ (fun b1 k1 => ?_))
    refine r26num_spec p b1 b _ _ k1 hb _ (fun b2 k2 => ?_)
    refine r26num_spec p b2 b _ _ k2 hb _ (fun b3 k3 => ?_)
    refine rint_spec p b3 b _ _ (-4611686018427387904) 4611686018427387904 k3 hb _ (fun b4 k4 => ?_)
    rw [int_top] at k4 ⊢
    refine rint_spec p b4 b _ _ (-4611686018427387904) 4611686018427387904 k4 hb _ (fun b5 k5 => ?_)
    rw [int_top] at k5 ⊢
    refine r26num_spec p b5 b _ _ k5 hb _ (fun b6 k6 => ?_)
    have v6 := nR_bd (signedP (signedP (anyP (anyP (anyP s).2).2).2).2).2
    refine in64 (by unfold nR at v6; omega) ?_
    refine r26num_spec p b6 b _ _ k6 hb _ (fun b7 k7 => ?_)
    have v7 := nR_bd (anyP (signedP (signedP (anyP (anyP (anyP s).2).2).2).2).2).2
    refine in64 (by unfold nR at v7; omega) ?_
    refine r26num_spec p b7 b _ _ k7 hb _ (fun b8 k8 => ?_)
    refine r26num_spec p b8 b _ _ k8 hb _ (fun b9 k9 => ?_)
    refine r26num_spec p b9 b _ _ k9 hb _ (fun b10 k10 => ?_)
    have hx : (untP_ s).2.e = 0 → refU s = (untP_ s).1 := refU_ok
    have k10 : Stands b b10 (untP_ s).2 := k10
    have P3 := P.rd k10
    show vcSeq _ _ _ _ _ _ (rfO p b b10 (untP_ s).2 S')
    generalize rfO p b b10 (untP_ s).2 S' = S3 at P3 ⊢
    refine ⟨by decide, ?_⟩
    refine appRows (ie := ti70) rfl untC_len (by decide) P3.rU (refU s) rfl (by omega) (fun bb cap L r1 r2 r3 r4 => ?_)
    have P4 := P3.appU r1 r2 r3 r4
    refine in64 (by omega) ?_
    refine ⟨(i + 1, _, b10, (untP_ s).2, _, l ++ [refU s], k, l' ++ [(untP_ s).1]), ?_, ⟨rfl, P4, hg, fun he => ⟨?_, ?_⟩, ?_, ?_⟩, ⟨LV.le_refl _, LV.le_refl _, LV.le_refl _, LV.le_refl _, LV.le_refl _, LV.le_refl _, trivial⟩, ⟨rfl, rfl, trivial⟩⟩
    · show n.toNat - (i + 1) < n.toNat - i
      omega
    · dsimp only
      rw [q1, hx he]
    · dsimp only
      omega
    · dsimp only
      rw [List.length_append, hll]; rfl
    · dsimp only
      omega
  rintro ⟨SA, aA, vU, lU⟩ SA' ⟨rfl, PA, hlU⟩
  dsimp only at PA hlU ⊢
  clear eU hnv hn0 hnb P9
  have hE : imgE b = ((cU.2.same (eightL (fnvSum fnvStart (b.take aA)))).fin).e := by
    unfold imgE
    rw [eS]
    by_cases he : cU.2.e = 0
    · rw [PA.hs.at he]
    · rw [same_stick _ he, same_stick _ he]
  refine AWp.seq (AWp.of_vc infoOK ?_)
  refine onRf PA.hp (rsum_spec p aA b cU.2 _ PA.hs hb _ (fun aG hsG => ?_))
  have hsame : (cU.2.same (eightL (fnvSum fnvStart (b.take aA)))).e = 0 → cU.2.e = 0 := fun h => (same_put _ _ h).1
  have PB := PA.rd hsG
  generalize rfO p b aG (cU.2.same (eightL (fnvSum fnvStart (b.take aA)))) _ = SB at PB ⊢
  generalize cU.2.same (eightL (fnvSum fnvStart (b.take aA))) = sG at *
  clear PA hsG
  have hall : sG.e = 0 → imgW b = ⟨t1, t2, t3, g, lB, lU⟩ := fun h => by
    have h1 := hsame h
    have h2 := eUe h1
    have h3 := eBe h2
    obtain ⟨y1, y2, y3, y4⟩ := hval h3
    rw [eW, y1, y2, y3, y4, hlB h2, hlU h1]
  have hfin0 : sG.e ≠ 0 → imgE b = sG.e := fun h => by rw [hE, fin_stick h]
  have hfin1 : sG.e = 0 → aG ≠ b.length → imgE b = 1 := fun h h2 => by
    have h3 := PB.hs.2 h
    have h4 : (sG.b.length == 0) = false := by
      rw [h3, List.length_drop]
      have := PB.hs.1
      simp; omega
    rw [hE]
    unfold Rd.fin Rd.must Rd.fail
    rw [h4, h]; rfl
  have hfin2 : sG.e = 0 → aG = b.length → imgE b = 0 := fun h h2 => by
    have h3 := PB.hs.2 h
    have h4 : (sG.b.length == 0) = true := by
      rw [h3, List.length_drop, h2]
      simp
    rw [hE]
    unfold Rd.fin Rd.must
    rw [h4]; exact h
  refine AWp.meetA (σ := Store × Rd) ⟨fun _ => [(2, .bx 2 0), (4, .av (ptr p)), (5, .bx 5 0)], fun _ => [(2, z6 ++ [nil, nil]), (5, [int t1, int t2, int t3, int g.W, int g.H, byts g.T, vB, vU])], fun x S => S = x.1 ∧ x.1.obj p = some (.cells [byts b, int aG, int x.2.e]) ∧ RowsO 6 bldC x.1 vB lB ∧ RowsO 10 untC x.1 vU lU ∧
    ((imgE b ≠ 0 ∧ x.2.e = imgE b) ∨ (imgE b = 0 ∧ ¬ mayP (imgW b) ∧ x.2.e = 1) ∨ (imgE b = 0 ∧ mayP (imgW b) ∧ x.2.e = 0 ∧ sG.e = 0))⟩ ?_ ?_
  · refine AWp.of_vc infoOK ?_
    refine optK_intro _ PB.hp ?_
    refine bceq (fun c1 => ?_) (fun c1 => ?_)
    rotate_left
    · exact ⟨(SB, sG), ⟨rfl, PB.hp, PB.rB, PB.rU, .inl ⟨by rw [hfin0 c1]; exact c1, (hfin0 c1).symm⟩⟩, ⟨LV.le_refl _, LV.le_refl _, LV.le_refl _, trivial⟩, ⟨rfl, rfl, trivial⟩⟩
    refine optK_intro _ PB.hp ?_
    refine bcne (fun c2 => ?_) (fun c2 => ?_)
    · have e1 := hfin1 c1 (fun e => c2 (by rw [rws_len, e]))
      refine storeK_obj (i := ti3) (v := int 1) (b := p) (o := 2) (l := [byts b, int aG, int sG.e]) rfl rfl rfl PB.hp (by simp) ?_
      exact ⟨(_, ⟨[], 1⟩), ⟨rfl, setObj_self _ _ _, PB.rB.other PB.nB _, PB.rU.other PB.nU _, .inl ⟨by rw [e1]; decide, e1.symm⟩⟩, ⟨LV.le_refl _, LV.le_refl _, LV.le_refl _, trivial⟩, ⟨rfl, rfl, trivial⟩⟩
    have e1 := hfin2 c1 (by rw [rws_len] at c2; omega)
    have hW := hall c1
    refine ACalls.le (ys := [.agg (wldVV (imgW b) vB vU)]) ⟨by rw [hW]; exact AV.le_refl _, trivial⟩ ?_
    have rB := PB.rB
    have rU := PB.rU
    have eB2 : lB = (imgW b).B := by rw [hW]
    have eU2 : lU = (imgW b).U := by rw [hW]
    rw [eB2] at rB
    rw [eU2] at rU
    refine rmayVV_spec rB rU (img_fits e1) (img_pos b) _ (yesno (fun hm => ?_) (fun hm => ?_))
    · exact ⟨(SB, sG), ⟨rfl, PB.hp, PB.rB, PB.rU, .inr (.inr ⟨e1, hm, c1, c1⟩)⟩, ⟨LV.le_refl _, LV.le_refl _, LV.le_refl _, trivial⟩, ⟨rfl, rfl, trivial⟩⟩
    · refine storeK_obj (i := ti3) (v := int 1) (b := p) (o := 2) (l := [byts b, int aG, int sG.e]) rfl rfl rfl PB.hp (by simp) ?_
      exact ⟨(_, ⟨[], 1⟩), ⟨rfl, setObj_self _ _ _, PB.rB.other PB.nB _, PB.rU.other PB.nU _, .inr (.inl ⟨e1, hm, rfl⟩)⟩, ⟨LV.le_refl _, LV.le_refl _, LV.le_refl _, trivial⟩, ⟨rfl, rfl, trivial⟩⟩
  rintro ⟨SD, t⟩ SD' ⟨rfl, hpo, rB, rU, hcase⟩
  dsimp only at hpo rB rU hcase ⊢
  refine AWp.seq (AWp.of_vc infoOK ?_)
  refine optK_intro _ hpo ?_
  refine bcne (fun c1 => ?_) (fun c1 => ?_)
  · refine ADraw.of_sched infoOK (by rfl) (by rfl) sch12_38 (by rfl) ?_
    refine optK_intro (o := SD'.obj p) _ hpo ?_
    refine ⟨⟨⟨optK_intro (o := SD'.obj p) _ hpo rfl, trivial⟩, ?_⟩, trivial⟩
    refine ⟨⟨trivial, ?_⟩, trivial⟩
    rcases hcase with ⟨g1, g2⟩ | ⟨g1, g2, g3⟩ | ⟨g1, g2, g3, _⟩
    · exact ret (fin _ _ (.inl ⟨g1, by rw [g2]; rfl⟩))
    · exact ret (fin _ _ (.inr (.inl ⟨g1, g2, by rw [g3]; rfl⟩)))
    · exact absurd g3 c1
  · refine AWp.of_vc infoOK ?_
    have o2 := (rows_some rB).2
    have o3 := (rows_some rU).2
    have oall : ([int t1, int t2, int t3, int g.W, int g.H, byts g.T, vB, vU]).all AV.one = true := by
      show (true && (true && (true && (true && (true && (true && (vB.one && (vU.one && true)))))))) = true
      rw [o2, o3]; rfl
    refine storeK_boxL (i := ti30) (xs := [int t1, int t2, int t3, int g.W, int g.H, byts g.T, vB, vU]) (l := z6 ++ [nil, nil]) (b := 2) (o := 0) (v := .agg [int t1, int t2, int t3, int g.W, int g.H, byts g.T, vB, vU]) rfl oall rfl (by rfl) (by show 0 + 8 ≤ 8; decide) ?_
    rcases hcase with ⟨g1, g2⟩ | ⟨g1, g2, g3⟩ | ⟨g1, g2, g3, g4⟩
    · exact absurd (g2.symm.trans c1) g1
    · rw [g3] at c1; cases c1
    · have hW := hall g4
      refine ret (fin _ _ (.inr (.inr ⟨g1, g2, vB, vU, by rw [hW]; exact rB, by rw [hW]; exact rU, by rw [hW]; rfl⟩)))
end Go.Proofs
