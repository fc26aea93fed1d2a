/- The ground on which laws of thronglaw16 are proved: contracts of functions and plain lemmas; no condition beyond the row's own. -/
import Derived.Test.YtlhjkalolohipaaVC
import Derived.Test.YtlhjkalolohipaaVD
import Derived.Test.YtlhjkalolohipaaSA
import Derived.Test.YtlhjkalolohipaaVE
import Derived.Test.YtlhjkalolohipaaSB
namespace Go.Proofs
open Go Go.V
set_option linter.unusedVariables false
def sch4_13 : V.Sched := (sv [0, 1, 2, 4, 5, 6] (.e 3 [6] (.e 7 [] (sv [8] .done) .stop) .stop))
def sch4_27 : V.Sched := (sv [0, 2, 3, 4, 5, 6] (.e 1 [5, 6] (sv [7] .done) .stop))
def sch6_3 : V.Sched := (sv [0, 1, 2, 3, 4, 6] (.e 5 [] (.e 7 [] (sv [8, 9, 10] (.e 11 [] (.e 12 [] .done .stop) .stop)) .stop) .stop))
def sch6_4 : V.Sched := (sv [0, 1, 2, 3, 4, 5, 6, 7, 8, 9, 11, 12] (.e 10 [3, 4] (.e 13 [3, 4, 8, 9] (.e 14 [3, 4] (.e 15 [] .done .stop) .stop) .stop) (.e 13 [3, 4, 8, 9] (.e 10 [3, 4] (.e 14 [3, 4] (.e 15 [] .done .stop) .stop) .stop) .stop)))
def sch6_5 : V.Sched := (sv [0, 1, 2, 3, 4, 5] (.e 6 [] .done .stop))
def sch7_4 : V.Sched := (sv [0, 1, 2, 4, 5, 6] (.e 3 [5, 6] (.e 7 [] (sv [8] (.e 9 [] (.e 10 [0, 1, 2, 4, 5, 6, 8] (.e 11 [] .done .stop) .stop) (.e 10 [0, 1, 2, 4, 5, 6, 8] (.e 9 [] (.e 11 [] .done .stop) .stop) .stop))) (.e 10 [0, 1, 2, 4, 5, 6] (.e 7 [] (sv [8] (.e 9 [] (.e 11 [] .done .stop) .stop)) .stop) .stop)) (.e 10 [0, 1, 2, 4, 5, 6] (.e 3 [5, 6] (.e 7 [] (sv [8] (.e 9 [] (.e 11 [] .done .stop) .stop)) .stop) .stop) .stop)))
def sch7_5 : V.Sched := (sv [0, 1, 2, 4, 5, 6] (.e 3 [5, 6] (.e 7 [] (sv [8] (.e 9 [] (.e 10 [0, 1, 2, 4, 5, 6, 8] (.e 11 [] .done .stop) .stop) (.e 10 [0, 1, 2, 4, 5, 6, 8] (.e 9 [] (.e 11 [] .done .stop) .stop) .stop))) (.e 10 [0, 1, 2, 4, 5, 6] (.e 7 [] (sv [8] (.e 9 [] (.e 11 [] .done .stop) .stop)) .stop) .stop)) (.e 10 [0, 1, 2, 4, 5, 6] (.e 3 [5, 6] (.e 7 [] (sv [8] (.e 9 [] (.e 11 [] .done .stop) .stop)) .stop) .stop) .stop)))
def sch11_5 : V.Sched := (sv [0, 1, 2, 3, 4] (.e 5 [] (.e 6 [] .done .stop) .stop))
def sch11_9 : V.Sched := (sv [0, 1, 2, 3, 4] (.e 5 [] .done .stop))
def sch11_10 : V.Sched := (sv [0, 1, 2, 3, 4, 5] (.e 6 [] .done .stop))
def sch12_4 : V.Sched := (sv [0, 1, 2, 3, 4, 5, 7, 8, 9, 10, 11, 12] (.e 6 [10] (.e 13 [] (.e 14 [] (.e 15 [] .done .stop) .stop) .stop) .stop))
def sch15_6 : V.Sched := (sv [0, 1, 2, 3, 4, 5, 6, 7, 8] .done)
def sch16_5 : V.Sched := (sv [0, 1, 2, 3, 4, 5, 6, 7, 8] (.e 9 [] .done .stop))
def sch18_5 : V.Sched := (sv [0, 1, 2, 3, 4, 5, 7, 8, 10, 11, 12, 13, 14, 15, 17, 18] (.e 6 [13, 17] (.e 9 [13, 17] (.e 16 [17] (.e 19 [] (.e 20 [] (.e 21 [] .done .stop) .stop) .stop) .stop) .stop) .stop))
def sch19_1 : V.Sched := (sv [0, 1, 3, 4] (.e 2 [4] (.e 5 [] (sv [6] (.e 7 [] .done .stop)) .stop) .stop))
def sch21_11 : V.Sched := (sv [0, 1, 2, 3, 4, 5, 6, 7] (.e 8 [] .done .stop))
def sch21_15 : V.Sched := (sv [0, 1, 2, 3, 4, 5, 6, 7] (.e 8 [] .done .stop))
def sch22_0 : V.Sched := (sv [0, 1, 2, 3, 4, 5, 7] (.e 6 [0, 7] (.e 8 [] .done .stop) .stop))
def sch27_5 : V.Sched := (sv [0, 1, 2, 3, 4, 5] (.e 6 [] (.e 7 [] .done .stop) .stop))
def sch38_1 : V.Sched := (sv [0, 1, 2, 3, 5, 6, 7, 8] (.e 4 [6, 8] (.e 9 [] (sv [10] (.e 11 [] .done .stop)) .stop) .stop))
def sch43_17 : V.Sched := (sv [0, 1, 2, 3, 4, 5, 6, 7, 8, 9, 10, 11] (.e 12 [] (sv [13, 14] .done) .stop))
def sch47_1 : V.Sched := (sv [0, 1, 4, 5] (.e 2 [5] (.e 3 [5] (.e 6 [] (.e 7 [] (.e 8 [] (.e 9 [] .done .stop) .stop) .stop) .stop) .stop) .stop))
def sch48_1 : V.Sched := (sv [0, 1, 2, 3, 5, 6, 7, 8] (.e 4 [6, 8] (.e 9 [] (sv [10] (.e 11 [] .done .stop)) .stop) .stop))
def sch55_4 : V.Sched := (sv [0, 1, 2, 3, 4, 5, 6, 7, 8, 9, 10, 11, 12] (.e 13 [] (sv [14] .done) .stop))
def sch55_6 : V.Sched := (sv [0, 1, 2, 3, 4, 5, 6, 7, 8, 9, 10, 11, 12, 13, 14] (.e 15 [] (sv [16] (.e 17 [] .done .stop)) .stop))
def sch56_10 : V.Sched := (sv [0, 1, 2, 3, 4, 5, 6, 7, 8, 9, 10, 11, 12, 13, 14, 15, 16] (.e 17 [] (sv [18] (.e 19 [] .done .stop)) .stop))
def sch57_10 : V.Sched := (sv [0, 1, 2, 3, 4, 5, 6, 7, 8, 9, 10, 11, 12, 13, 14, 15, 16] (.e 17 [] (sv [18] (.e 19 [] .done .stop)) .stop))
def sch59_3 : V.Sched := (sv [0, 1, 2, 3, 4, 5, 6, 7, 8, 9, 10, 11, 12] (.e 13 [] (sv [14] (.e 15 [] .done .stop)) .stop))
def sch60_5 : V.Sched := (sv [0, 1, 2, 3, 4, 5, 6, 7, 8, 9, 10, 11, 12] (.e 13 [] (sv [14, 15] .done) .stop))
def sch60_11 : V.Sched := (sv [0, 1, 2, 3, 4, 5, 6, 7, 8, 9, 10, 11, 12, 13, 14] (.e 15 [] (sv [16] (.e 17 [] .done .stop)) .stop))
def sch60_16 : V.Sched := (sv [0, 1, 2, 3, 4, 5, 6, 7, 8] (.e 9 [] (sv [10] .done) .stop))
def sch60_17 : V.Sched := (sv [0, 1, 2, 3, 4, 5, 6, 7, 8, 9, 10, 11, 12, 13, 14] (.e 15 [] (sv [16] (.e 17 [] .done .stop)) .stop))
def sch60_22 : V.Sched := (sv [0, 1, 2, 3, 4, 5, 6, 7, 8] (.e 9 [] (sv [10] .done) .stop))
def sch60_23 : V.Sched := (sv [0, 1, 2, 3, 4, 5, 6, 7, 8, 9, 10, 11, 12, 13, 14] (.e 15 [] (sv [16] (.e 17 [] .done .stop)) .stop))
def sch61_1 : V.Sched := (sv [0, 1, 2, 3, 4, 5, 6, 7, 8, 9, 10, 11, 12] (.e 13 [] (sv [14] (.e 15 [] .done .stop)) .stop))
def sch61_3 : V.Sched := (sv [0, 1, 2, 3, 4, 5, 6, 7, 8, 9, 10, 11] (.e 12 [] (sv [13, 14] .done) .stop))
def sch61_5 : V.Sched := (sv [0, 1, 2, 3, 4, 5, 6, 7, 8, 9, 10, 11] (.e 12 [] (sv [13] .done) .stop))
def sch61_8 : V.Sched := (sv [0, 1, 2, 3, 4, 5, 6, 7, 8, 9, 10, 11, 12] (.e 13 [] (sv [14] (.e 15 [] .done .stop)) .stop))
def sch62_1 : V.Sched := (sv [0, 1, 2, 3, 4, 5, 6, 7, 8, 9, 10, 11, 12] (.e 13 [] (sv [14] (.e 15 [] .done .stop)) .stop))
def sch62_3 : V.Sched := (sv [0, 1, 2, 3, 4, 5, 6, 7, 8, 9, 10, 11] (.e 12 [] (sv [13] .done) .stop))
def sch62_5 : V.Sched := (sv [0, 1, 2, 3, 4, 5, 6, 7, 8, 9, 10, 11] (.e 12 [] (sv [13, 14] .done) .stop))
def sch62_8 : V.Sched := (sv [0, 1, 2, 3, 4, 5, 6, 7, 8, 9, 10, 11, 12] (.e 13 [] (sv [14] (.e 15 [] .done .stop)) .stop))
def sch62_10 : V.Sched := (sv [0, 1, 2, 3, 4, 5, 6, 7, 8, 9, 10, 11, 12] (.e 13 [] (sv [14] (.e 15 [] .done .stop)) .stop))
def sch62_13 : V.Sched := (sv [0, 1, 2, 3, 4, 5, 6, 7, 8, 9, 10, 11] (.e 12 [] (sv [13] .done) .stop))
def sch62_15 : V.Sched := (sv [0, 1, 2, 3, 4, 5, 6, 7, 8, 9, 10, 11] (.e 12 [] (sv [13, 14] .done) .stop))
def sch62_18 : V.Sched := (sv [0, 1, 2, 3, 4, 5, 6, 7, 8, 9, 10, 11, 12] (.e 13 [] (sv [14] (.e 15 [] .done .stop)) .stop))
def sch62_21 : V.Sched := (sv [0, 1, 2, 3, 4, 5, 6, 7, 8, 9, 10, 11, 12] (.e 13 [] (sv [14] (.e 15 [] .done .stop)) .stop))
def sch68_3 : V.Sched := (sv [0, 1, 2, 3, 4, 5, 6, 7, 8, 9, 10, 11, 12] (.e 13 [] (sv [14] (.e 15 [] .done .stop)) .stop))
def sch70_3 : V.Sched := (sv [0, 1, 2, 3, 4, 5, 6, 7, 8, 9, 10, 11, 12, 13, 14, 15, 16, 17] (.e 18 [] (sv [19] .done) .stop))
def sch70_5 : V.Sched := (sv [0, 1, 2, 3, 4, 5, 6, 7, 8, 9, 10, 11] (.e 12 [] (sv [13] .done) .stop))
def sch70_6 : V.Sched := (sv [0, 1, 2, 3, 4, 5, 6, 7, 8, 9, 10, 11, 12, 13, 14, 15, 16, 17, 18, 19, 20] (.e 21 [] (sv [22] (.e 23 [] .done .stop)) .stop))
def sch72_1 : V.Sched := (sv [0, 1, 2, 3, 4, 5, 6, 7, 8] (.e 9 [] .done .stop))
def sch72_2 : V.Sched := (sv [0, 1, 2, 3, 4, 5, 6, 7, 8] (.e 9 [] .done .stop))
def sch72_3 : V.Sched := (sv [0, 1, 2, 3, 4, 5, 6, 7, 8] (.e 9 [] .done .stop))
def sch77_1 : V.Sched := (sv [0, 1, 2, 3, 4, 5, 6, 7] (.e 8 [] .done .stop))
end Go.Proofs
namespace Go.Proofs
open Go Go.V
set_option linter.unusedVariables false

theorem infoOK : InfoOK Try.prog infoTree.get := Tr.ok _ infoTree_ok
def cfg (n : Nat) (G : List Nat := []) (W : List Nat := []) : Cfg := { n := n, I := infoTree.get, G := G, W := W }
end Go.Proofs
namespace Go.Proofs
open Go Go.V
set_option linter.unusedVariables false

theorem norm_spec (n : Int) (st : Store) (R : AV → Store → Prop) (h : R (int (nrm n)) st) : ACalls Try.prog 42 [int n] st R := by
  refine ACalls.of_body (c := cfg 5) infoOK Try.func42 (by rfl) (by rfl) (by rfl) (by rfl) ?_
  rw [← nrm_eq] at h
  exact ret h

theorem neg_spec (n : Int) (hn : InI64 n) (st : Store) (R : AV → Store → Prop) (h : R (int (-nrm n)) st) : ACalls Try.prog 41 [int n] st R := by
  refine ACalls.of_body (c := cfg 6) infoOK Try.func41 (by rfl) (by rfl) (by rfl) (by rfl) ?_
  refine norm_spec n _ _ ?_
  have := nrm_b hn
  refine ⟨⟨by omega, by omega⟩, ?_⟩
  rw [show -nrm n = 0 - nrm n by omega] at h
  exact ret h

theorem add_spec (a b : Int) (ha : InI64 a) (hb : InI64 b) (st : Store) (R : AV → Store → Prop) (h : R (int (fadd a b)) st) : ACalls Try.prog 25 [int a, int b] st R := by
  refine ACalls.of_body (c := cfg 30) infoOK Try.func25 (by rfl) (by rfl) (by rfl) (by rfl) ?_
  refine norm_spec a _ _ ?_
  refine norm_spec b _ _ ?_
  have h1 := nrm_b ha
  have h2 := nrm_b hb
  unfold fadd at h
  generalize nrm a = x at *
  generalize nrm b = y at *
  have k1 : x + y > 9223372036854775807 → R (int 9223372036854775807) st := fun hh => by rw [show clamp (x + y) = 9223372036854775807 by unfold clamp; simp [hh]] at h; exact h
  have k2 : x + y < -9223372036854775807 → R (int (-9223372036854775807)) st := fun hh => by rw [show clamp (x + y) = -9223372036854775807 by unfold clamp; rw [if_neg (by omega), if_pos hh]] at h; exact h
  have k3 : ¬ x + y > 9223372036854775807 → ¬ x + y < -9223372036854775807 → InI64 (x + y) ∧ R (int (x + y)) st := fun hh hh' => ⟨⟨by omega, by omega⟩, by rw [show clamp (x + y) = x + y by unfold clamp; rw [if_neg hh, if_neg hh']] at h; exact h⟩
  have fin : ¬ x + y > 9223372036854775807 → ¬ x + y < -9223372036854775807 → InI64 (x + y) ∧ ∃ r st', AV.le (int (x + y)) r ∧ st.Has st' ∧ R r st' := fun hh hh' => ⟨(k3 hh hh').1, ret (k3 hh hh').2⟩
  have e : Int.negSucc 9223372036854775806 = -9223372036854775807 := rfl
  refine bcd (fun c1 => ?_) (fun c1 => ?_)
  · refine ⟨⟨by omega, by omega⟩, ?_⟩
    refine bcd (fun c2 => ?_) (fun c2 => ?_)
    · exact ret (k1 (by omega))
    · refine bcd (fun c3 => ?_) (fun c3 => ?_)
      · omega
      · exact fin (by omega) (by omega)
  · refine bcd (fun c3 => ?_) (fun c3 => ?_)
    · refine ⟨⟨by omega, by omega⟩, ?_⟩
      refine bcd (fun c4 => ?_) (fun c4 => ?_)
      · exact ret (k2 (by omega))
      · exact fin (by omega) (by omega)
    · exact fin (by omega) (by omega)

theorem sub_spec (a b : Int) (ha : InI64 a) (hb : InI64 b) (st : Store) (R : AV → Store → Prop) (h : R (int (fsub a b)) st) : ACalls Try.prog 24 [int a, int b] st R := by
  refine ACalls.of_body (c := cfg 9) infoOK Try.func24 (by rfl) (by rfl) (by rfl) (by rfl) ?_
  refine neg_spec b hb _ _ ?_
  have h2 := nrm_b hb
  exact add_spec a (-nrm b) ha ⟨by omega, by omega⟩ _ _ (ret h)

theorem abs_spec (n : Int) (hn : InI64 n) (st : Store) (R : AV → Store → Prop) (h : R (.tup [u64 (asz n), bool (decide (nrm n < 0))]) st) : ACalls Try.prog 52 [int n] st R := by
  refine ACalls.of_body (c := cfg 13) infoOK Try.func52 (by rfl) (by rfl) (by rfl) (by rfl) ?_
  refine norm_spec n _ _ ?_
  have h1 := nrm_b hn
  unfold asz at h
  generalize nrm n = x at *
  refine bcd (fun c1 => ?_) (fun c1 => ?_)
  · refine ⟨⟨by omega, by omega⟩, ?_⟩
    rw [if_pos c1, show decide (x < 0) = true by simp [c1]] at h
    rw [← wrap_u64 (v := -x) (by omega) (by omega), show -x = 0 - x by omega] at h
    exact ret h
  · rw [if_neg c1, show decide (x < 0) = false by simp [c1]] at h
    rw [← wrap_u64 (v := x) (by omega) (by omega)] at h
    exact ret h

set_option maxHeartbeats 1000000 in
theorem mul64_spec (x y : Int) (hx : 0 ≤ x) (hx2 : x < 18446744073709551616) (hy : 0 ≤ y) (hy2 : y < 18446744073709551616) (st : Store) (R : AV → Store → Prop) (h : R (.tup (wideC (x * y))) st) :
    ACalls Try.prog 54 [u64 x, u64 y] st R := by
  refine ACalls.of_body (c := cfg 51) infoOK Try.func54 (by rfl) (by rfl) (by rfl) (by rfl) ?_
  refine ⟨by decide, ?_⟩
  refine ⟨by decide, ?_⟩
  refine ⟨by decide, ?_⟩
  refine ⟨by decide, ?_⟩
  refine ⟨by decide, ?_⟩
  refine ret ((congrArg (fun l => R (.tup l) st) ?_).mpr h)
  obtain ⟨p00, p10, p01, p11, e1, e2, e3, e4, e5, b⟩ := times_parts x y hx hx2 hy hy2
  simp only [shr32, and32 hx, and32 hy, wrap_u64', ← e1, ← e2, ← e3, ← e4]
  rw [and32 (Int.emod_nonneg _ (by decide))]
  unfold wideC u64
  refine congr (congrArg _ ?_) rfl
  refine congrArg (fun n => AV.s (.int .u64 n)) ?_
  omega

set_option maxHeartbeats 1000000 in
theorem times_spec (x y : Int) (hx : 0 ≤ x) (hx2 : x < 18446744073709551616) (hy : 0 ≤ y) (hy2 : y < 18446744073709551616) (st : Store) (R : AV → Store → Prop) (h : R (.agg (wideC (x * y))) st) :
    ACalls Try.prog 49 [u64 x, u64 y] st R := by
  refine ACalls.of_body (c := cfg 46) infoOK Try.func49 (by rfl) (by rfl) (by rfl) (by rfl) ?_
  refine ⟨by decide, ?_⟩
  refine ⟨by decide, ?_⟩
  refine ⟨by decide, ?_⟩
  refine ⟨by decide, ?_⟩
  refine ⟨by decide, ?_⟩
  refine ⟨by decide, ?_⟩
  refine ⟨by decide, ?_⟩
  refine ⟨by decide, ?_⟩
  refine ret ((congrArg (fun l => R (.agg l) st) ?_).mpr h)
  obtain ⟨p00, p10, p01, p11, e1, e2, e3, e4, e5, b⟩ := times_parts x y hx hx2 hy hy2
  simp only [pow32, fdiv32, and32 hx, and32 hy, wrap_u64', ← e1, ← e2, ← e3, ← e4]
  simp only [and32 (Int.emod_nonneg _ (show (18446744073709551616 : Int) ≠ 0 by decide))]
  rw [or32 (Int.emod_nonneg _ (by decide)) (Int.emod_nonneg _ (by decide)) (by omega)]
  refine wide_eq ?_ ?_
  · omega
  · omega

theorem fsquare_spec (x : Int) (hx : 0 ≤ x) (hx2 : x < 18446744073709551616) (st : Store) (R : AV → Store → Prop) (h : R (.agg (wideC (x * x))) st) : ACalls Try.prog 40 [u64 x] st R := by
  refine ACalls.of_body (c := cfg 14) infoOK Try.func40 (by rfl) (by rfl) (by rfl) (by rfl) ?_
  exact mul64_spec x x hx hx2 hx hx2 _ _ (ret h)

theorem below_spec (a b : Int) (ha : 0 ≤ a) (hb : 0 ≤ b) (st : Store) (R : AV → Store → Prop) (h : R (bool (decide (a < b))) st) : ACalls Try.prog 39 [.agg (wideC a), .agg (wideC b)] st R := by
  refine ACalls.of_body (c := cfg 24) infoOK Try.func39 (by rfl) (by rfl) (by rfl) (by rfl) ?_
  refine bcd (fun c1 => ?_) (fun c1 => ?_)
  · exact ret (isT h (by simp; omega))
  · refine bceq (fun c2 => ?_) (fun c2 => ?_)
    · refine ret ?_
      have : decide (a < b) = decide (a % 18446744073709551616 < b % 18446744073709551616) := by
        rw [Bool.eq_iff_iff]; simp; omega
      rw [this] at h; exact h
    · exact ret (isF h (by simp; omega))

theorem less_spec (a b : Int) (ha : 0 ≤ a) (hb : 0 ≤ b) (st : Store) (R : AV → Store → Prop) (h : R (bool (decide (a < b))) st) : ACalls Try.prog 46 [.agg (wideC a), .agg (wideC b)] st R := by
  refine ACalls.of_body (c := cfg 24) infoOK Try.func46 (by rfl) (by rfl) (by rfl) (by rfl) ?_
  refine bcd (fun c1 => ?_) (fun c1 => ?_)
  · exact ret (isT h (by simp; omega))
  · refine bceq (fun c2 => ?_) (fun c2 => ?_)
    · refine ret ?_
      have : decide (a < b) = decide (a % 18446744073709551616 < b % 18446744073709551616) := by
        rw [Bool.eq_iff_iff]; simp; omega
      rw [this] at h; exact h
    · exact ret (isF h (by simp; omega))

theorem rof_spec (n : Int) (st : Store) (R : AV → Store → Prop) (h : R (int (nrm n)) st) : ACalls Try.prog 45 [int n] st R := by
  refine ACalls.of_body (c := cfg 6) infoOK Try.func45 (by rfl) (by rfl) (by rfl) (by rfl) ?_
  refine bcd (fun c1 => ?_) (fun c1 => ?_)
  · rw [show nrm n = -9223372036854775807 by unfold nrm; rw [if_pos c1]] at h; exact ret h
  · rw [show nrm n = n by unfold nrm; rw [if_neg c1]] at h; exact ret h

theorem rneg_spec (n : Int) (hn : InI64 n) (st : Store) (R : AV → Store → Prop) (h : R (int (-nrm n)) st) : ACalls Try.prog 76 [int n] st R := by
  refine ACalls.of_body (c := cfg 6) infoOK Try.func76 (by rfl) (by rfl) (by rfl) (by rfl) ?_
  refine rof_spec n _ _ ?_
  have := nrm_b hn
  refine ⟨⟨by omega, by omega⟩, ?_⟩
  rw [show -nrm n = 0 - nrm n by omega] at h
  exact ret h

theorem radd_spec (a b : Int) (ha : InI64 a) (hb : InI64 b) (st : Store) (R : AV → Store → Prop) (h : R (int (fadd a b)) st) : ACalls Try.prog 75 [int a, int b] st R := by
  refine ACalls.of_body (c := cfg 28) infoOK Try.func75 (by rfl) (by rfl) (by rfl) (by rfl) ?_
  refine rof_spec a _ _ ?_
  refine rof_spec b _ _ ?_
  have h1 := nrm_b ha
  have h2 := nrm_b hb
  unfold fadd at h
  generalize nrm a = x at *
  generalize nrm b = y at *
  have k1 : x + y > 9223372036854775807 → R (int 9223372036854775807) st := fun hh => by rw [show clamp (x + y) = 9223372036854775807 by unfold clamp; simp [hh]] at h; exact h
  have k2 : x + y < -9223372036854775807 → R (int (-9223372036854775807)) st := fun hh => by rw [show clamp (x + y) = -9223372036854775807 by unfold clamp; rw [if_neg (by omega), if_pos hh]] at h; exact h
  have k3 : ¬ x + y > 9223372036854775807 → ¬ x + y < -9223372036854775807 → InI64 (x + y) ∧ R (int (x + y)) st := fun hh hh' => ⟨⟨by omega, by omega⟩, by rw [show clamp (x + y) = x + y by unfold clamp; rw [if_neg hh, if_neg hh']] at h; exact h⟩
  have fin : ¬ x + y > 9223372036854775807 → ¬ x + y < -9223372036854775807 → InI64 (x + y) ∧ ∃ r st', AV.le (int (x + y)) r ∧ st.Has st' ∧ R r st' := fun hh hh' => ⟨(k3 hh hh').1, ret (k3 hh hh').2⟩
  refine bcd (fun c1 => ?_) (fun c1 => ?_)
  · refine ⟨⟨by omega, by omega⟩, ?_⟩
    refine bcd (fun c2 => ?_) (fun c2 => ?_)
    · exact ret (k1 (by omega))
    · refine bcd (fun c3 => ?_) (fun c3 => ?_)
      · omega
      · exact fin (by omega) (by omega)
  · refine bcd (fun c3 => ?_) (fun c3 => ?_)
    · refine ⟨⟨by omega, by omega⟩, ?_⟩
      refine bcd (fun c4 => ?_) (fun c4 => ?_)
      · exact ret (k2 (by omega))
      · exact fin (by omega) (by omega)
    · exact fin (by omega) (by omega)

theorem rsub_spec (a b : Int) (ha : InI64 a) (hb : InI64 b) (st : Store) (R : AV → Store → Prop) (h : R (int (fsub a b)) st) : ACalls Try.prog 67 [int a, int b] st R := by
  refine ACalls.of_body (c := cfg 9) infoOK Try.func67 (by rfl) (by rfl) (by rfl) (by rfl) ?_
  refine rneg_spec b hb _ _ ?_
  have h2 := nrm_b hb
  exact radd_spec a (-nrm b) ha ⟨by omega, by omega⟩ _ _ (ret h)

theorem rsize_spec (n : Int) (hn : -9223372036854775807 ≤ n ∧ n ≤ 9223372036854775807) (st : Store) (R : AV → Store → Prop) (h : R (u64 (asz n)) st) : ACalls Try.prog 65 [int n] st R := by
  refine ACalls.of_body (c := cfg 10) infoOK Try.func65 (by rfl) (by rfl) (by rfl) (by rfl) ?_
  unfold asz at h
  rw [nrm_id (by omega)] at h
  refine bcd (fun c1 => ?_) (fun c1 => ?_)
  · refine ⟨⟨by omega, by omega⟩, ?_⟩
    rw [if_pos c1, ← wrap_u64 (v := -n) (by omega) (by omega), show -n = 0 - n by omega] at h
    exact ret h
  · rw [if_neg c1, ← wrap_u64 (v := n) (by omega) (by omega)] at h
    exact ret h

theorem rplus_spec (a b : Int) (ha : 0 ≤ a) (hb : 0 ≤ b) (hab : a + b < 340282366920938463463374607431768211456) (st : Store) (R : AV → Store → Prop) (h : R (.agg (wideC (a + b))) st) : ACalls Try.prog 66 [.agg (wideC a), .agg (wideC b)] st R := by
  refine ACalls.of_body (c := cfg 27) infoOK Try.func66 (by rfl) (by rfl) (by rfl) (by rfl) ?_
  refine bcd (fun c1 => ?_) (fun c1 => ?_)
  · refine ret ((congrArg (fun l => R (.agg l) st) ?_).mpr h)
    simp only [wrap_u64'] at c1 ⊢
    refine wide_eq ?_ ?_
    · omega
    · omega
  · refine ret ((congrArg (fun l => R (.agg l) st) ?_).mpr h)
    simp only [wrap_u64'] at c1 ⊢
    refine wide_eq ?_ ?_
    · omega
    · omega
end Go.Proofs
namespace Go.Proofs
open Go Go.V
set_option linter.unusedVariables false

theorem add64_spec (x y c : Int) (hx : 0 ≤ x) (hy : 0 ≤ y) (hc : 0 ≤ c) (hc1 : c ≤ 1) (st : Store) (R : AV → Store → Prop) (h : R (.tup [u64 ((x + y + c) % 18446744073709551616), u64 ((x + y + c) / 18446744073709551616)]) st) :
    ACalls Try.prog 69 [u64 x, u64 y, u64 c] st R := by
  obtain ⟨a, rfl⟩ := Int.eq_ofNat_of_zero_le hx
  obtain ⟨b, rfl⟩ := Int.eq_ofNat_of_zero_le hy
  obtain ⟨d, rfl⟩ := Int.eq_ofNat_of_zero_le hc
  exact add64_kit Try.laysNm725 a b d (by omega) h

theorem wplus_spec (a b : Int) (ha : 0 ≤ a) (hb : 0 ≤ b) (hab : a + b < 340282366920938463463374607431768211456) (st : Store) (R : AV → Store → Prop) (h : R (.agg (wideC (a + b))) st) : ACalls Try.prog 53 [.agg (wideC a), .agg (wideC b)] st R := by
  refine ACalls.of_body (c := cfg 29) infoOK Try.func53 (by rfl) (by rfl) (by rfl) (by rfl) ?_
  refine add64_spec (a % 18446744073709551616) (b % 18446744073709551616) 0 (by omega) (by omega) (by omega) (by omega) _ _ ?_
  refine add64_spec (a / 18446744073709551616) (b / 18446744073709551616) ((a % 18446744073709551616 + b % 18446744073709551616 + 0) / 18446744073709551616) (by omega) (by omega) (by omega) (by omega) _ _ ?_
  refine ret ((congrArg (fun l => R (.agg l) st) ?_).mpr h)
  refine wide_eq ?_ ?_
  · omega
  · omega

theorem sqr_b {v : Vc} (h : v.ok) : 0 ≤ asz v.1 * asz v.1 ∧ 0 ≤ asz v.2 * asz v.2 ∧ asz v.1 * asz v.1 ≤ 85070591730234615847396907784232501249 ∧ asz v.2 * asz v.2 ≤ 85070591730234615847396907784232501249 := by
  obtain ⟨h1, h2⟩ := h
  have a1 := asz_b h1
  have a2 := asz_b h2
  have b : ∀ x : Int, 0 ≤ x → x ≤ 9223372036854775807 → 0 ≤ x * x ∧ x * x ≤ 85070591730234615847396907784232501249 := by
    intro x h3 h4
    refine ⟨Int.mul_nonneg h3 h3, ?_⟩
    have h5 : x * x ≤ 9223372036854775807 * 9223372036854775807 := Int.mul_le_mul h4 h4 h3 (by decide)
    exact h5
  have b1 := b _ a1.1 a1.2
  have b2 := b _ a2.1 a2.2
  exact ⟨b1.1, b2.1, b1.2, b2.2⟩

theorem square_spec (v : Vc) (hv : v.ok) (st : Store) (R : AV → Store → Prop) (h : R (.agg (wideC (sqr v))) st) : ACalls Try.prog 37 [.agg (vecC v)] st R := by
  refine ACalls.of_body (c := cfg 24) infoOK Try.func37 (by rfl) (by rfl) (by rfl) (by rfl) ?_
  have a1 := asz_b hv.1
  have a2 := asz_b hv.2
  have b := sqr_b hv
  refine abs_spec v.1 hv.1 _ _ ?_
  refine abs_spec v.2 hv.2 _ _ ?_
  refine fsquare_spec (asz v.1) (by omega) (by omega) _ _ ?_
  refine fsquare_spec (asz v.2) (by omega) (by omega) _ _ ?_
  exact wplus_spec _ _ (by omega) (by omega) (by omega) _ _ (ret h)

theorem vsub_spec (a b : Vc) (ha : a.ok) (hb : b.ok) (st : Store) (R : AV → Store → Prop) (h : R (.agg (vecC (vsub a b))) st) : ACalls Try.prog 38 [.agg (vecC a), .agg (vecC b)] st R := by
  refine ACalls.of_body (c := cfg 16) infoOK Try.func38 (by rfl) (by rfl) (by rfl) (by rfl) ?_
  refine ADraw.of_sched infoOK (by rfl) (by rfl) sch38_1 (by rfl) ?_
  refine ⟨sub_spec a.1 b.1 ha.1 hb.1 _ _ ⟨(by repeat (first | exact trivial | refine ⟨rfl, ?_⟩ | refine ⟨optR (optR (optR (optK_intro _ (setObj_self _ _ _) rfl))), ?_⟩)), ?_⟩, trivial⟩
  refine ⟨sub_spec a.2 b.2 ha.2 hb.2 _ _ ⟨(by repeat (first | exact trivial | refine ⟨rfl, ?_⟩ | refine ⟨optR (optR (optR (optK_intro _ (setObj_self _ _ _) rfl))), ?_⟩)), ?_⟩, trivial⟩
  refine ⟨⟨(by repeat (first | exact trivial | refine ⟨rfl, ?_⟩ | refine ⟨optR (optR (optR (optK_intro _ (setObj_self _ _ _) rfl))), ?_⟩)), ?_⟩, trivial⟩
  exact ret h

theorem vsub_ok (a b : Vc) : (vsub a b).ok := ⟨fsub_64 _ _, fsub_64 _ _⟩

theorem within_vec (a b : Vc) (r : Int) (ha : a.ok) (hb : b.ok) (hr : r ≤ 9223372036854775807) (st : Store) (R : AV → Store → Prop) (h : R (bool (near a b r)) st) : ACalls Try.prog 23 [.agg (vecC a), .agg (vecC b), int r] st R := by
  refine ACalls.of_body (c := cfg 17) infoOK Try.func23 (by rfl) (by rfl) (by rfl) (by rfl) ?_
  unfold near at h
  refine bcd (fun c1 => ?_) (fun c1 => ?_)
  · exact ret (isF h (by simp; omega))
  · have hb2 := sqr_b (vsub_ok a b)
    refine vsub_spec a b ha hb _ _ ?_
    refine square_spec _ (vsub_ok a b) _ _ ?_
    refine ((congrArg (fun n => ACalls Try.prog 40 [.s (.int .u64 n)] st _) (wrap_u64 (v := r) (by omega) (by omega))).mpr ?_)
    refine fsquare_spec r (by omega) (by omega) _ _ ?_
    refine below_spec _ _ ?_ (Int.mul_nonneg (by omega) (by omega)) _ _ (ret ?_)
    · unfold sqr; omega
    · have : decide (0 < r ∧ sqr (vsub a b) < r * r) = decide (sqr (vsub a b) < r * r) := by
        rw [Bool.eq_iff_iff]; simp; omega
      rw [this] at h; exact h

theorem rvsub_spec (a b : Vc) (ha : a.ok) (hb : b.ok) (st : Store) (R : AV → Store → Prop) (h : R (.agg (vecC (vsub a b))) st) : ACalls Try.prog 48 [.agg (vecC a), .agg (vecC b)] st R := by
  refine ACalls.of_body (c := cfg 16) infoOK Try.func48 (by rfl) (by rfl) (by rfl) (by rfl) ?_
  refine ADraw.of_sched infoOK (by rfl) (by rfl) sch48_1 (by rfl) ?_
  refine ⟨rsub_spec a.1 b.1 ha.1 hb.1 _ _ ⟨(by repeat (first | exact trivial | refine ⟨rfl, ?_⟩ | refine ⟨optR (optR (optR (optK_intro _ (setObj_self _ _ _) rfl))), ?_⟩)), ?_⟩, trivial⟩
  refine ⟨rsub_spec a.2 b.2 ha.2 hb.2 _ _ ⟨(by repeat (first | exact trivial | refine ⟨rfl, ?_⟩ | refine ⟨optR (optR (optR (optK_intro _ (setObj_self _ _ _) rfl))), ?_⟩)), ?_⟩, trivial⟩
  refine ⟨⟨(by repeat (first | exact trivial | refine ⟨rfl, ?_⟩ | refine ⟨optR (optR (optR (optK_intro _ (setObj_self _ _ _) rfl))), ?_⟩)), ?_⟩, trivial⟩
  exact ret h

theorem asz_nrm (n : Int) : asz (nrm n) = asz n := by unfold asz; rw [nrm_nrm]

theorem rsquares_spec (v : Vc) (hv : v.ok) (st : Store) (R : AV → Store → Prop) (h : R (.agg (wideC (sqr v))) st) : ACalls Try.prog 47 [.agg (vecC v)] st R := by
  refine ACalls.of_body (c := cfg 20) infoOK Try.func47 (by rfl) (by rfl) (by rfl) (by rfl) ?_
  have a1 := asz_b hv.1
  have a2 := asz_b hv.2
  have b := sqr_b hv
  refine ADraw.of_sched infoOK (by rfl) (by rfl) sch47_1 (by rfl) ?_
  refine ⟨rof_spec v.1 _ _ ⟨(by repeat (first | exact trivial | refine ⟨rfl, ?_⟩ | refine ⟨optR (optR (optR (optK_intro _ (setObj_self _ _ _) rfl))), ?_⟩)), ?_⟩, trivial⟩
  refine ⟨rsize_spec (nrm v.1) (nrm_b hv.1) _ _ ⟨(by repeat (first | exact trivial | refine ⟨rfl, ?_⟩ | refine ⟨optR (optR (optR (optK_intro _ (setObj_self _ _ _) rfl))), ?_⟩)), ?_⟩, trivial⟩
  refine ⟨rof_spec v.2 _ _ ⟨(by repeat (first | exact trivial | refine ⟨rfl, ?_⟩ | refine ⟨optR (optR (optR (optK_intro _ (setObj_self _ _ _) rfl))), ?_⟩)), ?_⟩, trivial⟩
  refine ⟨rsize_spec (nrm v.2) (nrm_b hv.2) _ _ ⟨(by repeat (first | exact trivial | refine ⟨rfl, ?_⟩ | refine ⟨optR (optR (optR (optK_intro _ (setObj_self _ _ _) rfl))), ?_⟩)), ?_⟩, trivial⟩
  rw [asz_nrm, asz_nrm]
  refine ⟨⟨(by repeat (first | exact trivial | refine ⟨rfl, ?_⟩ | refine ⟨optR (optR (optR (optK_intro _ (setObj_self _ _ _) rfl))), ?_⟩)), ?_⟩, trivial⟩
  refine ⟨⟨(by repeat (first | exact trivial | refine ⟨rfl, ?_⟩ | refine ⟨optR (optR (optR (optK_intro _ (setObj_self _ _ _) rfl))), ?_⟩)), ?_⟩, trivial⟩
  refine times_spec (asz v.1) (asz v.1) (by omega) (by omega) (by omega) (by omega) _ _ ?_
  refine times_spec (asz v.2) (asz v.2) (by omega) (by omega) (by omega) (by omega) _ _ ?_
  exact rplus_spec _ _ (by omega) (by omega) (by omega) _ _ (ret h)

theorem rwithin_spec (a b : Vc) (r : Int) (ha : a.ok) (hb : b.ok) (hr : InI64 r) (st : Store) (R : AV → Store → Prop) (h : R (bool (near a b r)) st) : ACalls Try.prog 31 [.agg (vecC a), .agg (vecC b), int r] st R := by
  refine ACalls.of_body (c := cfg 21) infoOK Try.func31 (by rfl) (by rfl) (by rfl) (by rfl) ?_
  have hn := nrm_b hr
  unfold near at h
  have hb2 := sqr_b (vsub_ok a b)
  refine rof_spec r _ _ ?_
  refine bcd (fun c1 => ?_) (fun c1 => ?_)
  · refine ret (isF h ?_)
    have : r < 0 := by unfold nrm at c1; split at c1 <;> omega
    simp; omega
  · have hr0 : nrm r = r := by unfold nrm at c1 ⊢; split <;> omega
    rw [hr0] at c1 hn
    refine rvsub_spec a b ha hb _ _ ?_
    refine rsquares_spec _ (vsub_ok a b) _ _ ?_
    refine ((congrArg (fun n => ACalls Try.prog 49 [.s (.int .u64 n), .s (.int .u64 n)] st _) (show IntKind.u64.wrap (nrm r) = r by rw [hr0]; exact wrap_u64 (v := r) (by omega) (by omega))).mpr ?_)
    refine times_spec r r (by omega) (by omega) (by omega) (by omega) _ _ ?_
    refine less_spec _ _ ?_ (Int.mul_nonneg (by omega) (by omega)) _ _ (ret ?_)
    · unfold sqr; omega
    · have : decide (0 < r ∧ sqr (vsub a b) < r * r) = decide (sqr (vsub a b) < r * r) := by
        rw [Bool.eq_iff_iff]; simp
        intro h1
        by_cases h0 : r = 0
        · subst h0
          unfold sqr at h1; omega
        · omega
      rw [this] at h; exact h
end Go.Proofs
