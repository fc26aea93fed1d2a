/- Ground of laws of thronglaw24: contracts and plain lemmas; no condition beyond the row's own. -/
import Derived.Test.YtieceacpbjcddaaGreatKO
import Derived.Test.YtieceacpbjcddaaGreatKN
import Derived.Test.YtieceacpbjcddaaGreatKM
set_option linter.unusedSimpArgs false
set_option linter.unusedVariables false
set_option linter.defProp false
namespace Go.Proofs
open Go Go.V
set_option maxRecDepth 4000
theorem Du (n : Int) (st : Store) (R : AV -> Store -> Prop) (h : R (int (nrm n)) st) : ACalls Tryz.prog 306 [int n] st R := by
 refine ACalls.of_body (c := cfg 5) zb Tryz.func306 (by rfl) (by rfl) (by rfl) (by rfl) ?_
 rw [<- zqg] at h
 exact ret h
theorem zqo (n : Int) (hn : ye n) (st : Store) (R : AV -> Store -> Prop) (h : R (int (-nrm n)) st) : ACalls Tryz.prog 310 [int n] st R := by
 refine ACalls.of_body (c := cfg 6) zb Tryz.func310 (by rfl) (by rfl) (by rfl) (by rfl) ?_
 refine Du n _ _ ?_
 have := jg hn
 refine ⟨⟨by omega, by omega⟩, ?_⟩
 rw [show -nrm n = 0 - nrm n by omega] at h
 exact ret h
theorem Df (a b : Int) (ha : ye a) (hb : ye b) (st : Store) (R : AV -> Store -> Prop) (h : R (int (yo a b)) st) : ACalls Tryz.prog 227 [int a, int b] st R := by
 refine ACalls.of_body (c := cfg 30) zb Tryz.func227 (by rfl) (by rfl) (by rfl) (by rfl) ?_
 refine Du a _ _ ?_
 refine Du b _ _ ?_
 have h1 := jg ha
 have h2 := jg hb
 unfold yo at h
 generalize nrm a = x at *
 generalize nrm b = y at *
 have k1 : x + y > 9223372036854775807 -> R (int 9223372036854775807) st := fun hh => by grind[xo]
 have k2 : x + y < -9223372036854775807 -> R (int (-9223372036854775807)) st := fun hh => by rw [show xo (x + y) = -9223372036854775807 by unfold xo; omega] at h; exact h
 have k3 : ¬ x + y > 9223372036854775807 -> ¬ x + y < -9223372036854775807 -> ye (x + y) /\ R (int (x + y)) st := fun hh hh' => ⟨⟨by omega, by omega⟩, by simp_all[xo]⟩
 have fin : ¬ x + y > 9223372036854775807 -> ¬ x + y < -9223372036854775807 -> ye (x + y) /\ ∃ r st', AV.le (int (x + y)) r /\ st.Has st' /\ R r st' := fun hh hh' => ⟨(k3 hh hh').1, ret (k3 hh hh').2⟩
 have e : Int.negSucc 9223372036854775806 = -9223372036854775807 := rfl
 refine bcd (fun c1 => ?_) (fun c1 => ?_)
 ·refine ⟨⟨by omega, by omega⟩, ?_⟩
  refine bcd (fun c2 => ?_) (fun c2 => ?_)
  ·exact ret (k1 (by omega))
  ·refine bcd (fun c3 => ?_) (fun c3 => ?_)
   ·omega
   ·exact fin (by omega) (by omega)
 ·refine bcd (fun c3 => ?_) (fun c3 => ?_)
  ·refine ⟨⟨by omega, by omega⟩, ?_⟩
   refine bcd (fun c4 => ?_) (fun c4 => ?_)
   ·exact ret (k2 (by omega))
   ·exact fin (by omega) (by omega)
  ·exact fin (by omega) (by omega)
theorem Ck (a b : Int) (ha : ye a) (hb : ye b) (st : Store) (R : AV -> Store -> Prop) (h : R (int (yh a b)) st) : ACalls Tryz.prog 230 [int a, int b] st R := by
 refine ACalls.of_body (c := cfg 9) zb Tryz.func230 (by rfl) (by rfl) (by rfl) (by rfl) ?_
 refine zqo b hb _ _ ?_
 have h2 := jg hb
 exact Df a (-nrm b) ha ⟨by omega, by omega⟩ _ _ (ret h)
theorem Ro (n : Int) (hn : ye n) (st : Store) (R : AV -> Store -> Prop) (h : R (.tup [u64 (asz n), bool (decide (nrm n < 0))]) st) : ACalls Tryz.prog 312 [int n] st R := by
 refine ACalls.of_body (c := cfg 13) zb Tryz.func312 (by rfl) (by rfl) (by rfl) (by rfl) ?_
 refine Du n _ _ ?_
 have h1 := jg hn
 unfold asz at h
 generalize nrm n = x at *
 refine bcd (fun c1 => ?_) (fun c1 => ?_)
 ·refine ⟨⟨by omega, by omega⟩, ?_⟩
  rw [if_pos c1, show decide (x < 0) = true by simp [c1]] at h
  rw [<- ks (v := -x) (by omega) (by omega), show -x = 0 - x by omega] at h
  exact ret h
 ·rw [if_neg c1, show decide (x < 0) = false by simp [c1]] at h
  rw [<- ks (v := x) (by omega) (by omega)] at h
  exact ret h
set_option maxHeartbeats 1000000 in
theorem Ow (x y : Int) (hx : 0 <= x) (hx2 : x < 18446744073709551616) (hy : 0 <= y) (hy2 : y < 18446744073709551616) (st : Store) (R : AV -> Store -> Prop) (h : R (.tup (q9 (x * y))) st) :
  ACalls Tryz.prog 271 [u64 x, u64 y] st R := by
 refine ACalls.of_body (c := cfg 51) zb Tryz.func271 (by rfl) (by rfl) (by rfl) (by rfl) ?_
 refine ⟨by decide, ?_⟩
 refine ⟨by decide, ?_⟩
 refine ⟨by decide, ?_⟩
 refine ⟨by decide, ?_⟩
 refine ⟨by decide, ?_⟩
 refine ret ((congrArg (fun l => R (.tup l) st) ?_).mpr h)
 obtain ⟨p00, p10, p01, p11, e1, e2, e3, e4, e5, b⟩ := So x y hx hx2 hy hy2
 simp only [zkt, G6 hx, G6 hy, Fh, <- e1, <- e2, <- e3, <- e4]
 rw [G6 (Int.emod_nonneg _ (by decide))]
 unfold q9 u64
 refine congr (congrArg _ ?_) rfl
 grind
set_option maxHeartbeats 1000000 in
theorem M6 (x y : Int) (hx : 0 <= x) (hx2 : x < 18446744073709551616) (hy : 0 <= y) (hy2 : y < 18446744073709551616) (st : Store) (R : AV -> Store -> Prop) (h : R (.agg (q9 (x * y))) st) :
  ACalls Tryz.prog 212 [u64 x, u64 y] st R := by
 refine ACalls.of_body (c := cfg 46) zb Tryz.func212 (by rfl) (by rfl) (by rfl) (by rfl) ?_
 refine ⟨by decide, ?_⟩
 refine ⟨by decide, ?_⟩
 refine ⟨by decide, ?_⟩
 refine ⟨by decide, ?_⟩
 refine ⟨by decide, ?_⟩
 refine ⟨by decide, ?_⟩
 refine ⟨by decide, ?_⟩
 refine ⟨by decide, ?_⟩
 refine ret ((congrArg (fun l => R (.agg l) st) ?_).mpr h)
 obtain ⟨p00, p10, p01, p11, e1, e2, e3, e4, e5, b⟩ := So x y hx hx2 hy hy2
 simp only [zpk, zum, G6 hx, G6 hy, Fh, <- e1, <- e2, <- e3, <- e4]
 simp only [G6 (Int.emod_nonneg _ (show (18446744073709551616 : Int) ≠ 0 by decide))]
 rw [zp1 (Int.emod_nonneg _ (by decide)) (Int.emod_nonneg _ (by decide)) (by omega)]
 refine Iv ?_ ?_
 ·omega
 ·omega
theorem K9 (x : Int) (hx : 0 <= x) (hx2 : x < 18446744073709551616) (st : Store) (R : AV -> Store -> Prop) (h : R (.agg (q9 (x * x))) st) : ACalls Tryz.prog 309 [u64 x] st R := by
 refine ACalls.of_body (c := cfg 14) zb Tryz.func309 (by rfl) (by rfl) (by rfl) (by rfl) ?_
 exact Ow x x hx hx2 hx hx2 _ _ (ret h)
theorem ii (a b : Int) (ha : 0 <= a) (hb : 0 <= b) (st : Store) (R : AV -> Store -> Prop) (h : R (bool (decide (a < b))) st) : ACalls Tryz.prog 308 [.agg (q9 a), .agg (q9 b)] st R := by
 refine ACalls.of_body (c := cfg 24) zb Tryz.func308 (by rfl) (by rfl) (by rfl) (by rfl) ?_
 refine bcd (fun c1 => ?_) (fun c1 => ?_)
 ·exact ret (isT h (by grind))
 ·refine yj (fun c2 => ?_) (fun c2 => ?_)
  ·refine ret ?_
   have : decide (a < b) = decide (a % 18446744073709551616 < b % 18446744073709551616) := by grind
   rw [this] at h; exact h
  ·exact ret (isF h (by grind))
theorem zrl (a b : Int) (ha : 0 <= a) (hb : 0 <= b) (st : Store) (R : AV -> Store -> Prop) (h : R (bool (decide (a < b))) st) : ACalls Tryz.prog 209 [.agg (q9 a), .agg (q9 b)] st R := by
 refine ACalls.of_body (c := cfg 24) zb Tryz.func209 (by rfl) (by rfl) (by rfl) (by rfl) ?_
 refine bcd (fun c1 => ?_) (fun c1 => ?_)
 ·exact ret (isT h (by grind))
 ·refine yj (fun c2 => ?_) (fun c2 => ?_)
  ·refine ret ?_
   have : decide (a < b) = decide (a % 18446744073709551616 < b % 18446744073709551616) := by grind
   rw [this] at h; exact h
  ·exact ret (isF h (by grind))
theorem F4 (n : Int) (st : Store) (R : AV -> Store -> Prop) (h : R (int (nrm n)) st) : ACalls Tryz.prog 208 [int n] st R := by
 refine ACalls.of_body (c := cfg 6) zb Tryz.func208 (by rfl) (by rfl) (by rfl) (by rfl) ?_
 refine bcd (fun c1 => ?_) (fun c1 => ?_)
 ·rw [show nrm n = -9223372036854775807 by unfold nrm; omega] at h; exact ret h
 ·rw [show nrm n = n by unfold nrm; omega] at h; exact ret h
theorem zn3 (n : Int) (hn : ye n) (st : Store) (R : AV -> Store -> Prop) (h : R (int (-nrm n)) st) : ACalls Tryz.prog 359 [int n] st R := by
 refine ACalls.of_body (c := cfg 6) zb Tryz.func359 (by rfl) (by rfl) (by rfl) (by rfl) ?_
 refine F4 n _ _ ?_
 have := jg hn
 refine ⟨⟨by omega, by omega⟩, ?_⟩
 rw [show -nrm n = 0 - nrm n by omega] at h
 exact ret h
theorem zou (a b : Int) (ha : ye a) (hb : ye b) (st : Store) (R : AV -> Store -> Prop) (h : R (int (yo a b)) st) : ACalls Tryz.prog 358 [int a, int b] st R := by
 refine ACalls.of_body (c := cfg 28) zb Tryz.func358 (by rfl) (by rfl) (by rfl) (by rfl) ?_
 refine F4 a _ _ ?_
 refine F4 b _ _ ?_
 have h1 := jg ha
 have h2 := jg hb
 unfold yo at h
 generalize nrm a = x at *
 generalize nrm b = y at *
 have k1 : x + y > 9223372036854775807 -> R (int 9223372036854775807) st := fun hh => by grind[xo]
 have k2 : x + y < -9223372036854775807 -> R (int (-9223372036854775807)) st := fun hh => by rw [show xo (x + y) = -9223372036854775807 by unfold xo; omega] at h; exact h
 have k3 : ¬ x + y > 9223372036854775807 -> ¬ x + y < -9223372036854775807 -> ye (x + y) /\ R (int (x + y)) st := fun hh hh' => ⟨⟨by omega, by omega⟩, by simp_all[xo]⟩
 have fin : ¬ x + y > 9223372036854775807 -> ¬ x + y < -9223372036854775807 -> ye (x + y) /\ ∃ r st', AV.le (int (x + y)) r /\ st.Has st' /\ R r st' := fun hh hh' => ⟨(k3 hh hh').1, ret (k3 hh hh').2⟩
 refine bcd (fun c1 => ?_) (fun c1 => ?_)
 ·refine ⟨⟨by omega, by omega⟩, ?_⟩
  refine bcd (fun c2 => ?_) (fun c2 => ?_)
  ·exact ret (k1 (by omega))
  ·refine bcd (fun c3 => ?_) (fun c3 => ?_)
   ·omega
   ·exact fin (by omega) (by omega)
 ·refine bcd (fun c3 => ?_) (fun c3 => ?_)
  ·refine ⟨⟨by omega, by omega⟩, ?_⟩
   refine bcd (fun c4 => ?_) (fun c4 => ?_)
   ·exact ret (k2 (by omega))
   ·exact fin (by omega) (by omega)
  ·exact fin (by omega) (by omega)
theorem V3 (a b : Int) (ha : ye a) (hb : ye b) (st : Store) (R : AV -> Store -> Prop) (h : R (int (yh a b)) st) : ACalls Tryz.prog 286 [int a, int b] st R := by
 refine ACalls.of_body (c := cfg 9) zb Tryz.func286 (by rfl) (by rfl) (by rfl) (by rfl) ?_
 refine zn3 b hb _ _ ?_
 have h2 := jg hb
 exact zou a (-nrm b) ha ⟨by omega, by omega⟩ _ _ (ret h)
theorem V4 (n : Int) (hn : -9223372036854775807 <= n /\ n <= 9223372036854775807) (st : Store) (R : AV -> Store -> Prop) (h : R (u64 (asz n)) st) : ACalls Tryz.prog 284 [int n] st R := by
 refine ACalls.of_body (c := cfg 10) zb Tryz.func284 (by rfl) (by rfl) (by rfl) (by rfl) ?_
 unfold asz at h
 rw [wx (by omega)] at h
 refine bcd (fun c1 => ?_) (fun c1 => ?_)
 ·refine ⟨⟨by omega, by omega⟩, ?_⟩
  rw [if_pos c1, <- ks (v := -n) (by omega) (by omega), show -n = 0 - n by omega] at h
  exact ret h
 ·rw [if_neg c1, <- ks (v := n) (by omega) (by omega)] at h
  exact ret h
theorem znn (a b : Int) (ha : 0 <= a) (hb : 0 <= b) (hab : a + b < 340282366920938463463374607431768211456) (st : Store) (R : AV -> Store -> Prop) (h : R (.agg (q9 (a + b))) st) : ACalls Tryz.prog 285 [.agg (q9 a), .agg (q9 b)] st R := by
 refine ACalls.of_body (c := cfg 27) zb Tryz.func285 (by rfl) (by rfl) (by rfl) (by rfl) ?_
 refine bcd (fun c1 => ?_) (fun c1 => ?_)
 ·refine ret ((congrArg (fun l => R (.agg l) st) ?_).mpr h)
  simp only [Fh] at c1 ⊢
  refine Iv ?_ ?_
  ·omega
  ·omega
 ·refine ret ((congrArg (fun l => R (.agg l) st) ?_).mpr h)
  simp only [Fh] at c1 ⊢
  refine Iv ?_ ?_
  ·omega
  ·omega
theorem i8 (x y c : Int) (hx : 0 <= x) (hy : 0 <= y) (hc : 0 <= c) (hc1 : c <= 1) (st : Store) (R : AV -> Store -> Prop) (h : R (.tup [u64 ((x + y + c) % 18446744073709551616), u64 ((x + y + c) / 18446744073709551616)]) st) :
  ACalls Tryz.prog 401 [u64 x, u64 y, u64 c] st R := by
 obtain ⟨a, rfl⟩ := Int.eq_ofNat_of_zero_le hx
 obtain ⟨b, rfl⟩ := Int.eq_ofNat_of_zero_le hy
 obtain ⟨d, rfl⟩ := Int.eq_ofNat_of_zero_le hc
 exact zxy Tryz.laysNm725 a b d (by omega) h
theorem lc (a b : Int) (ha : 0 <= a) (hb : 0 <= b) (hab : a + b < 340282366920938463463374607431768211456) (st : Store) (R : AV -> Store -> Prop) (h : R (.agg (q9 (a + b))) st) : ACalls Tryz.prog 367 [.agg (q9 a), .agg (q9 b)] st R := by
 refine ACalls.of_body (c := cfg 29) zb Tryz.func367 (by rfl) (by rfl) (by rfl) (by rfl) ?_
 refine i8 (a % 18446744073709551616) (b % 18446744073709551616) 0 (by omega) (by omega) (by omega) (by omega) _ _ ?_
 refine i8 (a / 18446744073709551616) (b / 18446744073709551616) ((a % 18446744073709551616 + b % 18446744073709551616 + 0) / 18446744073709551616) (by omega) (by omega) (by omega) (by omega) _ _ ?_
 refine ret ((congrArg (fun l => R (.agg l) st) ?_).mpr h)
 refine Iv ?_ ?_
 ·omega
 ·omega
theorem Hg {v : Vc} (h : v.ok) : 0 <= asz v.1 * asz v.1 /\ 0 <= asz v.2 * asz v.2 /\ asz v.1 * asz v.1 <= 85070591730234615847396907784232501249 /\ asz v.2 * asz v.2 <= 85070591730234615847396907784232501249 := by
 obtain ⟨h1, h2⟩ := h
 have a1 := De h1
 have a2 := De h2
 have b : ∀ x : Int, 0 <= x -> x <= 9223372036854775807 -> 0 <= x * x /\ x * x <= 85070591730234615847396907784232501249 := by
  intro x h3 h4
  refine ⟨Int.mul_nonneg h3 h3, ?_⟩
  have h5 : x * x <= 9223372036854775807 * 9223372036854775807 := Int.mul_le_mul h4 h4 h3 (by decide)
  exact h5
 grind
theorem Vd (v : Vc) (hv : v.ok) (st : Store) (R : AV -> Store -> Prop) (h : R (.agg (q9 (sqr v))) st) : ACalls Tryz.prog 307 [.agg (zy v)] st R := by
 refine ACalls.of_body (c := cfg 24) zb Tryz.func307 (by rfl) (by rfl) (by rfl) (by rfl) ?_
 have a1 := De hv.1
 have a2 := De hv.2
 have b := Hg hv
 refine Ro v.1 hv.1 _ _ ?_
 refine Ro v.2 hv.2 _ _ ?_
 refine K9 (asz v.1) (by omega) (by omega) _ _ ?_
 refine K9 (asz v.2) (by omega) (by omega) _ _ ?_
 exact lc _ _ (by omega) (by omega) (by omega) _ _ (ret h)
theorem Mq (a b : Vc) (ha : a.ok) (hb : b.ok) (st : Store) (R : AV -> Store -> Prop) (h : R (.agg (zy (y6 a b))) st) : ACalls Tryz.prog 229 [.agg (zy a), .agg (zy b)] st R := by
 refine ACalls.of_body (c := cfg 16) zb Tryz.func229 (by rfl) (by rfl) (by rfl) (by rfl) ?_
 refine ADraw.of_sched zb (by rfl) (by rfl) zl4 (by rfl) ?_
 refine ⟨Ck a.1 b.1 ha.1 hb.1 _ _ ⟨(by repeat (first | exact Tv | refine ⟨rfl, ?_⟩ | refine ⟨optR (optR (optR (za _ (zd _ _ _) rfl))), ?_⟩)), ?_⟩, Tv⟩
 refine ⟨Ck a.2 b.2 ha.2 hb.2 _ _ ⟨(by repeat (first | exact Tv | refine ⟨rfl, ?_⟩ | refine ⟨optR (optR (optR (za _ (zd _ _ _) rfl))), ?_⟩)), ?_⟩, Tv⟩
 refine ⟨⟨(by repeat (first | exact Tv | refine ⟨rfl, ?_⟩ | refine ⟨optR (optR (optR (za _ (zd _ _ _) rfl))), ?_⟩)), ?_⟩, Tv⟩
 exact ret h
theorem G9 (a b : Vc) : (y6 a b).ok := ⟨C6 _ _, C6 _ _⟩
theorem Iu (a b : Vc) (r : Int) (ha : a.ok) (hb : b.ok) (hr : r <= 9223372036854775807) (st : Store) (R : AV -> Store -> Prop) (h : R (bool (near a b r)) st) : ACalls Tryz.prog 228 [.agg (zy a), .agg (zy b), int r] st R := by
 refine ACalls.of_body (c := cfg 17) zb Tryz.func228 (by rfl) (by rfl) (by rfl) (by rfl) ?_
 unfold near at h
 refine bcd (fun c1 => ?_) (fun c1 => ?_)
 ·exact ret (isF h (by grind))
 ·have hb2 := Hg (G9 a b)
  refine Mq a b ha hb _ _ ?_
  refine Vd _ (G9 a b) _ _ ?_
  refine ((congrArg (fun n => ACalls Tryz.prog 309 [.s (.int .u64 n)] st _) (ks (v := r) (by omega) (by omega))).mpr ?_)
  refine K9 r (by omega) (by omega) _ _ ?_
  refine ii _ _ ?_ (Int.mul_nonneg (by omega) (by omega)) _ _ (ret ?_)
  ·unfold sqr; omega
  ·have : decide (0 < r /\ sqr (y6 a b) < r * r) = decide (sqr (y6 a b) < r * r) := by grind
   rw [this] at h; exact h
theorem znc (a b : Vc) (ha : a.ok) (hb : b.ok) (st : Store) (R : AV -> Store -> Prop) (h : R (.agg (zy (y6 a b))) st) : ACalls Tryz.prog 211 [.agg (zy a), .agg (zy b)] st R := by
 refine ACalls.of_body (c := cfg 16) zb Tryz.func211 (by rfl) (by rfl) (by rfl) (by rfl) ?_
 refine ADraw.of_sched zb (by rfl) (by rfl) zmd (by rfl) ?_
 refine ⟨V3 a.1 b.1 ha.1 hb.1 _ _ ⟨(by repeat (first | exact Tv | refine ⟨rfl, ?_⟩ | refine ⟨optR (optR (optR (za _ (zd _ _ _) rfl))), ?_⟩)), ?_⟩, Tv⟩
 refine ⟨V3 a.2 b.2 ha.2 hb.2 _ _ ⟨(by repeat (first | exact Tv | refine ⟨rfl, ?_⟩ | refine ⟨optR (optR (optR (za _ (zd _ _ _) rfl))), ?_⟩)), ?_⟩, Tv⟩
 refine ⟨⟨(by repeat (first | exact Tv | refine ⟨rfl, ?_⟩ | refine ⟨optR (optR (optR (za _ (zd _ _ _) rfl))), ?_⟩)), ?_⟩, Tv⟩
 exact ret h
theorem ip (n : Int) : asz (nrm n) = asz n := by unfold asz; rw [zqf]
theorem znl (v : Vc) (hv : v.ok) (st : Store) (R : AV -> Store -> Prop) (h : R (.agg (q9 (sqr v))) st) : ACalls Tryz.prog 210 [.agg (zy v)] st R := by
 refine ACalls.of_body (c := cfg 20) zb Tryz.func210 (by rfl) (by rfl) (by rfl) (by rfl) ?_
 have a1 := De hv.1
 have a2 := De hv.2
 have b := Hg hv
 refine ADraw.of_sched zb (by rfl) (by rfl) zme (by rfl) ?_
 refine ⟨F4 v.1 _ _ ⟨(by repeat (first | exact Tv | refine ⟨rfl, ?_⟩ | refine ⟨optR (optR (optR (za _ (zd _ _ _) rfl))), ?_⟩)), ?_⟩, Tv⟩
 refine ⟨V4 (nrm v.1) (jg hv.1) _ _ ⟨(by repeat (first | exact Tv | refine ⟨rfl, ?_⟩ | refine ⟨optR (optR (optR (za _ (zd _ _ _) rfl))), ?_⟩)), ?_⟩, Tv⟩
 refine ⟨F4 v.2 _ _ ⟨(by repeat (first | exact Tv | refine ⟨rfl, ?_⟩ | refine ⟨optR (optR (optR (za _ (zd _ _ _) rfl))), ?_⟩)), ?_⟩, Tv⟩
 refine ⟨V4 (nrm v.2) (jg hv.2) _ _ ⟨(by repeat (first | exact Tv | refine ⟨rfl, ?_⟩ | refine ⟨optR (optR (optR (za _ (zd _ _ _) rfl))), ?_⟩)), ?_⟩, Tv⟩
 rw [ip, ip]
 refine ⟨⟨(by repeat (first | exact Tv | refine ⟨rfl, ?_⟩ | refine ⟨optR (optR (optR (za _ (zd _ _ _) rfl))), ?_⟩)), ?_⟩, Tv⟩
 refine ⟨⟨(by repeat (first | exact Tv | refine ⟨rfl, ?_⟩ | refine ⟨optR (optR (optR (za _ (zd _ _ _) rfl))), ?_⟩)), ?_⟩, Tv⟩
 refine M6 (asz v.1) (asz v.1) (by omega) (by omega) (by omega) (by omega) _ _ ?_
 refine M6 (asz v.2) (asz v.2) (by omega) (by omega) (by omega) (by omega) _ _ ?_
 exact znn _ _ (by omega) (by omega) (by omega) _ _ (ret h)
theorem znb (a b : Vc) (r : Int) (ha : a.ok) (hb : b.ok) (hr : ye r) (st : Store) (R : AV -> Store -> Prop) (h : R (bool (near a b r)) st) : ACalls Tryz.prog 125 [.agg (zy a), .agg (zy b), int r] st R := by
 refine ACalls.of_body (c := cfg 21) zb Tryz.func125 (by rfl) (by rfl) (by rfl) (by rfl) ?_
 have hn := jg hr
 unfold near at h
 have hb2 := Hg (G9 a b)
 refine F4 r _ _ ?_
 refine bcd (fun c1 => ?_) (fun c1 => ?_)
 ·refine ret (isF h ?_)
  grind[nrm]
 ·have hr0 : nrm r = r := by unfold nrm at c1 ⊢; omega
  rw [hr0] at c1 hn
  refine znc a b ha hb _ _ ?_
  refine znl _ (G9 a b) _ _ ?_
  refine ((congrArg (fun n => ACalls Tryz.prog 212 [.s (.int .u64 n), .s (.int .u64 n)] st _) (show IntKind.u64.wrap (nrm r) = r by grind[ks])).mpr ?_)
  refine M6 r r (by omega) (by omega) (by omega) (by omega) _ _ ?_
  refine zrl _ _ ?_ (Int.mul_nonneg (by omega) (by omega)) _ _ (ret ?_)
  ·unfold sqr; omega
  ·have : decide (0 < r /\ sqr (y6 a b) < r * r) = decide (sqr (y6 a b) < r * r) := by
    rw [Bool.eq_iff_iff]; grind[sqr]
   rw [this] at h; exact h
theorem zsh (g : Gnd) (hg : zi g) (t : Nat) (ht : (t : Int) < g.W * g.H) (p : Vc) (hp : xf p.1 p.2) (r : Int) (hr : 0 < r /\ r <= 262144) (st : Store) (R : AV -> Store -> Prop) (h : R (bool (decide (xb g t p r))) st) :
  ACalls Tryz.prog 295 [.agg (zr g), int t, .agg (zy p), int r] st R := by
 have hb := wo hg ht
 have hn := zqs hg ht hp hr.1
 have hx := M5 hg ht
 have hq := Cg (t := t) hg.1.1
 have hq2 := Ch (t := t) hg.1.1
 have hg1 := hg.1
 have hg2 := hg.2.1
 have hp' := hp
 unfold xf at hp'
 refine ACalls.of_body (c := cfg 41) zb Tryz.func295 (by rfl) (by rfl) (by rfl) (by rfl) ?_
 refine ADraw.of_sched zb (by rfl) (by rfl) zl0 (by rfl) ?_
 refine ⟨by omega, ?_⟩
 have q1 : ye ((t : Int).tmod g.W * 65536) := by rw [hq]; unfold ye; omega
 have q2 : ye ((t : Int).tdiv g.W) := by rw [hq2]; unfold ye; omega
 have q3 : ye ((t : Int).tdiv g.W * 65536) := by rw [hq2]; unfold ye; omega
 refine ⟨q1, ?_⟩
 refine ⟨by omega, ?_⟩
 refine ⟨q2, ?_⟩
 refine ⟨q3, ?_⟩
 refine ⟨⟨(by repeat (first | exact Tv | refine ⟨rfl, ?_⟩ | refine ⟨optR (optR (optR (za _ (zd _ _ _) rfl))), ?_⟩)), ?_⟩, Tv⟩
 refine ⟨⟨Tv, ?_⟩, Tv⟩
 have e1 : (t : Int).tmod g.W * 65536 = tx g t := by rw [hq]; rfl
 have e2 : (t : Int).tdiv g.W * 65536 = ty g t := by rw [hq2]; rfl
 rw [e1, e2]
 refine zc (by omega) ?_
 refine zc (by omega) ?_
 have c1 := L4 (x := p.1) hx.1
 have c2 := L4 (x := p.2) hx.2
 refine Iu p (Bd p.1 (tx g t), Bd p.2 (ty g t)) r ⟨⟨by omega, by omega⟩, ⟨by omega, by omega⟩⟩ ⟨⟨by omega, by omega⟩, ⟨by omega, by omega⟩⟩ (by omega) _ _ (ret ?_)
 rw [hn]
 exact h
theorem W3 (x lo : Int) (hx : -1099511627776 <= x /\ x <= 1099511627776) (hlo : 0 <= lo /\ lo <= 8323072) (st : Store) (R : AV -> Store -> Prop) (h : R (int (off x lo)) st) : ACalls Tryz.prog 207 [int x, int lo, int (lo + 65536)] st R := by
 refine ACalls.of_body (c := cfg 19) zb Tryz.func207 (by rfl) (by rfl) (by rfl) (by rfl) ?_
 unfold off at h
 refine bcd (fun c1 => ?_) (fun c1 => ?_)
 ·refine zc (by omega) ?_
  rw [if_pos c1] at h
  exact ret h
 rw [if_neg c1] at h
 refine bcd (fun c2 => ?_) (fun c2 => ?_)
 ·refine zc (by omega) ?_
  rw [if_pos c2] at h
  exact ret h
 rw [if_neg c2] at h
 exact ret h
theorem zq6 (g : Gnd) (hg : zi g) (t : Nat) (ht : (t : Int) < g.W * g.H) (p : Vc) (hp : xf p.1 p.2) (r : Int) (hr : 0 < r /\ r <= 262144) (st : Store) (R : AV -> Store -> Prop) (h : R (bool (decide (xb g t p r))) st) :
  ACalls Tryz.prog 124 [.agg (zr g), int t, .agg (zy p), int r] st R := by
 have hb := wo hg ht
 have hx := M5 hg ht
 have hq := Cg (t := t) hg.1.1
 have hq2 := Ch (t := t) hg.1.1
 have hg1 := hg.1
 have hg2 := hg.2.1
 have hp' := hp
 unfold xf at hp'
 have o1 := W6 hx.1 hp'.1
 have o2 := W6 hx.2 hp'.2
 have hm := zq7 o1.1 o2.1 hr.1
 refine ACalls.of_body (c := cfg 56) zb Tryz.func124 (by rfl) (by rfl) (by rfl) (by rfl) ?_
 refine ADraw.of_sched zb (by rfl) (by rfl) zm7 (by rfl) ?_
 refine ⟨by omega, ?_⟩
 have q1 : ye ((t : Int).tmod g.W * 65536) := by rw [hq]; unfold ye; omega
 have q2 : ye ((t : Int).tdiv g.W) := by rw [hq2]; unfold ye; omega
 have q3 : ye ((t : Int).tdiv g.W * 65536) := by rw [hq2]; unfold ye; omega
 refine ⟨q1, ?_⟩
 refine ⟨by omega, ?_⟩
 refine ⟨q2, ?_⟩
 refine ⟨q3, ?_⟩
 refine ⟨⟨(by repeat (first | exact Tv | refine ⟨rfl, ?_⟩ | refine ⟨optR (optR (optR (za _ (zd _ _ _) rfl))), ?_⟩)), ?_⟩, Tv⟩
 refine ⟨⟨Tv, ?_⟩, Tv⟩
 have e1 : (t : Int).tmod g.W * 65536 = tx g t := by rw [hq]; rfl
 have e2 : (t : Int).tdiv g.W * 65536 = ty g t := by rw [hq2]; rfl
 rw [e1, e2]
 refine ADraw.of_sched zb (by rfl) (by rfl) zm6 (by rfl) ?_
 refine zc (by omega) ?_
 refine zc (by omega) ?_
 refine ⟨W3 p.1 (tx g t) hp'.1 hx.1 _ _ ⟨(by repeat (first | exact Tv | refine ⟨rfl, ?_⟩ | refine ⟨optR (optR (optR (za _ (zd _ _ _) rfl))), ?_⟩)), ?_⟩, Tv⟩
 refine ⟨W3 p.2 (ty g t) hp'.2 hx.2 _ _ ⟨Tv, ?_⟩, Tv⟩
 refine ⟨⟨Tv, ?_⟩, Tv⟩
 refine ⟨⟨Tv, ?_⟩, Tv⟩
 unfold xb at h
 have no : ¬ (off p.1 (tx g t) < r /\ off p.2 (ty g t) < r /\ off p.1 (tx g t) * off p.1 (tx g t) + off p.2 (ty g t) * off p.2 (ty g t) < r * r) -> R (bool false) st := fun hh => isF h (decide_eq_false fun k => hh (hm.2 k))
 refine bcd (fun c1 => ?_) (fun c1 => ret (no fun k => c1 k.1))
 refine bcd (fun c2 => ?_) (fun c2 => ret (no fun k => c2 k.2.1))
 have s1 := Np (a := off p.1 (tx g t)) (by omega)
 have s2 := Np (a := off p.2 (ty g t)) (by omega)
 have s3 := Np (a := r) (by omega)
 refine zc (by omega) ?_
 refine zc (by omega) ?_
 refine zc (by omega) ?_
 refine zc (by omega) ?_
 exact ret h
set_option maxRecDepth 20000 in
theorem zvd (p : Vc) (r : Int) (st : Store) (R : AV -> Store -> Prop) (h : ∀ z : Bool, (z = true ↔ (0 <= r /\ r <= 262144) /\ xf p.1 p.2) -> R (bool z) st) : ACalls Tryz.prog 294 [.agg (zy p), int r] st R := by
 refine ACalls.of_body (c := cfg 15) zb Tryz.func294 (by rfl) (by rfl) (by rfl) (by rfl) ?_
 repeat' (first | refine bcd (fun _ => ?_) (fun _ => ?_) | refine zh (fun _ => ?_) (fun _ => ?_) | refine zc (by omega) ?_ | (refine zpo p _ _ ?_; rintro (_ | _) hz)| fail)
 all_goals
  refine ret (h _ ?_)
  simp only [decide_eq_true_eq, decide_eq_false_iff_not, Bool.false_eq_true, false_iff, true_iff, beq_iff_eq, bne_iff_ne, beq_eq_false_iff_ne, ne_eq, reduceCtorEq, xf] at *
  omega
theorem V6 (r : Int) (hr : 0 < r /\ r <= 262144) (st : Store) (R : AV -> Store -> Prop) (h : R (int r) st) : ACalls Tryz.prog 297 [int r] st R := by
 refine ACalls.of_body (c := cfg 6) zb Tryz.func297 (by rfl) (by rfl) (by rfl) (by rfl) ?_
 have e : min2 (max2 r 0) 262144 = r := by rw [min2_eq, Gc]; omega
 rw [<- e] at h
 exact ret h
theorem iw (p : Vc) (r : Int) (q : Vc) (s : Int) (hp : p.ok) (hq : q.ok) (hr : 0 < r /\ r <= 262144) (hs : 0 < s /\ s <= 262144) (st : Store) (R : AV -> Store -> Prop) (h : R (bool (xq p r q s)) st) :
  ACalls Tryz.prog 220 [.agg (zy p), int r, .agg (zy q), int s] st R := by
 refine ACalls.of_body (c := cfg 18) zb Tryz.func220 (by rfl) (by rfl) (by rfl) (by rfl) ?_
 refine ADraw.of_sched zb (by rfl) (by rfl) zmb (by rfl) ?_
 refine ⟨V6 r hr _ _ ⟨(by repeat (first | exact Tv | refine ⟨rfl, ?_⟩ | refine ⟨optR (optR (optR (za _ (zd _ _ _) rfl))), ?_⟩)), ?_⟩, Tv⟩
 refine ⟨V6 s hs _ _ ⟨(by repeat (first | exact Tv | refine ⟨rfl, ?_⟩ | refine ⟨optR (optR (optR (za _ (zd _ _ _) rfl))), ?_⟩)), ?_⟩, Tv⟩
 refine zc (by omega) ?_
 refine ⟨Iu p q (r + s) hp hq (by omega) _ _ ⟨Tv, ?_⟩, Tv⟩
 exact ⟨⟨Tv, ret h⟩, Tv⟩
theorem zot (p : Vc) (r : Int) (q : Vc) (s : Int) (hp : p.ok) (hq : q.ok) (hr : 0 < r /\ r <= 262144) (hs : 0 < s /\ s <= 262144) (st : Store) (R : AV -> Store -> Prop) (h : R (bool (xq p r q s)) st) :
  ACalls Tryz.prog 67 [.agg (zy p), int r, .agg (zy q), int s] st R := by
 have e1 : max2 0 (min2 r 262144) = r := by rw [min2_eq, Gc]; omega
 have e2 : max2 0 (min2 s 262144) = s := by rw [min2_eq, Gc]; omega
 unfold xq at h
 rw [<- e1, <- e2] at h
 refine ACalls.of_body (c := cfg 20) zb Tryz.func67 (by rfl) (by rfl) (by rfl) (by rfl) ?_
 refine zc (by rw [e1, e2]; omega) ?_
 exact znb p q _ hp hq (by rw [e1, e2]; exact ⟨by omega, by omega⟩) _ _ (ret h)
theorem zwl (l : List Bld) (hl : l.length <= 1000000000000) (st : Store) (R : AV -> Store -> Prop) (h : ∀ z : Bool, (z = true ↔ Hm l) -> R (bool z) st) : ACalls Tryz.prog 287 [lst 6 zz l] st R := by
 refine ACalls.of_body (c := cfg 22) zb Tryz.func287 (by rfl) (by rfl) (by rfl) (by rfl) ?_
 refine AWp.loop (σ := Nat) ⟨fun i => [(0, .av (lst 6 zz l)), (3, .av (int (i : Nat)))], fun _ => [],
  fun i st' => 1 <= i /\ (i <= l.length \/ i = 1) /\ st' = st /\ ∀ j, (h : j < l.length) -> j < i -> 0 < j -> (l[j - 1]'(by omega)).id < l[j].id, fun i => l.length - i⟩ zb ?_ ?_
 ·exact ⟨1, Tv, ⟨Nat.le_refl _, .inr rfl, rfl, fun j _ hj => by omega⟩, ⟨Tq, Tq, Tv⟩, Tv⟩
 ·rintro i st' ⟨hi1, hi, rfl, hall⟩
  refine zh (fun h1 => ?_) (fun h1 => ?_)
  ·have hlt : i < l.length := kh h1
   refine ADraw.of_sched zb (by rfl) (by rfl) zl1 (by rfl) ?_
   refine zc (by omega) ?_
   refine ⟨i - 1, by omega, za _ (zn (show i - 1 < l.length by omega)) ?_⟩
   refine ⟨i, rfl, za _ (zn hlt) ?_⟩
   refine bcd (fun h2 => ret (h _ ?_)) (fun h2 => ?_)
   ·simp only [Bool.false_eq_true, false_iff]
    intro h3
    have := h3 i hlt (by omega)
    omega
   ·refine zc (by omega) ?_
    refine ⟨i + 1, ?_, ⟨by omega, .inl hlt, rfl, fun j hj h0 h00 => ?_⟩, ⟨Tq, Tq, Tv⟩, Tv⟩
    ·show l.length - (i + 1) < l.length - i
     omega
    ·by_cases hji : j = i
     ·subst hji
      omega
     ·exact hall j hj (by omega) h00
  ·have hge : ¬ i < l.length := by
    rw [zl] at h1
    simpa using h1
   refine ret (h _ ?_)
   simp only [true_iff]
   exact fun j hj h0 => hall j hj (by omega) h0
theorem zoa (l : List Bld) (hl : l.length <= 1000000000000) (st : Store) (R : AV -> Store -> Prop) (h : ∀ z : Bool, (z = true ↔ Hm l) -> R (bool z) st) : ACalls Tryz.prog 119 [lst 6 zz l] st R := by
 refine ACalls.of_body (c := cfg 22) zb Tryz.func119 (by rfl) (by rfl) (by rfl) (by rfl) ?_
 refine AWp.loop (σ := Nat) ⟨fun i => [(0, .av (lst 6 zz l)), (3, .av (int (i : Nat)))], fun _ => [],
  fun i st' => 1 <= i /\ (i <= l.length \/ i = 1) /\ st' = st /\ ∀ j, (h : j < l.length) -> j < i -> 0 < j -> (l[j - 1]'(by omega)).id < l[j].id, fun i => l.length - i⟩ zb ?_ ?_
 ·exact ⟨1, Tv, ⟨Nat.le_refl _, .inr rfl, rfl, fun j _ hj => by omega⟩, ⟨Tq, Tq, Tv⟩, Tv⟩
 ·rintro i st' ⟨hi1, hi, rfl, hall⟩
  refine zh (fun h1 => ?_) (fun h1 => ?_)
  ·have hlt : i < l.length := kh h1
   refine ADraw.of_sched zb (by rfl) (by rfl) zm8 (by rfl) ?_
   refine ⟨i, rfl, za _ (zn hlt) ?_⟩
   refine zc (by omega) ?_
   refine ⟨i - 1, by omega, za _ (zn (show i - 1 < l.length by omega)) ?_⟩
   refine bcd (fun h2 => ret (h _ ?_)) (fun h2 => ?_)
   ·simp only [Bool.false_eq_true, false_iff]
    intro h3
    have := h3 i hlt (by omega)
    omega
   ·refine zc (by omega) ?_
    refine ⟨i + 1, ?_, ⟨by omega, .inl hlt, rfl, fun j hj h0 h00 => ?_⟩, ⟨Tq, Tq, Tv⟩, Tv⟩
    ·show l.length - (i + 1) < l.length - i
     omega
    ·by_cases hji : j = i
     ·subst hji
      omega
     ·exact hall j hj (by omega) h00
  ·have hge : ¬ i < l.length := by
    rw [zl] at h1
    simpa using h1
   refine ret (h _ ?_)
   simp only [true_iff]
   exact fun j hj h0 => hall j hj (by omega) h0
theorem zra (g : Gnd) (hg : zi g) (a b : Bld) (ha : yc a /\ onP g a) (hb : yc b /\ onP g b) (st : Store) (R : AV -> Store -> Prop) (h : ∀ z : Bool, (z = true ↔ v6 a b) -> R (bool z) st) : ACalls Tryz.prog 123 [.agg (zz a), .agg (zz b)] st R := by
 unfold yc onP at ha hb
 unfold v6 at h
 unfold zi at hg
 refine ACalls.of_body (c := cfg 43) zb Tryz.func123 (by rfl) (by rfl) (by rfl) (by rfl) ?_
 refine zc (by omega) ?_
 refine bcd (fun c1 => ?_) (fun c1 => ret (h _ (by grind)))
 refine zc (by omega) ?_
 refine bcd (fun c2 => ?_) (fun c2 => ret (h _ (by grind)))
 refine zc (by omega) ?_
 refine bcd (fun c3 => ?_) (fun c3 => ret (h _ (by grind)))
 refine zc (by omega) ?_
 exact ret (h _ (by grind))
theorem zsm (g : Gnd) (hg : zi g) (b : Bld) (hb : yc b /\ onP g b) (t : Nat) (ht : (t : Int) < g.W * g.H) (st : Store) (R : AV -> Store -> Prop) (h : ∀ z : Bool, (z = true ↔ ji g b t) -> R (bool z) st) :
  ACalls Tryz.prog 206 [.agg (zr g), .agg (zz b), int t] st R := by
 have htb := wo hg ht
 have hq := Cg (t := t) hg.1.1
 have hq2 := Ch (t := t) hg.1.1
 unfold yc onP at hb
 unfold ji at h
 have hg1 := hg.1
 have hg2 := hg.2.1
 refine ACalls.of_body (c := cfg 45) zb Tryz.func206 (by rfl) (by rfl) (by rfl) (by rfl) ?_
 refine ADraw.of_sched zb (by rfl) (by rfl) zmf (by rfl) ?_
 refine ⟨by omega, ?_⟩
 refine ⟨by omega, ?_⟩
 refine zc (by omega) ?_
 refine ⟨⟨(by repeat (first | exact Tv | refine ⟨rfl, ?_⟩ | refine ⟨optR (optR (optR (za _ (zd _ _ _) rfl))), ?_⟩)), ?_⟩, Tv⟩
 refine ⟨⟨Tv, ?_⟩, Tv⟩
 rw [<- hq, <- hq2] at h
 refine bcd (fun c1 => ?_) (fun c1 => ret (h _ (by grind)))
 refine zc (by omega) ?_
 refine bcd (fun c2 => ?_) (fun c2 => ret (h _ (by grind)))
 refine bcd (fun c3 => ?_) (fun c3 => ret (h _ (by grind)))
 refine zc (by omega) ?_
 exact ret (h _ (by grind))
theorem zog (g : Gnd) (hg : zi g) (b : Bld) (hb : yc b /\ onP g b) (st : Store) (R : AV -> Store -> Prop) (h : ∀ z : Bool, (z = true ↔ Bc g b) -> R (bool z) st) :
  ACalls Tryz.prog 122 [.agg (zr g), .agg (zz b)] st R := by
 have hm := yw hg
 refine ACalls.of_body (c := cfg 35) zb Tryz.func122 (by rfl) (by rfl) (by rfl) (by rfl) ?_
 refine AWp.loop (σ := Nat) ⟨fun i => [(2, .bx 2 0), (3, .bx 3 0), (5, .av (int (i : Nat)))], fun _ => [(2, zr g), (3, zz b)],
  fun i st' => i <= g.T.length /\ st' = st /\ ∀ t, t < i -> ji g b t -> (g.T.getD t 0).toNat <= 1, fun i => g.T.length - i⟩ zb ?_ ?_
 ·exact ⟨0, Tv, ⟨Nat.zero_le _, rfl, fun t ht => by omega⟩, ⟨Tq, Tq, Tq, Tv⟩, ⟨rfl, rfl, Tv⟩⟩
 rintro i st' ⟨hi, rfl, hall⟩
 refine zc (by omega) ?_
 refine bcd (fun h1 => ?_) (fun h1 => ?_)
 rotate_left
 ·refine ret (h _ ?_)
  simp only [true_iff]
  intro t ht
  grind
 have hlt : i < g.T.length := by omega
 have hget : g.T.getD i 0 = g.T[i] := by simp [hlt]
 have next : (ji g b i -> (g.T.getD i 0).toNat <= 1) -> ∀ t, t < i + 1 -> ji g b t -> (g.T.getD t 0).toNat <= 1 := by grind
 refine zsm g hg b hb i (by omega) _ _ (fun z hz => ?_)
 cases z with
 | false =>
  refine zc (by omega) ?_
  refine ⟨i + 1, ?_, ⟨by omega, rfl, next fun hh => by grind⟩, ⟨Tq, Tq, Tq, Tv⟩, ⟨rfl, rfl, Tv⟩⟩
  grind
 | true =>
  refine ⟨i, rfl, za _ (zn hlt) ?_⟩
  have fin : (g.T[i].toNat <= 1) -> ∃ s : Nat, g.T.length - s < g.T.length - i /\ (s <= g.T.length /\ st' = st' /\ ∀ t, t < s -> ji g b t -> (g.T.getD t 0).toNat <= 1) /\ s = i + 1 :=
   fun hh => ⟨i + 1, by omega, ⟨by omega, rfl, next fun _ => by grind⟩, rfl⟩
  refine xd (fun c1 => ?_) (fun c1 => ?_)
  ·refine ⟨i, rfl, za _ (zn hlt) ?_⟩
   refine xd (fun c2 => ?_) (fun c2 => ?_)
   ·refine ret (h _ ?_)
    simp only [Bool.false_eq_true, false_iff]
    intro hf
    have := hf i hlt (hz.1 rfl)
    grind
   ·obtain ⟨s, f1, f2, rfl⟩ := fin (by omega)
    refine zc (by omega) ?_
    exact ⟨i + 1, f1, f2, ⟨Tq, Tq, Tq, Tv⟩, ⟨rfl, rfl, Tv⟩⟩
  ·obtain ⟨s, f1, f2, rfl⟩ := fin (by omega)
   refine zc (by omega) ?_
   exact ⟨i + 1, f1, f2, ⟨Tq, Tq, Tq, Tv⟩, ⟨rfl, rfl, Tv⟩⟩
theorem M7 (g : Gnd) (hg : zi g) (b : Bld) (hb : yc b /\ onP g b) (st : Store) (R : AV -> Store -> Prop) (h : R (wc (kf g.W b)) st) : ACalls Tryz.prog 291 [.agg (zr g), .agg (zz b)] st R := by
 have hb' := hb
 unfold yc onP at hb'
 have hg1 := hg.1
 have hg2 := hg.2.1
 refine ACalls.of_body (c := cfg 35) zb Tryz.func291 (by rfl) (by rfl) (by rfl) (by rfl) ?_
 refine AWp.loop (σ := Nat × AV) ⟨fun s => [(2, .bx 2 0), (3, .bx 3 0), (4, .av s.2), (8, .av (int b.h)), (9, .av (int (s.1 : Nat)))], fun _ => [(2, zr g), (3, zz b)],
  fun s st' => s.1 <= b.h.toNat /\ App 1 st s.2 (rws yn (vd g.W b s.1)) st', fun s => b.h.toNat - s.1⟩ zb ?_ ?_
 ·exact ⟨(0, _), Tv, ⟨Nat.zero_le _, App.start 1 st⟩, ⟨Tq, Tq, Tq, Tq, Tq, Tv⟩, ⟨rfl, rfl, Tv⟩⟩
 rintro ⟨y, v⟩ st' ⟨hy, ha⟩
 dsimp only at hy ha ⊢
 refine bcd (fun h1 => ?_) (fun h1 => ?_)
 rotate_left
 ·have : y = b.h.toNat := by omega
  subst this
  exact ⟨_, st, AV.le_trans ha.le (Tt), ha.has, h⟩
 refine AWp.loop (σ := Nat × AV) ⟨fun s => [(2, .bx 2 0), (3, .bx 3 0), (4, .av s.2), (5, .av (int (y : Nat))), (8, .av (int b.h)), (9, .av (int (y : Nat))), (13, .av (int b.w)), (14, .av (int (s.1 : Nat)))], fun _ => [(2, zr g), (3, zz b)],
  fun s st' => s.1 <= b.w.toNat /\ App 1 st s.2 (rws yn (vd g.W b y ++ ky g.W b y s.1)) st', fun s => b.w.toNat - s.1⟩ zb ?_ ?_
 ·refine ⟨(0, v), Tv, ⟨Nat.zero_le _, ?_⟩, ⟨Tq, Tq, Tq, Tq, Tq, Tq, Tq, Tq, Tv⟩, ⟨rfl, rfl, Tv⟩⟩
  simp_all[ky]
 rintro ⟨x, v2⟩ st2 ⟨hx, ha2⟩
 dsimp only at hx ha2 ⊢
 refine bcd (fun h2 => ?_) (fun h2 => ?_)
 rotate_left
 ·have : x = b.w.toNat := by omega
  subst this
  refine zc (by omega) ?_
  refine ⟨(y + 1, v2), ?_, ⟨by omega, ?_⟩, ⟨Tq, Tq, Tq, Tq, Tq, Tv⟩, ⟨rfl, rfl, Tv⟩⟩
  ·grind
  grind[M8]
 obtain ⟨q1, q2, _⟩ := Dl hg (x := b.x + x) (y := b.y + y) (by omega) (by omega)
 have hm := yw hg
 have q3 : 0 <= g.W * (b.y + (y : Int)) := Int.mul_nonneg (by omega) (by omega)
 refine zc (by omega) ?_
 refine zc (by omega) ?_
 refine zc (by omega) ?_
 refine zc (by omega) ?_
 refine ⟨by decide, ?_⟩
 have hlen : (vd g.W b y ++ ky g.W b y x).length <= 16 := by
  rw [List.length_append, M9, Sq]
  have : y * b.w.toNat <= 3 * 4 := Nat.mul_le_mul (by omega) (by omega)
  omega
 refine By (ie := ti3) (rows' := [yn (b.x + (x : Int) + g.W * (b.y + (y : Int)))]) ha2 ?_ ?_ ⟨?_, ?_⟩ (fun v3 st3 ha3 => ?_)
 ·rfl
 ·rfl
 ·simp only [zl, List.length_singleton, ti3]; omega
 ·grind[zl]
 refine zc (by omega) ?_
 refine ⟨(x + 1, v3), ?_, ⟨by omega, ?_⟩, ⟨Tq, Tq, Tq, Tq, Tq, Tq, Tq, Tq, Tv⟩, ⟨rfl, rfl, Tv⟩⟩
 ·grind
 ·dsimp only
  rw [ov, <- List.append_assoc]
  unfold rws
  rw [List.map_append]
  exact ha3
theorem fa (n : Int) (hn : ye n) (st : Store) (R : AV -> Store -> Prop) (h : R (int (nrm n / 131072)) st) : ACalls Tryz.prog 299 [int n] st R := by
 refine ACalls.of_body (c := cfg 15) zb Tryz.func299 (by rfl) (by rfl) (by rfl) (by rfl) ?_
 refine Du n _ _ ?_
 have hb := jg hn
 generalize nrm n = x at *
 refine bcd (fun c1 => ?_) (fun c1 => ?_)
 ·refine ⟨⟨by omega, by omega⟩, ?_⟩
  refine ⟨⟨by omega, by omega⟩, ?_⟩
  refine ⟨by decide, ?_⟩
  have e : (0 - x - 1).tdiv 131072 = (0 - x - 1) / 131072 := Int.tdiv_eq_ediv_of_nonneg (by omega)
  rw [e]
  refine ⟨⟨by omega, by omega⟩, ?_⟩
  refine ⟨⟨by omega, by omega⟩, ?_⟩
  refine ⟨⟨by omega, by omega⟩, ?_⟩
  rw [show x / 131072 = 0 - ((0 - x - 1) / 131072 + 1) by omega] at h
  exact ret h
 ·refine ⟨by decide, ?_⟩
  have e : x.tdiv 131072 = x / 131072 := Int.tdiv_eq_ediv_of_nonneg (by omega)
  rw [e]
  exact ⟨⟨by omega, by omega⟩, ret h⟩
theorem Ar (p : Vc) (hp : p.ok) (st : Store) (R : AV -> Store -> Prop) (h : R (.agg [int (zu p).1, int (zu p).2]) st) : ACalls Tryz.prog 222 [.agg (zy p)] st R := by
 refine ACalls.of_body (c := cfg 10) zb Tryz.func222 (by rfl) (by rfl) (by rfl) (by rfl) ?_
 refine ADraw.of_sched zb (by rfl) (by rfl) zl7 (by rfl) ?_
 refine ⟨fa p.1 hp.1 _ _ ⟨(by repeat (first | exact Tv | refine ⟨rfl, ?_⟩ | refine ⟨optR (optR (optR (za _ (zd _ _ _) rfl))), ?_⟩)), ?_⟩, Tv⟩
 refine ⟨fa p.2 hp.2 _ _ ⟨(by repeat (first | exact Tv | refine ⟨rfl, ?_⟩ | refine ⟨optR (optR (optR (za _ (zd _ _ _) rfl))), ?_⟩)), ?_⟩, Tv⟩
 refine ⟨⟨(by repeat (first | exact Tv | refine ⟨rfl, ?_⟩ | refine ⟨optR (optR (optR (za _ (zd _ _ _) rfl))), ?_⟩)), ?_⟩, Tv⟩
 exact ret h
theorem gk (R : AV -> Store -> Prop) (h : ∀ a p, CellsOf a p [] -> R (.s (.pointer (some ⟨p, 0, none⟩))) a) : ACalls Tryz.prog 132 [] Store.empty R := by
 refine ACalls.of_body (c := cfg 5 [4] []) zb Tryz.func132 (by rfl) (by rfl) (by rfl) (by rfl) ?_
 refine Mg rfl (fun ma hma => ?_)
 refine Mg rfl (fun mi hmi => ?_)
 intro p hp
 have h1 : mi ≠ ma := fun e => by have := hmi.1; rw [e, zd] at this; cases this
 have h2 : p ≠ mi := fun e => by have := hp.1; rw [e, zd] at this; cases this
 have h3 : p ≠ ma := fun e => by have := hp.1; simp_all[zw,zd]
 refine ret (h _ _ ⟨ma, mi, [], 0, [], [], 0, ⟨zd _ _ _, ?_, ?_, Ne.symm h1, (fun g hg => (by cases hg)), List.nodup_nil⟩, ⟨List.nodup_nil, List.nodup_nil, (fun g hg => (by cases hg)), (fun g hg => (by cases hg)), (fun g hg => (by cases hg))⟩⟩)
 ·simp_all[zw,Ne.symm,zd]
 simp_all[zw,Ne.symm,zd]
theorem gw {st : Store} {v : AV} {ns : List Int} (hv : Ints st v ns) (x : Int) (hlen : ns.length < 4611686018427387904) (hs : ns.Pairwise (· <= ·)) (R : AV -> Store -> Prop)
  (h : R (.tup [int (ns.countP (· < x) : Nat), bool (ns.contains x)]) st) : ACalls Tryz.prog 223 [v, int x] st R :=
 zk2 Tryz.laysNm225 Tryz.func223 rfl rfl hv x hlen hs h
theorem zvf {st : Store} {b cap i j : Nat} {ns : List Int} {L : List AV} (ho : st.obj b = some (.cells (ns.map aI ++ L)))
  (hc1 : ns.length <= cap) (hc2 : cap <= 9223372036854775807) (hij : i <= j) (hj : j <= ns.length) (R : AV -> Store -> Prop)
  (h : R (.s (.slice (some ⟨b, 0, none⟩) (ns.take i ++ ns.drop j).length cap)) (st.setObj b (.cells ((ns.take i ++ ns.drop j).map aI ++ (List.replicate (j - i) (aI 0) ++ L))))) :
  ACalls Tryz.prog 298 [.s (.slice (some ⟨b, 0, none⟩) ns.length cap), int i, int j] st R :=
 zvg Tryz.laysNm223 Tryz.func298 rfl rfl ho hc1 hc2 hij hj h
theorem cz {st : Store} {v : AV} {ns : List Int} (hv : Ints st v ns) {vb : Nat} (x : Int) (i : Nat) (hi : i <= ns.length)
  (hvb : st.obj vb = some (.cells [aI x])) (hne : ∀ b cap, v = .s (.slice (some ⟨b, 0, none⟩) ns.length cap) -> b ≠ vb) (hlen : (ns.length + 1) * 8 <= 140737488355328) (R : AV -> Store -> Prop)
  (h : ∀ b cap L, (Fresh st b \/ ∃ c0, v = .s (.slice (some ⟨b, 0, none⟩) ns.length c0)) -> (ns.take i ++ x :: ns.drop i).length <= cap -> cap <= (ns.take i ++ x :: ns.drop i).length + L.length -> cap <= 9223372036854775807 ->
   R (.s (.slice (some ⟨b, 0, none⟩) (ns.take i ++ x :: ns.drop i).length cap)) (st.setObj b (.cells ((ns.take i ++ x :: ns.drop i).map aI ++ L)))) :
  ACalls Tryz.prog 224 [v, int i, .s (.slice (some ⟨vb, 0, none⟩) 1 1)] st R :=
 zr3 Tryz.laysNm221 Tryz.func224 rfl rfl hv x i hi hvb hne hlen h
theorem P5 {l : List Ent} {G : List Grp} (h : Inv l G) : ∀ g ∈ G, g.ns.length <= l.length := by
 intro g hg
 have h1 := (h.s g hg).1
 have h2 : g.ns.Nodup := h1.imp fun h e => by omega
 have h3 : g.ns ⊆ l.map (·.1) := fun id hid => by
  obtain ⟨e, he, h4, _⟩ := (h.m1 g hg id).1 hid
  grind
 have := List.Nodup.length_le_of_subset h2 h3
 grind
theorem Vj {ns : List Int} (h : ns.Pairwise (· < ·)) : ns.Pairwise (· <= ·) := h.imp fun h => by omega
set_option maxHeartbeats 1000000 in
theorem gj {a : Store} {p : Nat} {l : List Ent} (hc : CellsOf a p l) (hl : l.length <= 1000000000) (hok : ∀ e ∈ l, e.2.ok) (id : Int) (R : AV -> Store -> Prop)
  (h : ∀ a', CellsOf a' p (yu l id) -> R (bool (l.find? (jx id)).isSome) a') : ACalls Tryz.prog 221 [.s (.pointer (some ⟨p, 0, none⟩)), int id] a R := by
 obtain ⟨ma, mi, bs1, c1, G, bs2, c2, ha, hi⟩ := hc
 refine ACalls.of_body (c := cfg 60) zb Tryz.func221 (by rfl) (by rfl) (by rfl) (by rfl) ?_
 refine za _ ha.hp ?_
 refine Ah rfl (it := ti320) (ie := ti36) (ik := ti3) rfl rfl rfl rfl ha.ha rfl (qA id) (fun e he => ?_) ?_
 ·obtain ⟨e, _, rfl⟩ := List.mem_map.1 he
  rfl
 rw [eh]
 cases hf : l.find? (jx id) with
 | none =>
  rw [hf] at h
  refine ret (h a ?_)
  rw [zuw hf]
  exact ⟨ma, mi, bs1, c1, G, bs2, c2, ha, hi⟩
 | some e =>
  rw [hf] at h
  obtain ⟨hem, heq⟩ := Lg hf
  have hid : e.1 = id := (by simpa [jx] using heq : id = e.1).symm
  refine Ar e.2 (hok e hem) _ _ ?_
  obtain ⟨g, hg, hk⟩ := hi.m2 e hem
  have hfg : ∃ g', G.find? (Bf (zu e.2)) = some g' := by
   cases hx : G.find? (Bf (zu e.2)) with
   | some g' => simp
   | none => grind[atKey_iff]
  obtain ⟨g', hfg⟩ := hfg
  have hg' := Lg hfg
  have : g' = g := zrs hi.n2 hg hg'.1 (by rw [hk]; exact atKey_iff.1 hg'.2)
  subst this
  obtain ⟨j, hj1, hj2⟩ := Pk hfg
  obtain ⟨k1, k2, k3⟩ := ha.hg g' hg
  obtain ⟨s1, s2⟩ := hi.s g' hg
  have hin : id ∈ g'.ns := (hi.m1 g' hg id).2 ⟨e, hem, hid, hk.symm⟩
  obtain ⟨d1, d2, d3⟩ := zvh s1 hin
  have hlen := P5 hi g' hg
  refine ADraw.of_sched zb (by rfl) (by rfl) zl9 (by rfl) ?_
  refine za (o := a.obj p) _ ha.hp ?_
  refine ⟨Ah rfl (it := ti321) (ie := ti29) (ik := ti325) rfl rfl rfl rfl ha.hi rfl (qG (zu e.2).1 (zu e.2).2) (fun e he => ?_) ⟨(by repeat (first | exact Tv | refine ⟨rfl, ?_⟩ | refine ⟨optR (optR (optR (za _ (zd _ _ _) rfl))), ?_⟩)), ?_⟩, Tv⟩
  ·obtain ⟨e, _, rfl⟩ := List.mem_map.1 he
   rfl
  rw [H8, hfg]
  refine ⟨⟨(by repeat (first | exact Tv | refine ⟨rfl, ?_⟩ | refine ⟨optR (optR (optR (za _ (zd _ _ _) rfl))), ?_⟩)), ?_⟩, Tv⟩
  refine gw (.inr ⟨g'.b, g'.cap, g'.L, rfl, k1, k2⟩) id (by omega) (Vj s1) _ ?_
  refine ⟨⟨by omega, by omega⟩, ?_⟩
  refine zvf k1 k2.1 k2.2.2 (Nat.le_add_right _ 1) d1 _ ?_
  generalize hns : g'.ns.take (g'.ns.countP fun x => decide (x < id)) ++ g'.ns.drop (g'.ns.countP (fun x => decide (x < id)) + 1) = ns' at *
  obtain ⟨n1, n2, n3⟩ := ha.g_ne hg
  have mid := ha.mid (.cells (ns'.map aI ++ (List.replicate (g'.ns.countP (fun x => decide (x < id)) + 1 - g'.ns.countP (fun x => decide (x < id))) (aI 0) ++ g'.L))) n3 n1 n2
  rw [show g'.ns.countP (fun x => decide (x < id)) + 1 - g'.ns.countP (fun x => decide (x < id)) = 1 by omega] at mid ⊢
  have hnl : ns'.length + 1 = g'.ns.length := by grind
  obtain ⟨v1, v2⟩ := zrx hi hem hj2 hk d2 (by grind)
  obtain ⟨i, hi1, hi2⟩ := Pk hf
  have her : (l.map jl).eraseIdx i = (yu l id).map jl := by rw [Ln, zus hi.n1 hi2, hid]
  refine yj (fun hz => ?_) (fun hz => ?_)
  ·have hn0 : ns' = [] := List.eq_nil_of_length_eq_zero (by omega)
   refine ADraw.of_sched zb (by rfl) (by rfl) zl8 (by rfl) ?_
   refine za (o := (a.setObj g'.b _).obj p) _ mid.hp ?_
   refine ⟨Rn rfl rfl rfl rfl (it := ti321) (ik := ti325) rfl rfl rfl mid.hi rfl (qG (zu e.2).1 (zu e.2).2) (fun e he => ?_) ⟨(by repeat (first | exact Tv | refine ⟨rfl, ?_⟩ | refine ⟨optR (optR (optR (za _ (zd _ _ _) rfl))), ?_⟩)), ?_⟩, Tv⟩
   ·obtain ⟨e, _, rfl⟩ := List.mem_map.1 he
    rfl
   have m1 := mid.setI (G' := G.eraseIdx j) (bs2.eraseIdx j) c2 (fun g1 h1 => .inl ?_) (mid.nd.sublist ((List.eraseIdx_sublist ..).map _))
   rotate_left
   ·obtain ⟨q1, q2⟩ := (Kq (f := Grp.key) hi.n2 hj2).1 h1
    refine ⟨q1, fun e => q2 ?_⟩
    obtain ⟨i1, hi1⟩ := List.mem_iff_getElem?.1 q1
    have := wy (f := fun g : Grp => g.b) ha.nd hi1 hj2 e
    grind
   have e1 : Aw (G.map jk) bs2 c2 (qG (zu e.2).1 (zu e.2).2) = .map ((G.eraseIdx j).map jk) (bs2.eraseIdx j) c2 := by grind[Aw,Li,Ln]
   rw [e1]
   refine za _ m1.hp ?_
   refine Rn rfl rfl rfl rfl (it := ti320) (ik := ti3) rfl rfl rfl m1.ha rfl (qA id) (fun e he => ?_) ?_
   ·obtain ⟨e, _, rfl⟩ := List.mem_map.1 he
    rfl
   have e2 : Aw (l.map jl) bs1 c1 (qA id) = .map ((yu l id).map jl) (bs1.eraseIdx i) c1 := by grind[Aw,Lj]
   rw [e2]
   have m2 := m1.setA (yu l id) (bs1.eraseIdx i) c1
   rw [hid] at v1
   exact ret (h _ ⟨ma, mi, _, _, _, _, _, m2, v1 hn0⟩)
  ·have hn0 : ns' ≠ [] := fun e => by grind
   refine ADraw.of_sched zb (by rfl) (by rfl) zma (by rfl) ?_
   refine za (o := (a.setObj g'.b _).obj p) _ mid.hp ?_
   refine ⟨Ff (.inl rfl) rfl (it := ti321) (ik := ti325) rfl rfl rfl mid.hi rfl rfl (qG (zu e.2).1 (zu e.2).2) (fun e he => ?_) (fun e1 he hq => ?_) ⟨(by repeat (first | exact Tv | refine ⟨rfl, ?_⟩ | refine ⟨optR (optR (optR (za _ (zd _ _ _) rfl))), ?_⟩)), ?_⟩, Tv⟩
   ·obtain ⟨e, _, rfl⟩ := List.mem_map.1 he
    rfl
   ·obtain ⟨g1, _, rfl⟩ := List.mem_map.1 he
    have := (atKey_iff (k := zu e.2) (g := g1)).1 hq
    show AV.agg [int g1.x, int g1.y] = _
    rw [<- this]; rfl
   let g2 : Grp := ⟨g'.x, g'.y, ns', g'.b, g'.cap, List.replicate 1 (aI 0) ++ g'.L⟩
   have e1 : j3 (G.map jk) bs2 c2 (qG (zu e.2).1 (zu e.2).2) (.agg [int (zu e.2).1, int (zu e.2).2]) (.s (.slice (some ⟨g'.b, 0, none⟩) ns'.length g'.cap)) = .map ((G.set j g2).map jk) bs2 c2 := by
    unfold j3
    rw [Li, hj1, List.map_set]
    simp only
    congr 2
    show _ = (AV.agg [int g'.x, int g'.y], _)
    rw [<- hk]; rfl
   have m1 := mid.setI (G' := G.set j g2) bs2 c2 (fun g1 h1 => ?_) (by rw [Oz (fun g : Grp => g.b) (g' := g2) hj2 rfl]; exact mid.nd)
   rotate_left
   ·rcases (wz (f := fun g : Grp => g.b) ha.nd hj2).1 h1 with rfl | ⟨q1, q2⟩
    ·refine .inr ⟨zd _ _ _, ⟨?_, ?_, k2.2.2⟩, k3⟩
     ·show ns'.length <= g'.cap
      have := k2.1; omega
     ·show g'.cap <= ns'.length + (List.replicate 1 (aI 0) ++ g'.L).length
      have := k2.2.1
      grind
    grind
   rw [<- e1] at m1
   refine za _ m1.hp ?_
   refine Rn rfl rfl rfl rfl (it := ti320) (ik := ti3) rfl rfl rfl m1.ha rfl (qA id) (fun e he => ?_) ?_
   ·obtain ⟨e, _, rfl⟩ := List.mem_map.1 he
    rfl
   have e2 : Aw (l.map jl) bs1 c1 (qA id) = .map ((yu l id).map jl) (bs1.eraseIdx i) c1 := by grind[Aw,Lj]
   rw [e2]
   have m2 := m1.setA (yu l id) (bs1.eraseIdx i) c1
   rw [hid] at v2
   exact ret (h _ ⟨ma, mi, _, _, _, _, _, m2, v2 hn0 g2 rfl rfl⟩)
theorem Lo {l : List Ent} {id : Int} : ∀ e ∈ yu l id, e.1 ≠ id := fun e he => (mem_dropId.1 he).2
theorem zux (l : List Ent) (id : Int) : (yu l id).length <= l.length := List.length_filter_le _ _
set_option maxHeartbeats 1000000 in
theorem zwc {a : Store} {p : Nat} {l : List Ent} (hc : CellsOf a p l) (hl : l.length <= 1000000000) (hok : ∀ e ∈ l, e.2.ok) (id : Int) (pos : Vc) (hpos : pos.ok) (R : AV -> Store -> Prop)
  (h : ∀ a', CellsOf a' p (yu l id ++ [(id, pos)]) -> R (.tup []) a') : ACalls Tryz.prog 133 [.s (.pointer (some ⟨p, 0, none⟩)), int id, .agg (zy pos)] a R := by
 refine ACalls.of_body (c := cfg 46 [38, 1000038] []) zb Tryz.func133 (by rfl) (by rfl) (by rfl) (by rfl) ?_
 refine gj hc hl hok id _ (fun a1 hc1 => ?_)
 obtain ⟨ma, mi, bs1, c1, G, bs2, c2, ha, hi⟩ := hc1
 refine Ar pos hpos _ _ ?_
 obtain ⟨cur, ns, e1, e2, e3, e4, e5, e6⟩ := zpe (pos := pos) ha hi Lo
 have hnl : ns.length <= 1000000000 := by
  rcases e4 with rfl | ⟨g, hg, rfl⟩
  ·simp
  ·have h1 := P5 hi g hg
   have h2 := zux l id
   omega
 have hle := zvq id ns
 refine ADraw.of_sched zb (by rfl) (by rfl) zm3 (by rfl) ?_
 refine za (o := a1.obj p) _ ha.hp ?_
 refine ⟨Ah rfl (it := ti321) (ie := ti29) (ik := ti325) rfl rfl rfl rfl ha.hi rfl (qG (zu pos).1 (zu pos).2) (fun e he => ?_) ⟨(by repeat (first | exact Tv | refine ⟨rfl, ?_⟩ | refine ⟨optR (optR (optR (za _ (zd _ _ _) rfl))), ?_⟩)), ?_⟩, Tv⟩
 ·obtain ⟨e, _, rfl⟩ := List.mem_map.1 he
  rfl
 rw [H8, show wi ti29 = .s (.slice none 0 0) from rfl, e1]
 refine ⟨gw e2 id (by omega) (Vj e3) _ ⟨(by repeat (first | exact Tv | refine ⟨rfl, ?_⟩ | refine ⟨optR (optR (optR (za _ (zd _ _ _) rfl))), ?_⟩)), ?_⟩, Tv⟩
 refine ⟨⟨(by repeat (first | exact Tv | refine ⟨rfl, ?_⟩ | refine ⟨optR (optR (optR (za _ (zd _ _ _) rfl))), ?_⟩)), ?_⟩, Tv⟩
 refine ⟨⟨(by repeat (first | exact Tv | refine ⟨rfl, ?_⟩ | refine ⟨optR (optR (optR (za _ (zd _ _ _) rfl))), ?_⟩)), ?_⟩, Tv⟩
 refine ADraw.of_sched zb (by rfl) (by rfl) zm2 (by rfl) ?_
 refine za (o := a1.obj p) _ ha.hp ?_
 refine za (o := a1.obj p) _ ha.hp ?_
 refine ⟨Ah rfl (it := ti321) (ie := ti29) (ik := ti325) rfl rfl rfl rfl ha.hi rfl (qG (zu pos).1 (zu pos).2) (fun e he => ?_) ⟨?_, ?_⟩, ?_⟩
 ·obtain ⟨e, _, rfl⟩ := List.mem_map.1 he
  rfl
 ·repeat (first | exact Tv | refine ⟨rfl, ?_⟩ | refine ⟨za (o := a1.obj p) _ ha.hp rfl, ?_⟩)
 ·rw [H8, show wi ti29 = .s (.slice none 0 0) from rfl, e1]
  refine ⟨⟨by decide, fun vb hvb => ?_⟩, Tv⟩
  have hp1 := (ha.fresh (.cells [aI id]) hvb).hp
  refine ⟨?_, ?_⟩
  ·repeat (first | exact Tv | refine ⟨rfl, ?_⟩ | refine ⟨za (o := (a1.setObj vb (.cells [aI id])).obj p) _ hp1 rfl, ?_⟩)
  refine ⟨cz (e2.fresh _ hvb) id _ hle (zd _ _ _) (fun b cap hc he => e5 b cap hc (he ▸ hvb.1)) (by omega) _ (fun b cap L q1 q2 q3 q4 => ?_), Tv⟩
  obtain ⟨w1, w2, G', bs2', c2', w3, w4, w5⟩ := e6 vb _ b cap L hvb q1 q2 q3 q4
  refine ⟨?_, ?_⟩
  ·repeat (first | exact Tv | refine ⟨rfl, ?_⟩ | refine ⟨za (o := Store.obj (Store.setObj _ b _) p) _ w2 rfl, ?_⟩)
  refine ⟨Ff (.inl rfl) rfl (it := ti321) (ik := ti325) rfl rfl rfl w1 rfl rfl (qG (zu pos).1 (zu pos).2) (fun e he => ?_) (fun e1 he hq => ?_) ⟨(by repeat (first | exact Tv | refine ⟨rfl, ?_⟩ | refine ⟨optR (optR (optR (za _ (zd _ _ _) rfl))), ?_⟩)), ?_⟩, Tv⟩
  ·obtain ⟨e, _, rfl⟩ := List.mem_map.1 he
   rfl
  ·obtain ⟨g1, _, rfl⟩ := List.mem_map.1 he
   have := (atKey_iff (k := zu pos) (g := g1)).1 hq
   show AV.agg [int g1.x, int g1.y] = _
   rw [<- this]; rfl
  rw [w3]
  refine ADraw.of_sched zb (by rfl) (by rfl) Vw (by rfl) ?_
  refine za (o := Store.obj (Store.setObj _ mi _) p) _ w4.hp ?_
  refine ⟨Ff (.inl rfl) rfl (it := ti320) (ik := ti3) rfl rfl rfl w4.ha rfl rfl (qA id) (fun e he => ?_) (fun e1 he hq => ?_) ⟨(by repeat (first | exact Tv | refine ⟨rfl, ?_⟩ | refine ⟨optR (optR (optR (za _ (zd _ _ _) rfl))), ?_⟩)), ?_⟩, Tv⟩
  ·obtain ⟨e, _, rfl⟩ := List.mem_map.1 he
   rfl
  ·obtain ⟨g1, hg1, rfl⟩ := List.mem_map.1 he
   grind[qA,jl,int]
  have e7 : j3 ((yu l id).map jl) bs1 c1 (qA id) (int id) (.agg (zy pos)) = .map ((yu l id ++ [(id, pos)]).map jl) (bs1 ++ [c1]) (c1 + 1) := by
   unfold j3
   have : (yu l id).findIdx? (jx id) = none := by
    rw [List.findIdx?_eq_none_iff]
    intro e he
    grind[Lo,jx]
   rw [Lj, this, List.map_append]
   rfl
  have w6 := w4.setA (yu l id ++ [(id, pos)]) (bs1 ++ [c1]) (c1 + 1)
  rw [<- e7] at w6
  exact ret (h _ ⟨ma, mi, _, _, G', _, _, w6, w5⟩)
 ·refine ⟨⟨by decide, fun vb hvb => ?_⟩, Tv⟩
  have ha1 := ha.fresh (.cells [aI id]) hvb
  have hp1 := ha1.hp
  refine ⟨?_, ?_⟩
  ·repeat (first | exact Tv | refine ⟨rfl, ?_⟩ | refine ⟨za (o := (a1.setObj vb (.cells [aI id])).obj p) _ hp1 rfl, ?_⟩)
  refine ⟨Ah rfl (it := ti321) (ie := ti29) (ik := ti325) rfl rfl rfl rfl ha1.hi rfl (qG (zu pos).1 (zu pos).2) (fun e he => ?_) ⟨?_, ?_⟩, Tv⟩
  ·obtain ⟨e, _, rfl⟩ := List.mem_map.1 he
   rfl
  ·repeat (first | exact Tv | refine ⟨rfl, ?_⟩ | refine ⟨za (o := (a1.setObj vb (.cells [aI id])).obj p) _ hp1 rfl, ?_⟩)
  rw [H8, show wi ti29 = .s (.slice none 0 0) from rfl, e1]
  refine ⟨cz (e2.fresh _ hvb) id _ hle (zd _ _ _) (fun b cap hc he => e5 b cap hc (he ▸ hvb.1)) (by omega) _ (fun b cap L q1 q2 q3 q4 => ?_), Tv⟩
  obtain ⟨w1, w2, G', bs2', c2', w3, w4, w5⟩ := e6 vb _ b cap L hvb q1 q2 q3 q4
  refine ⟨?_, ?_⟩
  ·repeat (first | exact Tv | refine ⟨rfl, ?_⟩ | refine ⟨za (o := Store.obj (Store.setObj _ b _) p) _ w2 rfl, ?_⟩)
  refine ⟨Ff (.inl rfl) rfl (it := ti321) (ik := ti325) rfl rfl rfl w1 rfl rfl (qG (zu pos).1 (zu pos).2) (fun e he => ?_) (fun e1 he hq => ?_) ⟨(by repeat (first | exact Tv | refine ⟨rfl, ?_⟩ | refine ⟨optR (optR (optR (za _ (zd _ _ _) rfl))), ?_⟩)), ?_⟩, Tv⟩
  ·obtain ⟨e, _, rfl⟩ := List.mem_map.1 he
   rfl
  ·obtain ⟨g1, _, rfl⟩ := List.mem_map.1 he
   have := (atKey_iff (k := zu pos) (g := g1)).1 hq
   show AV.agg [int g1.x, int g1.y] = _
   rw [<- this]; rfl
  rw [w3]
  refine ADraw.of_sched zb (by rfl) (by rfl) Vw (by rfl) ?_
  refine za (o := Store.obj (Store.setObj _ mi _) p) _ w4.hp ?_
  refine ⟨Ff (.inl rfl) rfl (it := ti320) (ik := ti3) rfl rfl rfl w4.ha rfl rfl (qA id) (fun e he => ?_) (fun e1 he hq => ?_) ⟨(by repeat (first | exact Tv | refine ⟨rfl, ?_⟩ | refine ⟨optR (optR (optR (za _ (zd _ _ _) rfl))), ?_⟩)), ?_⟩, Tv⟩
  ·obtain ⟨e, _, rfl⟩ := List.mem_map.1 he
   rfl
  ·obtain ⟨g1, hg1, rfl⟩ := List.mem_map.1 he
   have : id = g1.1 := by simpa [qA, jl, int] using hq
   exact absurd this.symm (Lo g1 hg1)
  have e7 : j3 ((yu l id).map jl) bs1 c1 (qA id) (int id) (.agg (zy pos)) = .map ((yu l id ++ [(id, pos)]).map jl) (bs1 ++ [c1]) (c1 + 1) := by
   unfold j3
   have : (yu l id).findIdx? (jx id) = none := by
    rw [List.findIdx?_eq_none_iff]
    intro e he
    have := Lo e he
    simp [jx]
    exact fun h => this h.symm
   rw [Lj, this, List.map_append]
   rfl
  have w6 := w4.setA (yu l id ++ [(id, pos)]) (bs1 ++ [c1]) (c1 + 1)
  rw [<- e7] at w6
  exact ret (h _ ⟨ma, mi, _, _, G', _, _, w6, w5⟩)
def ptr (b : Nat) : AV := .s (.pointer (some ⟨b, 0, none⟩))
set_option maxHeartbeats 1000000 in
theorem Ss {F N : Store} (hd : zv F N) {p : Nat} {l : List Ent} (hc : CellsOf F p l) {b3 b4 b5 b6 : Nat} {q : Vc} {r : Int} {v : AV} {acc : List Int} (hN : NearAt N b3 b4 b5 b6 p q r v acc) (hq : q.ok) (hr : r <= 9223372036854775807)
  {e : Ent} (he : l.find? (jx e.1) = some e) (hok : e.2.ok) (hlen : acc.length <= 1000000000000) (R : AV -> Store -> Prop)
  (h : ∀ N' v', zv F N' -> NearAt N' b3 b4 b5 b6 p q r v' (if near q e.2 r then acc ++ [e.1] else acc) -> R (.tup []) (F.un N')) :
  ACalls Tryz.prog 304 [int e.1, ptr b4, ptr b3, ptr b5, ptr b6] (F.un N) R := by
 obtain ⟨ma, mi, bs1, c1, G, bs2, c2, ha, hi⟩ := hc
 refine ACalls.of_body (c := cfg 19) zb Tryz.func304 (by rfl) (by rfl) (by rfl) (by rfl) ?_
 refine ADraw.of_sched zb (by rfl) (by rfl) zlz (by rfl) ?_
 refine za (o := (F.un N).obj b4) _ (ze hN.h4) ?_
 refine za (o := (F.un N).obj b3) _ (ze hN.h3) ?_
 refine za (o := (F.un N).obj p) _ (qj hd ha.hp) ?_
 refine za (o := (F.un N).obj b5) _ (ze hN.h5) ?_
 refine ⟨Ah rfl (it := ti320) (ie := ti36) (ik := ti3) rfl rfl rfl rfl (qj hd ha.ha) rfl (qA e.1) (fun e he => ?_) ⟨?_, ?_⟩, Tv⟩
 ·obtain ⟨e, _, rfl⟩ := List.mem_map.1 he
  rfl
 ·repeat (first | exact Tv | refine ⟨rfl, ?_⟩ | refine ⟨za (o := (F.un N).obj b4) _ (ze hN.h4) rfl, ?_⟩ | refine ⟨za (o := (F.un N).obj b5) _ (ze hN.h5) rfl, ?_⟩)
 rw [eh, he]
 refine ⟨Iu q e.2 r hq hok hr _ _ ⟨Tv, ?_⟩, Tv⟩
 cases hn : near q e.2 r with
 | false =>
  rw [hn] at h
  exact ret (h N v hd hN)
 | true =>
  rw [hn] at h
  refine za (o := (F.un N).obj b6) _ (ze hN.h6) ?_
  refine ⟨by decide, ?_⟩
  refine zxc (ie := ti3) rfl rfl rfl hN.hv.un e.1 hlen (fun b cap L q1 q2 q3 q4 => ?_)
  have q1' : Fresh N b \/ ∃ c0, v = .s (.slice (some ⟨b, 0, none⟩) acc.length c0) := q1.imp (fun h => (Gk h).2) id
  have hN' := hN.app q1' q2 q3 q4
  rw [qk]
  have hd1 : zv F (N.setObj b (.cells ((acc ++ [e.1]).map aI ++ L))) := by
   rcases q1 with q1 | ⟨c0, q1⟩
   ·exact Ia hd (Gk q1).1
   ·rcases hN.hv with ⟨h1, _⟩ | ⟨b', _, _, h1, h2, _⟩
    ·grind
    grind[Gr]
  have hd2 := Gr (x := .cells [.s (.slice (some ⟨b, 0, none⟩) (acc ++ [e.1]).length cap)]) hd1 (b := b6) (y := .cells [v]) (by
   have hne : b6 ≠ b := by
    rcases q1' with q1 | ⟨c0, q1⟩
    ·exact Ne.symm (q1.ne_obj hN.h6)
    ·exact Ne.symm (hN.nv b _ _ q1).2.2.2
   rw [zw hne]; exact hN.h6)
  have h6' : (N.setObj b (.cells ((acc ++ [e.1]).map aI ++ L))).obj b6 = some (.cells [v]) := by
   have hne : b6 ≠ b := by
    rcases q1' with q1 | ⟨c0, q1⟩
    ·exact Ne.symm (q1.ne_obj hN.h6)
    ·exact Ne.symm (hN.nv b _ _ q1).2.2.2
   rw [zw hne]; exact hN.h6
  refine y7 (i := ti29) (v := .s (.slice (some ⟨b, 0, none⟩) (acc ++ [e.1]).length cap)) (b := b6) (o := 0) (l := [v]) (st2 := F.un ((N.setObj b (.cells ((acc ++ [e.1]).map aI ++ L))).setObj b6 (.cells [.s (.slice (some ⟨b, 0, none⟩) (acc ++ [e.1]).length cap)]))) rfl rfl rfl (ze h6') (Nat.le_refl _) ?_ ?_
  ·rw [qk]; rfl
  ·exact ret (h _ _ hd2 hN')
theorem CellsOf.fresh {F : Store} {p : Nat} {l : List Ent} (h : CellsOf F p l) {b : Nat} (x : AObj) (hb : Fresh F b) : CellsOf (F.setObj b x) p l := by
 obtain ⟨ma, mi, bs1, c1, G, bs2, c2, ha, hi⟩ := h
 exact ⟨ma, mi, bs1, c1, G, bs2, c2, ha.fresh x hb, hi⟩
theorem zkk {st : Store} {b cap : Nat} {ns : List Int} {L : List AV} (ho : st.obj b = some (.cells (ns.map aI ++ L))) (hlen : ns.length < 4611686018427387904) (R : AV -> Store -> Prop)
  (h : R (.tup []) (st.setObj b (.cells ((ns.mergeSort fun x y => decide (x <= y)).map aI ++ L)))) : ACalls Tryz.prog 305 [.s (.slice (some ⟨b, 0, none⟩) ns.length cap)] st R :=
 zkn Tryz.lays189 Tryz.func305 rfl rfl ho hlen h
theorem zkl {st : Store} (R : AV -> Store -> Prop) (h : R (.tup []) st) : ACalls Tryz.prog 305 [.s (.slice none 0 0)] st R :=
 zkm Tryz.lays189 Tryz.func305 rfl rfl h
def Ci (b3 b4 b5 b6 : Nat) : AV := .clos 304 [ptr b4, ptr b3, ptr b5, ptr b6]
set_option maxHeartbeats 2000000 in
theorem zwd {F : Store} {p : Nat} {l : List Ent} (hc : CellsOf F p l) (hl : l.length <= 1000000000) (hok : ∀ e ∈ l, e.2.ok) {q : Vc} (hq : q.ok) {r : Int} (hr : ye r) (R : AV -> Store -> Prop)
  (h : ∀ F' N v ns, CellsOf F' p l -> zv F' N -> Ints N v ns -> Iq l q r ns -> R v (F'.un N)) : ACalls Tryz.prog 226 [ptr p, .agg (zy q), int r] F R := by
 refine ACalls.of_awp (c := cfg 126 [3, 4, 5, 6] []) zb Tryz.func226 (by rfl) (by rfl) (by rfl) (by rfl) ?_
 refine AWp.seq (AWp.of_vc zb ?_)
 intro b3 hb3 b4 hb4 b5 hb5 b6 hb6
 have n43 : b4 ≠ b3 := fun e => by have := hb4.1; rw [e, zd] at this; cases this
 have n54 : b5 ≠ b4 := fun e => by have := hb5.1; rw [e, zd] at this; cases this
 have n53 : b5 ≠ b3 := fun e => by have := hb5.1; simp_all[zw,zd]
 have n65 : b6 ≠ b5 := fun e => by have := hb6.1; rw [e, zd] at this; cases this
 have n64 : b6 ≠ b4 := fun e => by have := hb6.1; simp_all[zw,zd]
 have n63 : b6 ≠ b3 := fun e => by have := hb6.1; simp_all[zw,zd]
 have est : (((F.setObj b3 (.cells [ptr p])).setObj b4 (.cells (zy q))).setObj b5 (.cells [int r])).setObj b6 (.cells [.s (.slice none 0 0)]) =
   F.un ((((Store.empty.setObj b3 (.cells [ptr p])).setObj b4 (.cells (zy q))).setObj b5 (.cells [int r])).setObj b6 (.cells [.s (.slice none 0 0)])) := by
  rw [<- qk, <- qk, <- qk, <- qk, Fj]
 have f3 : Fresh F b3 := hb3
 have f4 : Fresh F b4 := by have := hb4; rw [<- Fj F, qk] at this; exact (Gk this).1
 have f5 : Fresh F b5 := by have := hb5; rw [<- Fj F, qk, qk] at this; exact (Gk this).1
 have f6 : Fresh F b6 := by have := hb6; rw [<- Fj F, qk, qk, qk] at this; exact (Gk this).1
 have hN0 : NearAt ((((Store.empty.setObj b3 (.cells [ptr p])).setObj b4 (.cells (zy q))).setObj b5 (.cells [int r])).setObj b6 (.cells [.s (.slice none 0 0)])) b3 b4 b5 b6 p q r (.s (.slice none 0 0)) [] := by
  refine ⟨?_, ?_, ?_, zd _ _ _, .inl ⟨rfl, rfl⟩, Ne.symm n63, Ne.symm n64, Ne.symm n65, fun b n cap e => by cases e⟩
  ·rw [zw (Ne.symm n63), zw (Ne.symm n53), zw (Ne.symm n43)]; exact zd _ _ _
  ·simp_all[zw,Ne.symm,zd]
  simp_all[zw,Ne.symm,zd]
 have hd0 : zv F ((((Store.empty.setObj b3 (.cells [ptr p])).setObj b4 (.cells (zy q))).setObj b5 (.cells [int r])).setObj b6 (.cells [.s (.slice none 0 0)])) :=
  Ia (Ia (Ia (Ia (zu9 F) f3) f4) f5) f6
 show AWp _ _ _ _ _ ((((F.setObj b3 (.cells [ptr p])).setObj b4 (.cells (zy q))).setObj b5 (.cells [int r])).setObj b6 (.cells [.s (.slice none 0 0)]))
 rw [est]
 generalize ((((Store.empty.setObj b3 (.cells [ptr p])).setObj b4 (.cells (zy q))).setObj b5 (.cells [int r])).setObj b6 (.cells [.s (.slice none 0 0)])) = N0 at *
 clear est hb3 hb4 hb5 hb6
 refine AWp.seq (AWp.of_vc zb ?_)
 refine za (o := (F.un N0).obj b5) _ (ze hN0.h5) ?_
 refine bcd (fun c1 => ?_) (fun c1 => ?_)
 ·refine Fu (i := ti29) (v := .s (.slice none 0 0)) (b := b6) (o := 0) (l := [.s (.slice none 0 0)]) rfl rfl rfl (ze hN0.h6) (Nat.le_refl _) ?_
  refine za (o := Store.obj (Store.setObj _ b6 _) b6) _ (zd _ _ _) ?_
  refine ret ?_
  rw [qk]
  refine h F _ _ [] hc (Gr hd0 hN0.h6) (.inl ⟨rfl, rfl⟩) ⟨List.Pairwise.nil, fun id => ⟨(fun h => (by cases h)), fun ⟨e, _, _, hn⟩ => ?_⟩⟩
  unfold near at hn
  grind
 refine AWp.seq (AWp.of_vc zb ?_)
 have hr0 : 0 < r := by omega
 have hr1 : r <= 9223372036854775807 := hr.2
 have sub_q1 := C6 q.1 r
 have sub_q2 := C6 q.2 r
 have add_q1 := Lm q.1 r
 have add_q2 := Lm q.2 r
 refine AWp.meet (σ := Unit) ⟨fun _ => [(3, .av (ptr b3)), (4, .av (ptr b4)), (5, .av (ptr b5)), (6, .av (ptr b6)), (7, .av (Ci b3 b4 b5 b6)), (8, .bx 8 0)], fun _ => [(8, [int (zu (yh q.1 r, yh q.2 r)).1, int (zu (yh q.1 r, yh q.2 r)).2])],
  fun _ st' => st' = F.un N0⟩ zb ?_ ?_
 ·refine ADraw.of_sched zb (by rfl) (by rfl) zl6 (by rfl) ?_
  refine za (o := (F.un N0).obj b4) _ (ze hN0.h4) ?_
  refine za (o := (F.un N0).obj b5) _ (ze hN0.h5) ?_
  refine za (o := (F.un N0).obj b4) _ (ze hN0.h4) ?_
  refine za (o := (F.un N0).obj b5) _ (ze hN0.h5) ?_
  refine ⟨Ck q.1 r hq.1 hr _ _ ⟨(by repeat (first | exact Tv | refine ⟨rfl, ?_⟩ | refine ⟨za (o := (F.un N0).obj b4) _ (ze hN0.h4) rfl, ?_⟩ | refine ⟨za (o := (F.un N0).obj b5) _ (ze hN0.h5) rfl, ?_⟩)), ⟨Ck q.2 r hq.2 hr _ _ ⟨(by repeat (first | exact Tv | refine ⟨rfl, ?_⟩ | refine ⟨za (o := (F.un N0).obj b4) _ (ze hN0.h4) rfl, ?_⟩ | refine ⟨za (o := (F.un N0).obj b5) _ (ze hN0.h5) rfl, ?_⟩)), ⟨Ar (yh q.1 r, yh q.2 r) ⟨sub_q1, sub_q2⟩ _ _ ⟨(by repeat (first | exact Tv | refine ⟨rfl, ?_⟩ | refine ⟨za (o := (F.un N0).obj b4) _ (ze hN0.h4) rfl, ?_⟩ | refine ⟨za (o := (F.un N0).obj b5) _ (ze hN0.h5) rfl, ?_⟩)), ⟨⟨(by repeat (first | exact Tv | refine ⟨rfl, ?_⟩ | refine ⟨za (o := (F.un N0).obj b4) _ (ze hN0.h4) rfl, ?_⟩ | refine ⟨za (o := (F.un N0).obj b5) _ (ze hN0.h5) rfl, ?_⟩)), ⟨⟨(by repeat (first | exact Tv | refine ⟨rfl, ?_⟩ | refine ⟨za (o := (F.un N0).obj b4) _ (ze hN0.h4) rfl, ?_⟩ | refine ⟨za (o := (F.un N0).obj b5) _ (ze hN0.h5) rfl, ?_⟩)), ?_⟩, Tv⟩⟩, Tv⟩⟩, ⟨⟨(by repeat (first | exact Tv | refine ⟨rfl, ?_⟩ | refine ⟨za (o := (F.un N0).obj b4) _ (ze hN0.h4) rfl, ?_⟩ | refine ⟨za (o := (F.un N0).obj b5) _ (ze hN0.h5) rfl, ?_⟩)), ⟨Ar (yh q.1 r, yh q.2 r) ⟨sub_q1, sub_q2⟩ _ _ ⟨(by repeat (first | exact Tv | refine ⟨rfl, ?_⟩ | refine ⟨za (o := (F.un N0).obj b4) _ (ze hN0.h4) rfl, ?_⟩ | refine ⟨za (o := (F.un N0).obj b5) _ (ze hN0.h5) rfl, ?_⟩)), ⟨⟨(by repeat (first | exact Tv | refine ⟨rfl, ?_⟩ | refine ⟨za (o := (F.un N0).obj b4) _ (ze hN0.h4) rfl, ?_⟩ | refine ⟨za (o := (F.un N0).obj b5) _ (ze hN0.h5) rfl, ?_⟩)), ?_⟩, Tv⟩⟩, Tv⟩⟩, Tv⟩⟩⟩, ⟨⟨(by repeat (first | exact Tv | refine ⟨rfl, ?_⟩ | refine ⟨za (o := (F.un N0).obj b4) _ (ze hN0.h4) rfl, ?_⟩ | refine ⟨za (o := (F.un N0).obj b5) _ (ze hN0.h5) rfl, ?_⟩)), ⟨Ck q.2 r hq.2 hr _ _ ⟨(by repeat (first | exact Tv | refine ⟨rfl, ?_⟩ | refine ⟨za (o := (F.un N0).obj b4) _ (ze hN0.h4) rfl, ?_⟩ | refine ⟨za (o := (F.un N0).obj b5) _ (ze hN0.h5) rfl, ?_⟩)), ⟨Ar (yh q.1 r, yh q.2 r) ⟨sub_q1, sub_q2⟩ _ _ ⟨(by repeat (first | exact Tv | refine ⟨rfl, ?_⟩ | refine ⟨za (o := (F.un N0).obj b4) _ (ze hN0.h4) rfl, ?_⟩ | refine ⟨za (o := (F.un N0).obj b5) _ (ze hN0.h5) rfl, ?_⟩)), ⟨⟨(by repeat (first | exact Tv | refine ⟨rfl, ?_⟩ | refine ⟨za (o := (F.un N0).obj b4) _ (ze hN0.h4) rfl, ?_⟩ | refine ⟨za (o := (F.un N0).obj b5) _ (ze hN0.h5) rfl, ?_⟩)), ?_⟩, Tv⟩⟩, Tv⟩⟩, Tv⟩⟩, Tv⟩⟩⟩, ⟨⟨(by repeat (first | exact Tv | refine ⟨rfl, ?_⟩ | refine ⟨za (o := (F.un N0).obj b4) _ (ze hN0.h4) rfl, ?_⟩ | refine ⟨za (o := (F.un N0).obj b5) _ (ze hN0.h5) rfl, ?_⟩)), ⟨Ck q.1 r hq.1 hr _ _ ⟨(by repeat (first | exact Tv | refine ⟨rfl, ?_⟩ | refine ⟨za (o := (F.un N0).obj b4) _ (ze hN0.h4) rfl, ?_⟩ | refine ⟨za (o := (F.un N0).obj b5) _ (ze hN0.h5) rfl, ?_⟩)), ⟨Ck q.2 r hq.2 hr _ _ ⟨(by repeat (first | exact Tv | refine ⟨rfl, ?_⟩ | refine ⟨za (o := (F.un N0).obj b4) _ (ze hN0.h4) rfl, ?_⟩ | refine ⟨za (o := (F.un N0).obj b5) _ (ze hN0.h5) rfl, ?_⟩)), ⟨Ar (yh q.1 r, yh q.2 r) ⟨sub_q1, sub_q2⟩ _ _ ⟨(by repeat (first | exact Tv | refine ⟨rfl, ?_⟩ | refine ⟨za (o := (F.un N0).obj b4) _ (ze hN0.h4) rfl, ?_⟩ | refine ⟨za (o := (F.un N0).obj b5) _ (ze hN0.h5) rfl, ?_⟩)), ⟨⟨(by repeat (first | exact Tv | refine ⟨rfl, ?_⟩ | refine ⟨za (o := (F.un N0).obj b4) _ (ze hN0.h4) rfl, ?_⟩ | refine ⟨za (o := (F.un N0).obj b5) _ (ze hN0.h5) rfl, ?_⟩)), ?_⟩, Tv⟩⟩, Tv⟩⟩, Tv⟩⟩, Tv⟩⟩, Tv⟩⟩
  all_goals exact ⟨(), rfl, ⟨Tq, Tq, Tq, Tq, Tq, Tq, Tv⟩, ⟨rfl, Tv⟩⟩
 rintro _ _ rfl
 refine AWp.meet (σ := Unit) ⟨fun _ => [(3, .av (ptr b3)), (6, .av (ptr b6)), (7, .av (Ci b3 b4 b5 b6)), (8, .bx 8 0), (9, .bx 9 0)], fun _ => [(8, [int (zu (yh q.1 r, yh q.2 r)).1, int (zu (yh q.1 r, yh q.2 r)).2]), (9, [int (zu (yo q.1 r, yo q.2 r)).1, int (zu (yo q.1 r, yo q.2 r)).2])],
  fun _ st' => st' = F.un N0⟩ zb ?_ ?_
 ·refine ADraw.of_sched zb (by rfl) (by rfl) zl5 (by rfl) ?_
  refine za (o := (F.un N0).obj b4) _ (ze hN0.h4) ?_
  refine za (o := (F.un N0).obj b5) _ (ze hN0.h5) ?_
  refine za (o := (F.un N0).obj b4) _ (ze hN0.h4) ?_
  refine za (o := (F.un N0).obj b5) _ (ze hN0.h5) ?_
  refine ⟨Df q.1 r hq.1 hr _ _ ⟨(by repeat (first | exact Tv | refine ⟨rfl, ?_⟩ | refine ⟨za (o := (F.un N0).obj b4) _ (ze hN0.h4) rfl, ?_⟩ | refine ⟨za (o := (F.un N0).obj b5) _ (ze hN0.h5) rfl, ?_⟩)), ⟨Df q.2 r hq.2 hr _ _ ⟨(by repeat (first | exact Tv | refine ⟨rfl, ?_⟩ | refine ⟨za (o := (F.un N0).obj b4) _ (ze hN0.h4) rfl, ?_⟩ | refine ⟨za (o := (F.un N0).obj b5) _ (ze hN0.h5) rfl, ?_⟩)), ⟨Ar (yo q.1 r, yo q.2 r) ⟨add_q1, add_q2⟩ _ _ ⟨(by repeat (first | exact Tv | refine ⟨rfl, ?_⟩ | refine ⟨za (o := (F.un N0).obj b4) _ (ze hN0.h4) rfl, ?_⟩ | refine ⟨za (o := (F.un N0).obj b5) _ (ze hN0.h5) rfl, ?_⟩)), ⟨⟨(by repeat (first | exact Tv | refine ⟨rfl, ?_⟩ | refine ⟨za (o := (F.un N0).obj b4) _ (ze hN0.h4) rfl, ?_⟩ | refine ⟨za (o := (F.un N0).obj b5) _ (ze hN0.h5) rfl, ?_⟩)), ⟨⟨(by repeat (first | exact Tv | refine ⟨rfl, ?_⟩ | refine ⟨za (o := (F.un N0).obj b4) _ (ze hN0.h4) rfl, ?_⟩ | refine ⟨za (o := (F.un N0).obj b5) _ (ze hN0.h5) rfl, ?_⟩)), ?_⟩, Tv⟩⟩, Tv⟩⟩, ⟨⟨(by repeat (first | exact Tv | refine ⟨rfl, ?_⟩ | refine ⟨za (o := (F.un N0).obj b4) _ (ze hN0.h4) rfl, ?_⟩ | refine ⟨za (o := (F.un N0).obj b5) _ (ze hN0.h5) rfl, ?_⟩)), ⟨Ar (yo q.1 r, yo q.2 r) ⟨add_q1, add_q2⟩ _ _ ⟨(by repeat (first | exact Tv | refine ⟨rfl, ?_⟩ | refine ⟨za (o := (F.un N0).obj b4) _ (ze hN0.h4) rfl, ?_⟩ | refine ⟨za (o := (F.un N0).obj b5) _ (ze hN0.h5) rfl, ?_⟩)), ⟨⟨(by repeat (first | exact Tv | refine ⟨rfl, ?_⟩ | refine ⟨za (o := (F.un N0).obj b4) _ (ze hN0.h4) rfl, ?_⟩ | refine ⟨za (o := (F.un N0).obj b5) _ (ze hN0.h5) rfl, ?_⟩)), ?_⟩, Tv⟩⟩, Tv⟩⟩, Tv⟩⟩⟩, ⟨⟨(by repeat (first | exact Tv | refine ⟨rfl, ?_⟩ | refine ⟨za (o := (F.un N0).obj b4) _ (ze hN0.h4) rfl, ?_⟩ | refine ⟨za (o := (F.un N0).obj b5) _ (ze hN0.h5) rfl, ?_⟩)), ⟨Df q.2 r hq.2 hr _ _ ⟨(by repeat (first | exact Tv | refine ⟨rfl, ?_⟩ | refine ⟨za (o := (F.un N0).obj b4) _ (ze hN0.h4) rfl, ?_⟩ | refine ⟨za (o := (F.un N0).obj b5) _ (ze hN0.h5) rfl, ?_⟩)), ⟨Ar (yo q.1 r, yo q.2 r) ⟨add_q1, add_q2⟩ _ _ ⟨(by repeat (first | exact Tv | refine ⟨rfl, ?_⟩ | refine ⟨za (o := (F.un N0).obj b4) _ (ze hN0.h4) rfl, ?_⟩ | refine ⟨za (o := (F.un N0).obj b5) _ (ze hN0.h5) rfl, ?_⟩)), ⟨⟨(by repeat (first | exact Tv | refine ⟨rfl, ?_⟩ | refine ⟨za (o := (F.un N0).obj b4) _ (ze hN0.h4) rfl, ?_⟩ | refine ⟨za (o := (F.un N0).obj b5) _ (ze hN0.h5) rfl, ?_⟩)), ?_⟩, Tv⟩⟩, Tv⟩⟩, Tv⟩⟩, Tv⟩⟩⟩, ⟨⟨(by repeat (first | exact Tv | refine ⟨rfl, ?_⟩ | refine ⟨za (o := (F.un N0).obj b4) _ (ze hN0.h4) rfl, ?_⟩ | refine ⟨za (o := (F.un N0).obj b5) _ (ze hN0.h5) rfl, ?_⟩)), ⟨Df q.1 r hq.1 hr _ _ ⟨(by repeat (first | exact Tv | refine ⟨rfl, ?_⟩ | refine ⟨za (o := (F.un N0).obj b4) _ (ze hN0.h4) rfl, ?_⟩ | refine ⟨za (o := (F.un N0).obj b5) _ (ze hN0.h5) rfl, ?_⟩)), ⟨Df q.2 r hq.2 hr _ _ ⟨(by repeat (first | exact Tv | refine ⟨rfl, ?_⟩ | refine ⟨za (o := (F.un N0).obj b4) _ (ze hN0.h4) rfl, ?_⟩ | refine ⟨za (o := (F.un N0).obj b5) _ (ze hN0.h5) rfl, ?_⟩)), ⟨Ar (yo q.1 r, yo q.2 r) ⟨add_q1, add_q2⟩ _ _ ⟨(by repeat (first | exact Tv | refine ⟨rfl, ?_⟩ | refine ⟨za (o := (F.un N0).obj b4) _ (ze hN0.h4) rfl, ?_⟩ | refine ⟨za (o := (F.un N0).obj b5) _ (ze hN0.h5) rfl, ?_⟩)), ⟨⟨(by repeat (first | exact Tv | refine ⟨rfl, ?_⟩ | refine ⟨za (o := (F.un N0).obj b4) _ (ze hN0.h4) rfl, ?_⟩ | refine ⟨za (o := (F.un N0).obj b5) _ (ze hN0.h5) rfl, ?_⟩)), ?_⟩, Tv⟩⟩, Tv⟩⟩, Tv⟩⟩, Tv⟩⟩, Tv⟩⟩
  all_goals exact ⟨(), rfl, ⟨Tq, Tq, Tq, Tq, Tq, Tv⟩, ⟨rfl, rfl, Tv⟩⟩
 rintro _ _ rfl
 have hab := zom hq hr0 hr1
 have hA := gp (p := (yh q.1 r, yh q.2 r)) ⟨C6 _ _, C6 _ _⟩
 have hB := gp (p := (yo q.1 r, yo q.2 r)) ⟨Lm _ _, Lm _ _⟩
 have hrect : ∀ e ∈ l, near q e.2 r = true -> _ := fun e he hn => zqp hq (hok e he) hr0 hr1 hn
 generalize zu (yh q.1 r, yh q.2 r) = A0 at *
 generalize zu (yo q.1 r, yo q.2 r) = B0 at *
 obtain ⟨ax, ay⟩ := A0
 obtain ⟨bx, by'⟩ := B0
 dsimp only at hab hA hB hrect ⊢
 refine AWp.meetA (σ := Store × Store × AV × List Int) ⟨fun _ => [(6, .av (ptr b6))], fun _ => [], fun s st' => st' = s.1.un s.2.1 /\ zv s.1 s.2.1 /\ CellsOf s.1 p l /\ NearAt s.2.1 b3 b4 b5 b6 p q r s.2.2.1 s.2.2.2 /\ NearIn l q r (fun _ => True) s.2.2.2⟩ ?_ ?_
 ·obtain ⟨ma, mi, bs1, cl1, G, bs2, cl2, ha, hi⟩ := hc
  have hgl : (G.map jk).length <= l.length := by rw [List.length_map]; exact zsr hi
  have slots : ∀ b : Bool, LV.le (.av (bool b)) (.av (bool b)) := fun b => Tq
  refine AWp.seq (AWp.of_vc zb ?_)
  refine za (o := (F.un N0).obj b3) _ (ze hN0.h3) ?_
  refine za (o := (F.un N0).obj p) _ (qj hd0 ha.hp) ?_
  refine za (o := (F.un N0).obj mi) _ (qj hd0 ha.hi) ?_
  refine ⟨⟨by omega, by omega⟩, ?_⟩
  refine AWp.meet (σ := Bool) ⟨fun b => [(3, .av (ptr b3)), (6, .av (ptr b6)), (7, .av (Ci b3 b4 b5 b6)), (8, .bx 8 0), (9, .bx 9 0), (77, .av (bool b))], fun _ => [(8, [int ax, int ay]), (9, [int bx, int by'])],
   fun b st' => st' = F.un N0⟩ zb ?_ ?_
  ·refine ⟨⟨by omega, by omega⟩, ?_⟩
   refine bcd (fun d1 => ?_) (fun d1 => ?_)
   ·exact ⟨true, rfl, ⟨Tq, Tq, Tq, Tq, Tq, Tq, Tv⟩, ⟨rfl, rfl, Tv⟩⟩
   refine ⟨⟨by omega, by omega⟩, ?_⟩
   refine bcd (fun d2 => ?_) (fun d2 => ?_)
   ·exact ⟨true, rfl, ⟨Tq, Tq, Tq, Tq, Tq, Tq, Tv⟩, ⟨rfl, rfl, Tv⟩⟩
   have m1 : (bx - ax + 1) * (by' - ay + 1) <= 1000000002 * 1000000002 := Int.mul_le_mul (by omega) (by omega) (by omega) (by decide)
   have m0 : 0 <= (bx - ax + 1) * (by' - ay + 1) := Int.mul_nonneg (by omega) (by omega)
   refine ⟨⟨by omega, by omega⟩, ?_⟩
   refine ⟨⟨by omega, by omega⟩, ?_⟩
   refine ⟨⟨by omega, by omega⟩, ?_⟩
   refine ⟨⟨by omega, by omega⟩, ?_⟩
   refine ⟨⟨by omega, by omega⟩, ?_⟩
   exact ⟨_, rfl, ⟨Tq, Tq, Tq, Tq, Tq, Tq, Tv⟩, ⟨rfl, rfl, Tv⟩⟩
  rintro b _ rfl
  refine AWp.of_vc zb ?_
  cases b with
  | true =>
   refine za (o := (F.un N0).obj b3) _ (ze hN0.h3) ?_
   refine za (o := (F.un N0).obj p) _ (qj hd0 ha.hp) ?_
   refine zxs (qj hd0 ha.ha) (fun hst => ?_)
   refine zxt rfl (it := ti320) rfl rfl (qj hd0 ha.ha) (fun bi hbi => ?_)
   have fbi := Gk hbi
   have nbi : ¬ N0.has bi := fresh_iff.1 fbi.2
   rw [Mx nbi]
   refine AWp.loop (σ := List Nat × Store × AV × List Int) ⟨fun _ => [(6, .av (ptr b6)), (7, .av (Ci b3 b4 b5 b6)), (82, .av (ptr bi))], fun _ => [],
    fun s st' => st' = (F.setObj bi (.iter ma cl1 s.1 cl1)).un s.2.1 /\ zv (F.setObj bi (.iter ma cl1 s.1 cl1)) s.2.1 /\ NearAt s.2.1 b3 b4 b5 b6 p q r s.2.2.1 s.2.2.2 /\ s.1.Nodup /\ (∀ t ∈ s.1, t ∈ bs1) ∧
     NearIn l q r (fun e => ∃ (i t : Nat), l[i]? = some e /\ bs1[i]? = some t /\ t ∈ s.1) s.2.2.2, fun s => bs1.length - s.1.length⟩ zb ?_ ?_
   ·exact ⟨([], N0, _, []), Tv, ⟨rfl, zu8 hd0 nbi, hN0, List.nodup_nil, (fun t ht => (by cases ht)), List.nodup_nil, fun id => ⟨(fun h => (by cases h)), fun ⟨e, _, _, _, i, t, _, _, h⟩ => (by cases h)⟩⟩, ⟨Tq, Tq, Tq, Tv⟩, Tv⟩
   rintro ⟨seen, N, v, acc⟩ st' ⟨rfl, hd, hN, hs1, hs2, hacc⟩
   dsimp only at hd hN hs1 hs2 hacc ⊢
   have hF1 : CellsAt (F.setObj bi (.iter ma cl1 seen cl1)) p ma mi l bs1 cl1 G bs2 cl2 := ha.fresh _ fbi.1
   refine zxu rfl (qj hd (zd _ _ _)) (qj hd hF1.ha) (fun hall => ?_) (fun i e t he ht hnt => ?_)
   ·refine ⟨(F.setObj bi (.iter ma cl1 seen cl1), N, v, acc), ⟨rfl, hd, ⟨ma, mi, _, _, _, _, _, hF1, hi⟩, hN, ?_⟩, ⟨Tq, Tv⟩, Tv⟩
    refine hacc.congr fun e he _ => ⟨fun _ => trivial, fun _ => ?_⟩
    obtain ⟨i, hi'⟩ := List.mem_iff_getElem?.1 he
    have hlt : i < bs1.length := by
     have h1 := hst.len
     have h2 := (List.getElem?_eq_some_iff.1 hi').1
     rw [List.length_map] at h1
     omega
    exact ⟨i, bs1[i], hi', List.getElem?_eq_getElem hlt, hall _ (List.getElem_mem hlt)⟩
   ·obtain ⟨e0, he0, rfl⟩ : ∃ e0, l[i]? = some e0 /\ jl e0 = e := by
     rw [List.getElem?_map] at he
     cases hx : l[i]? with
     | none => rw [hx] at he; cases he
     | some e0 => rw [hx] at he; simp at he; exact ⟨e0, rfl, he⟩
    have hem := List.mem_of_getElem? he0
    obtain ⟨hd', nb⟩ := zu7 (y := .iter ma cl1 (seen ++ [t]) cl1) hd
    have hF2 : CellsAt (F.setObj bi (.iter ma cl1 (seen ++ [t]) cl1)) p ma mi l bs1 cl1 G bs2 cl2 := ha.fresh _ fbi.1
    rw [Mx nb, yx]
    refine zxx rfl (qj hd' (zd _ _ _)) (qj hd' hF2.ha) he ht ?_
    refine Ss hd' ⟨ma, mi, _, _, _, _, _, hF2, hi⟩ hN hq hr1 (ed hi.n1 hem) (hok _ hem) (by have := hacc.len; omega) _ (fun N' v' hdd hN' => ?_)
    refine ⟨(seen ++ [t], N', v', _), ?_, ⟨rfl, hdd, hN', ?_, ?_, ?_⟩, ⟨Tq, Tq, Tq, Tv⟩, Tv⟩
    ·have h1 : (seen ++ [t]).Nodup := by
      rw [List.nodup_append]
      exact ⟨hs1, by simp, fun a ha b hb => by simp at hb; subst hb; exact fun e => hnt (e ▸ ha)⟩
     have h2 := List.Nodup.length_le_of_subset (l₂ := bs1) h1 (fun x hx => by
      rcases List.mem_append.1 hx with hx | hx
      ·exact hs2 x hx
      ·simp at hx; subst hx; exact List.mem_of_getElem? ht)
     rw [List.length_append] at h2
     show bs1.length - (seen ++ [t]).length < bs1.length - seen.length
     rw [List.length_append]
     simp at h2 ⊢
     omega
    ·show (seen ++ [t]).Nodup
     rw [List.nodup_append]
     exact ⟨hs1, by simp, fun a ha b hb => by simp at hb; subst hb; exact fun e => hnt (e ▸ ha)⟩
    ·intro x hx
     rcases List.mem_append.1 hx with hx | hx
     ·exact hs2 x hx
     ·simp at hx; subst hx; exact List.mem_of_getElem? ht
    ·refine (hacc.step hi.n1 hem (fun hh => ?_)).congr fun e' he' _ => ⟨fun hh => ?_, fun hh => ?_⟩
     ·obtain ⟨i', t', h1, h2, h3⟩ := hh
      have := wy (f := fun e : Ent => e.1) hi.n1 h1 he0 rfl
      subst this
      rw [ht] at h2
      cases h2
      exact hnt h3
     ·rcases hh with ⟨i', t', h1, h2, h3⟩ | rfl
      ·exact ⟨i', t', h1, h2, List.mem_append_left _ h3⟩
      ·exact ⟨i, t, he0, ht, by simp⟩
     ·obtain ⟨i', t', h1, h2, h3⟩ := hh
      rcases List.mem_append.1 h3 with h3 | h3
      ·exact .inl ⟨i', t', h1, h2, h3⟩
      ·simp at h3
       subst h3
       right
       have hinc := hst.inc
       have : i' = i := by
        have hn : (bs1.map id).Nodup := by
         rw [List.map_id]
         exact hinc.imp fun h e => by omega
        exact wy (f := id) hn h2 ht rfl
       subst this
       rw [he0] at h1
       cases h1; rfl
  | false =>
   refine AWp.loop (σ := Int × Store × AV × List Int) ⟨fun s => [(3, .av (ptr b3)), (6, .av (ptr b6)), (7, .av (Ci b3 b4 b5 b6)), (8, .bx 8 0), (9, .bx 9 0), (12, .av (int s.1))], fun _ => [(8, [int ax, int ay]), (9, [int bx, int by'])],
    fun s st' => st' = F.un s.2.1 /\ zv F s.2.1 /\ NearAt s.2.1 b3 b4 b5 b6 p q r s.2.2.1 s.2.2.2 /\ (ax <= s.1 /\ s.1 <= bx + 1) /\ NearIn l q r (fun e => (zu e.2).1 < s.1) s.2.2.2, fun s => (bx + 1 - s.1).toNat⟩ zb ?_ ?_
   ·refine ⟨(ax, N0, _, []), Tv, ⟨rfl, hd0, hN0, ⟨Int.le_refl _, by omega⟩, List.nodup_nil, fun id => ⟨(fun h => (by cases h)), fun ⟨e, he, _, hn, h⟩ => ?_⟩⟩, ⟨Tq, Tq, Tq, Tq, Tq, Tq, Tv⟩, ⟨rfl, rfl, Tv⟩⟩
    have := hrect e he hn
    dsimp only at h
    omega
   rintro ⟨x, N, v, acc⟩ st' ⟨rfl, hd, hN, hx, hacc⟩
   dsimp only at hd hN hx hacc ⊢
   refine bcd (fun x1 => ?_) (fun x1 => ?_)
   rotate_left
   ·refine ⟨(F, N, v, acc), ⟨rfl, hd, ⟨ma, mi, _, _, _, _, _, ha, hi⟩, hN, ?_⟩, ⟨Tq, Tv⟩, Tv⟩
    refine hacc.congr fun e he hn => ⟨fun _ => trivial, fun _ => ?_⟩
    have := hrect e he hn
    omega
   refine AWp.loop (σ := Int × Store × AV × List Int) ⟨fun s => [(3, .av (ptr b3)), (6, .av (ptr b6)), (7, .av (Ci b3 b4 b5 b6)), (8, .bx 8 0), (9, .bx 9 0), (12, .av (int x)), (13, .av (int s.1))], fun _ => [(8, [int ax, int ay]), (9, [int bx, int by'])],
    fun s st' => st' = F.un s.2.1 /\ zv F s.2.1 /\ NearAt s.2.1 b3 b4 b5 b6 p q r s.2.2.1 s.2.2.2 /\ (ay <= s.1 /\ s.1 <= by' + 1) /\ NearIn l q r (fun e => (zu e.2).1 < x \/ ((zu e.2).1 = x /\ (zu e.2).2 < s.1)) s.2.2.2, fun s => (by' + 1 - s.1).toNat⟩ zb ?_ ?_
   ·refine ⟨(ay, N, v, acc), Tv, ⟨rfl, hd, hN, ⟨Int.le_refl _, by omega⟩, hacc.congr fun e he hn => ⟨.inl, fun h => h.elim id fun h => ?_⟩⟩, ⟨Tq, Tq, Tq, Tq, Tq, Tq, Tq, Tv⟩, ⟨rfl, rfl, Tv⟩⟩
    have := hrect e he hn
    dsimp only at h
    omega
   clear hN hacc hd
   rintro ⟨y, N, v, acc⟩ st' ⟨rfl, hd, hN, hy, hacc⟩
   dsimp only at hd hN hy hacc ⊢
   refine bcd (fun y1 => ?_) (fun y1 => ?_)
   rotate_left
   ·refine ⟨⟨by omega, by omega⟩, ?_⟩
    refine ⟨(x + 1, N, v, acc), ?_, ⟨rfl, hd, hN, by dsimp only; omega, hacc.congr fun e he hn => ?_⟩, ⟨Tq, Tq, Tq, Tq, Tq, Tq, Tv⟩, ⟨rfl, rfl, Tv⟩⟩
    ·show (bx + 1 - (x + 1)).toNat < (bx + 1 - x).toNat
     omega
    ·have := hrect e he hn
     dsimp only
     omega
   refine za (o := (F.un N).obj b3) _ (ze hN.h3) ?_
   refine za (o := (F.un N).obj p) _ (qj hd ha.hp) ?_
   refine Ah rfl (it := ti321) (ie := ti29) (ik := ti325) rfl rfl rfl rfl (qj hd ha.hi) rfl (qG x y) (fun e he => ?_) ?_
   ·obtain ⟨e, _, rfl⟩ := List.mem_map.1 he
    rfl
   rw [H8 G (x, y), show wi ti29 = .s (.slice none 0 0) from rfl]
   cases hf : G.find? (Bf (x, y)) with
   | none =>
    refine AWp.loop (σ := Unit) ⟨fun _ => [(3, .av (ptr b3)), (6, .av (ptr b6)), (7, .av (Ci b3 b4 b5 b6)), (8, .bx 8 0), (9, .bx 9 0), (12, .av (int x)), (13, .av (int y)), (114, .av (int 0)), (115, .av (int 0))], fun _ => [(8, [int ax, int ay]), (9, [int bx, int by'])],
     fun _ st' => st' = F.un N, fun _ => 0⟩ zb ?_ ?_
    ·exact ⟨(), Tv, rfl, ⟨Tq, Tq, Tq, Tq, Tq, Tq, Tq, Tq, Tq, Tv⟩, ⟨rfl, rfl, Tv⟩⟩
    rintro _ st' rfl
    ·refine ⟨⟨by omega, by omega⟩, ?_⟩
     refine ⟨(y + 1, N, v, acc), ?_, ⟨rfl, hd, hN, by dsimp only; omega, hacc.congr fun e he hn => ?_⟩, ⟨Tq, Tq, Tq, Tq, Tq, Tq, Tq, Tv⟩, ⟨rfl, rfl, Tv⟩⟩
     ·show (by' + 1 - (y + 1)).toNat < (by' + 1 - y).toNat
      omega
     ·have hne : zu e.2 ≠ (x, y) := fun hk => by
       obtain ⟨g, hg, hgk⟩ := hi.m2 e he
       exact List.find?_eq_none.1 hf g hg (atKey_iff.2 (by rw [hgk, hk]))
      have : ¬ ((zu e.2).1 = x /\ (zu e.2).2 = y) := fun ⟨h1, h2⟩ => hne (Prod.ext h1 h2)
      dsimp only
      omega
   | some g =>
    obtain ⟨hg, hgk⟩ := Lg hf
    have hgk := atKey_iff.1 hgk
    obtain ⟨k1, k2, k3⟩ := ha.hg g hg
    have gs := (hi.s g hg).1
    have gl := P5 hi g hg
    refine AWp.loop (σ := Nat × Store × AV × List Int) ⟨fun s => [(3, .av (ptr b3)), (6, .av (ptr b6)), (7, .av (Ci b3 b4 b5 b6)), (8, .bx 8 0), (9, .bx 9 0), (12, .av (int x)), (13, .av (int y)), (113, .av (.s (.slice (some ⟨g.b, 0, none⟩) g.ns.length g.cap))), (114, .av (int g.ns.length)), (115, .av (int (s.1 : Nat)))],
     fun _ => [(8, [int ax, int ay]), (9, [int bx, int by'])],
     fun s st' => st' = F.un s.2.1 /\ zv F s.2.1 /\ NearAt s.2.1 b3 b4 b5 b6 p q r s.2.2.1 s.2.2.2 /\ s.1 <= g.ns.length /\ NearIn l q r (fun e => ((zu e.2).1 < x \/ ((zu e.2).1 = x /\ (zu e.2).2 < y)) \/ (zu e.2 = (x, y) /\ e.1 ∈ g.ns.take s.1)) s.2.2.2, fun s => g.ns.length - s.1⟩ zb ?_ ?_
    ·exact ⟨(0, N, v, acc), Tv, ⟨rfl, hd, hN, Nat.zero_le _, hacc.congr fun e he hn => ⟨.inl, fun h => h.elim id fun h => (by cases h.2)⟩⟩, ⟨Tq, Tq, Tq, Tq, Tq, Tq, Tq, Tq, Tq, Tq, Tv⟩, ⟨rfl, rfl, Tv⟩⟩
    clear hN hacc hd
    rintro ⟨idx, N, v, acc⟩ st' ⟨rfl, hd, hN, hidx, hacc⟩
    dsimp only at hd hN hidx hacc ⊢
    refine bcd (fun z1 => ?_) (fun z1 => ?_)
    rotate_left
    ·have hie : idx = g.ns.length := by omega
     subst hie
     refine ⟨⟨by omega, by omega⟩, ?_⟩
     refine ⟨(y + 1, N, v, acc), ?_, ⟨rfl, hd, hN, by dsimp only; omega, hacc.congr fun e he hn => ?_⟩, ⟨Tq, Tq, Tq, Tq, Tq, Tq, Tq, Tv⟩, ⟨rfl, rfl, Tv⟩⟩
     ·show (by' + 1 - (y + 1)).toNat < (by' + 1 - y).toNat
      omega
     ·rw [List.take_length]
      have h1 : zu e.2 = (x, y) ↔ ((zu e.2).1 = x /\ (zu e.2).2 = y) := ⟨fun h => by rw [h]; exact ⟨rfl, rfl⟩, fun ⟨h1, h2⟩ => Prod.ext h1 h2⟩
      have h2 : zu e.2 = (x, y) -> e.1 ∈ g.ns := fun h => (hi.m1 g hg e.1).2 ⟨e, he, rfl, by rw [h, hgk]⟩
      dsimp only
      constructor
      ·rintro (h | ⟨h, _⟩)
       ·omega
       ·have := h1.1 h; omega
      ·intro h
       by_cases h3 : zu e.2 = (x, y)
       ·exact .inr ⟨h3, h2 h3⟩
       ·have h4 : ¬ ((zu e.2).1 = x /\ (zu e.2).2 = y) := fun hh => h3 (h1.2 hh)
        left
        omega
    have hlt : idx < g.ns.length := by omega
    have hidm : g.ns[idx] ∈ g.ns := List.getElem_mem hlt
    obtain ⟨e, hem, heid, hek⟩ := (hi.m1 g hg g.ns[idx]).1 hidm
    refine ⟨idx, rfl, hlt, ?_⟩
    refine za (o := (F.un N).obj g.b) _ (qj hd k1) ?_
    refine za (o := List.head? _) (int e.1) (by
     rw [List.head?_drop, show 0 + idx * ti3.size = idx from by show 0 + idx * 1 = idx; omega, List.getElem?_append_left (by simpa using hlt), List.getElem?_map, List.getElem?_eq_getElem hlt, heid]; rfl) ?_
    refine Ss hd ⟨ma, mi, _, _, _, _, _, ha, hi⟩ hN hq hr1 (ed hi.n1 hem) (hok _ hem) (by have := hacc.len; omega) _ (fun N' v' hdd hN' => ?_)
    refine ⟨⟨by omega, by omega⟩, ?_⟩
    refine ⟨(idx + 1, N', v', _), ?_, ⟨rfl, hdd, hN', hlt, ?_⟩, ⟨Tq, Tq, Tq, Tq, Tq, Tq, Tq, Tq, Tq, Tq, Tv⟩, ⟨rfl, rfl, Tv⟩⟩
    ·show g.ns.length - (idx + 1) < g.ns.length - idx
     omega
    ·have hkey : zu e.2 = (x, y) := by rw [hek, hgk]
     have hnot : e.1 ∉ g.ns.take idx := by
      rw [heid]
      intro hh
      obtain ⟨j, hj⟩ := List.mem_iff_getElem?.1 hh
      have hjlt : j < idx := by
       have := (List.getElem?_eq_some_iff.1 hj).1
       simp at this; omega
      rw [List.getElem?_take_of_lt hjlt] at hj
      have h5 := List.pairwise_iff_getElem.1 gs j idx (by omega) hlt hjlt
      rw [List.getElem?_eq_getElem (by omega)] at hj
      have hj' := Option.some.inj hj
      rw [hj'] at h5
      exact absurd h5 (Int.lt_irrefl _)
     refine (hacc.step hi.n1 hem (fun hh => ?_)).congr fun e' he' _ => ?_
     ·rcases hh with hh | ⟨_, hh⟩
      ·rw [hkey] at hh; dsimp only at hh; omega
      ·exact hnot hh
     ·dsimp only
      rw [List.take_succ_eq_append_getElem hlt, List.mem_append]
      constructor
      ·rintro ((h | ⟨h, h'⟩) | rfl)
       ·exact .inl h
       ·exact .inr ⟨h, .inl h'⟩
       ·exact .inr ⟨hkey, .inr (by simp [heid])⟩
      ·rintro (h | ⟨h, h' | h'⟩)
       ·exact .inl (.inl h)
       ·exact .inl (.inr ⟨h, h'⟩)
       ·right
        have : e'.1 = e.1 := by rw [heid]; simpa using h'
        exact H4 hi.n1 hem he' this
 ·rintro ⟨F', N, v, acc⟩ st' ⟨rfl, hd, hc', hN, hacc⟩
  dsimp only at hd hc' hN hacc ⊢
  refine AWp.of_vc zb ?_
  refine za (o := (F'.un N).obj b6) _ (ze hN.h6) ?_
  have hms := zq5 hacc.1
  have hnear : Iq l q r (acc.mergeSort fun x y => decide (x <= y)) := ⟨hms.1, fun id => by
   rw [hms.2, hacc.2 id]
   constructor
   ·rintro ⟨e, h1, h2, h3, _⟩; exact ⟨e, h1, h2, h3⟩
   ·rintro ⟨e, h1, h2, h3⟩; exact ⟨e, h1, h2, h3, Tv⟩⟩
  have hal := hacc.len
  have hml : (acc.mergeSort fun x y => decide (x <= y)).length = acc.length := List.length_mergeSort acc
  rcases H1 hN.hv with ⟨rfl, rfl⟩ | ⟨b, cap, L, rfl, ho, h1, h2, h3⟩
  ·refine zkl _ ?_
   refine za (o := (F'.un N).obj b6) _ (ze hN.h6) ?_
   refine Fu (i := ti29) (v := .s (.slice none 0 0)) (b := b6) (o := 0) (l := [.s (.slice none 0 0)]) rfl rfl rfl (ze hN.h6) (Nat.le_refl _) ?_
   refine za (o := Store.obj (Store.setObj _ b6 _) b6) _ (zd _ _ _) ?_
   refine ret ?_
   rw [qk]
   exact h F' _ _ _ hc' (Gr hd hN.h6) (.inl ⟨rfl, by simp⟩) hnear
  ·refine zkk (ze ho) (by omega) _ ?_
   have hb6 : b6 ≠ b := Ne.symm (hN.nv b _ _ rfl).2.2.2
   have h6 : ((F'.un N).setObj b (.cells ((acc.mergeSort fun x y => decide (x <= y)).map aI ++ L))).obj b6 = some (.cells [.s (.slice (some ⟨b, 0, none⟩) acc.length cap)]) := by rw [zw hb6]; exact ze hN.h6
   refine za (o := Store.obj (Store.setObj _ b _) b6) _ h6 ?_
   refine Fu (i := ti29) (v := .s (.slice (some ⟨b, 0, none⟩) acc.length cap)) (b := b6) (o := 0) (l := [.s (.slice (some ⟨b, 0, none⟩) acc.length cap)]) rfl rfl rfl h6 (Nat.le_refl _) ?_
   refine za (o := Store.obj (Store.setObj _ b6 _) b6) _ (zd _ _ _) ?_
   refine ret ?_
   rw [qk, qk]
   refine h F' _ _ _ hc' (Gr (Gr hd ho) (by rw [zw hb6]; exact hN.h6)) (.inr ⟨b, cap, L, ?_, ?_, ?_, ?_, h3⟩) hnear
   ·rw [hml]; rfl
   ·rw [zw (Ne.symm hb6)]; exact zd _ _ _
   ·omega
   ·omega
theorem zr0 (l : List Int) (hl : l.length <= 1000000000000) (fn : FuncId) (cap : List AV) (q : Int -> Bool) (st : Store) (hf : ∀ x ∈ l, ∀ R : AV -> Store -> Prop, R (bool (q x)) st -> ACalls Tryz.prog fn ([int x] ++ cap) st R)
  (R : AV -> Store -> Prop) (h : R (int (w8 (l.findIdx? q))) st) : ACalls Tryz.prog 389 [lst 1 yn l, .clos fn cap] st R := by
 refine ACalls.of_body (c := cfg 19) zb Tryz.func389 (by rfl) (by rfl) (by rfl) (by rfl) ?_
 refine AWp.loop (σ := Nat) ⟨fun i => [(0, .av (lst 1 yn l)), (1, .av (.clos fn cap)), (7, .av (int (l.length : Nat))), (8, .av (int (i : Nat)))], fun _ => [],
  fun i st' => i <= l.length /\ st' = st /\ ∀ j, (hj : j < l.length) -> j < i -> q l[j] = false, fun i => l.length - i⟩ zb ?_ ?_
 ·refine ⟨0, Tv, ⟨Nat.zero_le _, rfl, fun j _ hj => by omega⟩, ⟨Tq, Tq, ?_, Tq, Tv⟩, Tv⟩
  rw [<- zl (f := yn) l]
  exact Tq
 rintro i st' ⟨hi, rfl, hall⟩
 refine bcd (fun h1 => ?_) (fun h1 => ?_)
 rotate_left
 ·have e : l.findIdx? q = none := by
   rw [List.findIdx?_eq_none_iff]
   intro x hx
   obtain ⟨j, hj, rfl⟩ := List.getElem_of_mem hx
   exact hall j hj (by omega)
  rw [e] at h
  exact ret h
 have hlt : i < l.length := by omega
 refine ⟨i, rfl, za _ (zn hlt) ?_⟩
 refine hf l[i] (List.getElem_mem hlt) _ ?_
 refine zh (fun h2 => ?_) (fun h2 => ?_)
 ·have e : l.findIdx? q = some i := by
   rw [List.findIdx?_eq_some_iff_getElem]
   exact ⟨hlt, h2, fun j hj => by rw [hall j (by omega) hj]; decide⟩
  rw [e] at h
  exact ret h
 ·refine zc (by omega) ?_
  refine ⟨i + 1, ?_, ⟨by omega, rfl, fun j hj hj2 => ?_⟩, ⟨Tq, Tq, Tq, Tq, Tv⟩, Tv⟩
  ·show l.length - (i + 1) < l.length - i
   omega
  ·by_cases e : j = i
   ·subst e; exact h2
   ·exact hall j hj (by omega)
theorem zr1 (l : List Int) (hl : l.length <= 1000000000000) (fn : FuncId) (cap : List AV) (q : Int -> Bool) (st : Store) (hf : ∀ x ∈ l, ∀ R : AV -> Store -> Prop, R (bool (q x)) st -> ACalls Tryz.prog fn ([int x] ++ cap) st R)
  (R : AV -> Store -> Prop) (h : R (bool (l.any q)) st) : ACalls Tryz.prog 360 [lst 1 yn l, .clos fn cap] st R := by
 refine ACalls.of_body (c := cfg 9) zb Tryz.func360 (by rfl) (by rfl) (by rfl) (by rfl) ?_
 refine zr0 l hl fn cap q st hf _ ?_
 have e : decide ((0 : Int) <= w8 (l.findIdx? q)) = l.any q := by
  cases hx : l.findIdx? q with
  | none =>
   rw [List.findIdx?_eq_none_iff] at hx
   rw [show decide ((0 : Int) <= w8 none) = false from by decide]
   symm
   rw [List.any_eq_false]
   intro x hm
   rw [hx x hm]; decide
  | some i =>
   rw [List.findIdx?_eq_some_iff_getElem] at hx
   obtain ⟨hi, h1, _⟩ := hx
   rw [show decide ((0 : Int) <= w8 (some i)) = true from by simp [w8]]
   symm
   rw [List.any_eq_true]
   exact ⟨l[i], List.getElem_mem hi, h1⟩
 rw [<- e] at h
 exact ret h
theorem zwq (l : List Bld) (hl : l.length <= 1000000000000) (fn : FuncId) (cap : List AV) (q : Bld -> Bool) (st : Store) (hf : ∀ x ∈ l, ∀ R : AV -> Store -> Prop, R (bool (q x)) st -> ACalls Tryz.prog fn ([.agg (zz x)] ++ cap) st R)
  (R : AV -> Store -> Prop) (h : R (int (w8 (l.findIdx? q))) st) : ACalls Tryz.prog 292 [lst 6 zz l, .clos fn cap] st R := by
 refine ACalls.of_body (c := cfg 19) zb Tryz.func292 (by rfl) (by rfl) (by rfl) (by rfl) ?_
 refine AWp.loop (σ := Nat) ⟨fun i => [(0, .av (lst 6 zz l)), (1, .av (.clos fn cap)), (7, .av (int (l.length : Nat))), (8, .av (int (i : Nat)))], fun _ => [],
  fun i st' => i <= l.length /\ st' = st /\ ∀ j, (hj : j < l.length) -> j < i -> q l[j] = false, fun i => l.length - i⟩ zb ?_ ?_
 ·refine ⟨0, Tv, ⟨Nat.zero_le _, rfl, fun j _ hj => by omega⟩, ⟨Tq, Tq, ?_, Tq, Tv⟩, Tv⟩
  rw [<- zl (f := zz) l]
  exact Tq
 rintro i st' ⟨hi, rfl, hall⟩
 refine bcd (fun h1 => ?_) (fun h1 => ?_)
 rotate_left
 ·have e : l.findIdx? q = none := by
   rw [List.findIdx?_eq_none_iff]
   intro x hx
   obtain ⟨j, hj, rfl⟩ := List.getElem_of_mem hx
   exact hall j hj (by omega)
  rw [e] at h
  exact ret h
 have hlt : i < l.length := by omega
 refine ⟨i, rfl, za _ (zn hlt) ?_⟩
 refine hf l[i] (List.getElem_mem hlt) _ ?_
 refine zh (fun h2 => ?_) (fun h2 => ?_)
 ·have e : l.findIdx? q = some i := by
   rw [List.findIdx?_eq_some_iff_getElem]
   exact ⟨hlt, h2, fun j hj => by rw [hall j (by omega) hj]; decide⟩
  rw [e] at h
  exact ret h
 ·refine zc (by omega) ?_
  refine ⟨i + 1, ?_, ⟨by omega, rfl, fun j hj hj2 => ?_⟩, ⟨Tq, Tq, Tq, Tq, Tv⟩, Tv⟩
  ·show l.length - (i + 1) < l.length - i
   omega
  ·by_cases e : j = i
   ·subst e; exact h2
   ·exact hall j hj (by omega)
theorem zwr (l : List Bld) (hl : l.length <= 1000000000000) (fn : FuncId) (cap : List AV) (q : Bld -> Bool) (st : Store) (hf : ∀ x ∈ l, ∀ R : AV -> Store -> Prop, R (bool (q x)) st -> ACalls Tryz.prog fn ([.agg (zz x)] ++ cap) st R)
  (R : AV -> Store -> Prop) (h : R (bool (l.any q)) st) : ACalls Tryz.prog 214 [lst 6 zz l, .clos fn cap] st R := by
 refine ACalls.of_body (c := cfg 9) zb Tryz.func214 (by rfl) (by rfl) (by rfl) (by rfl) ?_
 refine zwq l hl fn cap q st hf _ ?_
 have e : decide ((0 : Int) <= w8 (l.findIdx? q)) = l.any q := by
  cases hx : l.findIdx? q with
  | none =>
   rw [List.findIdx?_eq_none_iff] at hx
   rw [show decide ((0 : Int) <= w8 none) = false from by decide]
   symm
   rw [List.any_eq_false]
   intro x hm
   rw [hx x hm]; decide
  | some i =>
   rw [List.findIdx?_eq_some_iff_getElem] at hx
   obtain ⟨hi, h1, _⟩ := hx
   rw [show decide ((0 : Int) <= w8 (some i)) = true from by simp [w8]]
   symm
   rw [List.any_eq_true]
   exact ⟨l[i], List.getElem_mem hi, h1⟩
 rw [<- e] at h
 exact ret h
theorem zuf (g : Gnd) (p : Nat) (t : Nat) (ht : t < g.T.length) (st : Store) (hp : st.obj p = some (.cells (zr g))) (R : AV -> Store -> Prop) (h : R (bool (decide ((g.T.getD t 0).toNat > 1))) st) :
  ACalls Tryz.prog 361 ([int (t : Nat)] ++ [ptr p]) st R := by
 have hget : g.T.getD t 0 = g.T[t] := by simp [ht]
 rw [hget] at h
 refine ACalls.of_body (c := cfg 10) zb Tryz.func361 (by rfl) (by rfl) (by rfl) (by rfl) ?_
 refine za _ hp ?_
 refine ⟨t, rfl, za _ (zn ht) ?_⟩
 refine ret ?_
 have e : decide ((1 : Int) < (g.T[t].toNat : Int)) = decide (g.T[t].toNat > 1) := by grind
 rw [<- e] at h
 exact h
theorem zwx (g : Gnd) (hg : zi g) (b : Bld) (hb : yc b /\ onP g b) (st : Store) (R : AV -> Store -> Prop) (h : ∀ z : Bool, (z = true ↔ Bc g b) -> R (bool z) st) :
  ACalls Tryz.prog 290 [.agg (zr g), .agg (zz b)] st R := by
 have hm := yw hg
 refine ACalls.of_body (c := cfg 11 [2] []) zb Tryz.func290 (by rfl) (by rfl) (by rfl) (by rfl) ?_
 intro p hp
 have ho : (st.setObj p (.cells (zr g))).obj p = some (.cells (zr g)) := zd _ _ _
 refine za _ ho ?_
 refine M7 g hg b hb _ _ ?_
 have hl : (kf g.W b).length <= 1000000000000 := by
  unfold kf
  rw [M9]
  have hb' := hb.1
  unfold yc at hb'
  have : b.h.toNat * b.w.toNat <= 4 * 4 := Nat.mul_le_mul (by omega) (by omega)
  omega
 refine zr1 (kf g.W b) hl _ _ (fun x => decide ((g.T.getD x.toNat 0).toNat > 1)) _ (fun x hx R h => ?_) _ ?_
 ·obtain ⟨n, rfl, hn, hh⟩ := (Cs hg hb.1 hb.2 x).1 hx
  exact zuf g p n (by omega) _ ho R (by grind)
 refine vg (Tt) (Ay hp.1) (h _ ?_)
 unfold Bc
 rw [Bool.not_eq_true', List.any_eq_false]
 constructor
 ·intro hh t ht hb2
  have := hh (t : Int) ((Cs hg hb.1 hb.2 _).2 ⟨t, rfl, by omega, hb2⟩)
  grind
 ·intro hh x hx
  obtain ⟨n, rfl, hn, hb2⟩ := (Cs hg hb.1 hb.2 x).1 hx
  grind
/-- A slice of yes and no, all its own. -/
def blV (b n : Nat) : AV := .s (.slice (some ⟨b, 0, none⟩) n n)
theorem zvk (g : Gnd) (hg : zi g) (l : List Bld) (hl : l.length <= 1000000000000) (hb : ∀ b ∈ l, yc b /\ onP g b) (st : Store) (R : AV -> Store -> Prop)
  (h : ∀ b, Fresh st b -> R (blV b g.T.length) (st.setObj b (.cells (bl g.T.length (qa g l))))) : ACalls Tryz.prog 362 [.agg (zr g), lst 6 zz l] st R := by
 have ha := yw hg
 have hT : ((rws u8C g.T).length : Int) = (g.T.length : Int) := by rw [zl]
 refine ACalls.of_body (c := cfg 34) zb Tryz.func362 (by rfl) (by rfl) (by rfl) (by rfl) ?_
 refine vm rfl (it := ti50) (ie := ti4) rfl rfl rfl rfl rfl (n := (rws u8C g.T).length) ?_ ?_ (fun b hf => ?_)
 ·rw [zl]; show 1 * _ <= _; omega
 ·omega
 rw [zl, Dd]
 refine AWp.loop (σ := Nat) ⟨fun i => [(2, .bx 2 0), (5, .av (blV b g.T.length)), (14, .av (lst 6 zz l)), (15, .av (int (l.length : Nat))), (16, .av (int (i : Nat)))], fun _ => [(2, zr g)],
  fun i st' => i <= l.length /\ st' = st.setObj b (.cells (bl g.T.length (qa g (l.take i)))), fun i => l.length - i⟩ zb ?_ ?_
 ·refine ⟨0, Tv, ⟨Nat.zero_le _, rfl⟩, ⟨Tq, Tq, Tq, ?_, Tq, Tv⟩, ⟨rfl, Tv⟩⟩
  rw [<- zl (f := zz) l]
  exact Tq
 rintro i st' ⟨hi, rfl⟩
 refine bcd (fun h1 => ?_) (fun h1 => ?_)
 rotate_left
 ·have : i = l.length := by omega
  subst this
  rw [List.take_length]
  exact ret (h b hf)
 have hlt : i < l.length := by omega
 have hbi := hb l[i] (List.getElem_mem hlt)
 refine ⟨i, rfl, za _ (zn hlt) ?_⟩
 refine M7 g hg l[i] hbi _ _ ?_
 have hcov := fun (t : Nat) (ht : t < g.T.length) => fo hg hlt hbi ht
 have hmem := Cs hg hbi.1 hbi.2
 have h0 := fk g l i (kf g.W l[i])
 have hts := Sp g.W hbi.1
 generalize kf g.W l[i] = ts at *
 refine AWp.loop (σ := Nat) ⟨fun k => [(2, .bx 2 0), (5, .av (blV b g.T.length)), (14, .av (lst 6 zz l)), (15, .av (int (l.length : Nat))), (16, .av (int (i : Nat))), (22, .av (wc ts)), (23, .av (int (ts.length : Nat))), (24, .av (int (k : Nat)))], fun _ => [(2, zr g)],
  fun k st' => k <= ts.length /\ st' = st.setObj b (.cells (bl g.T.length (xw g l i ts k))), fun k => ts.length - k⟩ zb ?_ ?_
 ·refine ⟨0, Tv, ⟨Nat.zero_le _, ?_⟩, ⟨Tq, Tq, Tq, Tq, Tq, Tq, ?_, Tq, Tv⟩, ⟨rfl, Tv⟩⟩
  ·rw [show xw g l i ts 0 = qa g (l.take i) from funext h0]
  ·rw [<- zl (f := yn) ts]
   exact Tq
 rintro k st' ⟨hk, rfl⟩
 refine bcd (fun h2 => ?_) (fun h2 => ?_)
 rotate_left
 ·have : k = ts.length := by omega
  subst this
  refine zc (by omega) ?_
  refine ⟨i + 1, ?_, ⟨by omega, ?_⟩, ⟨Tq, Tq, Tq, Tq, Tq, Tv⟩, ⟨rfl, Tv⟩⟩
  ·grind
  grind[bl,List.map_congr_left]
 have hklt : k < ts.length := by omega
 obtain ⟨n, hn, hn2, hn3⟩ := (hmem ts[k]).1 (List.getElem_mem hklt)
 have hnl : n < g.T.length := by omega
 obtain ⟨s1, s2⟩ := fm (g := g) (l := l) (i := i) hklt hn
 refine ⟨k, rfl, za _ (zn hklt) ?_⟩
 refine ⟨n, hn, hnl, ?_⟩
 refine y7 (i := ti4) (v := bool true) (b := b) (o := 0 + n * 1) (l := bl g.T.length (xw g l i ts k)) (st2 := st.setObj b (.cells (bl g.T.length (xw g l i ts (k + 1))))) rfl rfl rfl (zd _ _ _) (by rw [xp]; omega) ?_ ?_
 ·grind[yx,Af]
 refine zc (by omega) ?_
 refine ⟨k + 1, ?_, ⟨by omega, rfl⟩, ⟨Tq, Tq, Tq, Tq, Tq, Tq, Tq, Tq, Tv⟩, ⟨rfl, Tv⟩⟩
 grind
theorem Hu (n : Nat) (f : Nat -> Bool) : (rws xi (blL n f)).flatten ++ [] = bl n f := by rw [List.append_nil, zwu]
def opV (g : Gnd) (l : List Bld) (c : Int) : AV := lst 1 xi (blL g.T.length (z6 g l c))
/-- Half done: the first tiles are asked for their Nd as well. -/
def qt (g : Gnd) (l : List Bld) (c : Int) (i t : Nat) : Bool := if t < i then z6 g l c t else qa g l t
theorem D9 (g : Gnd) (hg : zi g) (l : List Bld) (hl : l.length <= 1000000000000) (hb : ∀ b ∈ l, yc b /\ onP g b) (c : Int) (st : Store) (R : AV -> Store -> Prop) (h : R (opV g l c) st) :
  ACalls Tryz.prog 296 [.agg (zr g), lst 6 zz l, int c] st R := by
 have ha := yw hg
 refine ACalls.of_awp (c := cfg 37) zb Tryz.func296 (by rfl) (by rfl) (by rfl) (by rfl) ?_
 refine AWp.seq (AWp.of_vc zb ?_)
 refine AWp.seq (AWp.of_vc zb ?_)
 refine zvk g hg l hl hb _ _ (fun b hf => ?_)
 have step : ∀ i, i < g.T.length -> qt g l c (i + 1) i = z6 g l c i /\ ∀ s, s ≠ i -> qt g l c (i + 1) s = qt g l c i s := fun i hi => by
  unfold qt
  grind
 refine AWp.meetA (σ := Unit) ⟨fun _ => [(7, .av (blV b g.T.length))], fun _ => [], fun _ st' => st' = st.setObj b (.cells (bl g.T.length (z6 g l c)))⟩ ?_ ?_
 ·refine AWp.of_vc zb ?_
  refine AWp.loop (σ := Nat) ⟨fun i => [(2, .av (int c)), (3, .bx 3 0), (7, .av (blV b g.T.length)), (13, .av (blV b g.T.length)), (14, .av (int (g.T.length : Nat))), (15, .av (int (i : Nat)))], fun _ => [(3, zr g)],
   fun i st' => i <= g.T.length /\ st' = st.setObj b (.cells (bl g.T.length (qt g l c i))), fun i => g.T.length - i⟩ zb ?_ ?_
  ·refine ⟨0, Tv, ⟨Nat.zero_le _, ?_⟩, ⟨Tq, Tq, Tq, Tq, Tq, Tq, Tv⟩, ⟨rfl, Tv⟩⟩
   rfl
  rintro i st' ⟨hi, rfl⟩
  refine bcd (fun h1 => ?_) (fun h1 => ?_)
  rotate_left
  ·have : i = g.T.length := by omega
   subst this
   refine ⟨(), ?_, ⟨Tq, Tv⟩, Tv⟩
   have : bl g.T.length (qt g l c g.T.length) = bl g.T.length (z6 g l c) := by simp_all[bl,qt]
   rw [this]
  have hlt : i < g.T.length := by omega
  obtain ⟨s1, s2⟩ := step i hlt
  have ho : (st.setObj b (.cells (bl g.T.length (qt g l c i)))).obj b = some (.cells (bl g.T.length (qt g l c i))) := zd _ _ _
  have hmid : qt g l c i i = qa g l i := if_neg (Nat.lt_irrefl i)
  have hhead : ((bl g.T.length (qt g l c i)).drop (0 + i * 1)).head? = some (bool (qa g l i)) := by grind[List.head?_drop,Bx]
  refine ⟨i, rfl, hlt, ?_⟩
  refine za _ ho (za _ hhead ?_)
  have hti : g.T[i].toNat <= 5 := hg.2.2.2 _ (List.getElem_mem hlt)
  have hget : g.T.getD i 0 = g.T[i] := by simp [hlt]
  refine zh (fun c1 => ?_) (fun c1 => ?_)
  ·have c1 : qa g l i = false := by grind
   refine ⟨i, rfl, za _ (zn hlt) ?_⟩
   refine Og c g.T[i] hti _ _ ?_
   have hz : decide (0 < js c g.T[i].toNat) = z6 g l c i := by
    unfold z6
    grind
   refine ⟨i, rfl, hlt, ?_⟩
   refine y7 (i := ti4) (v := bool (decide (0 < js c g.T[i].toNat))) (b := b) (o := 0 + i * 1) (l := _) (st2 := st.setObj b (.cells (bl g.T.length (qt g l c (i + 1))))) rfl rfl rfl ho (by rw [xp]; omega) (by grind[yx,Af]) ?_
   refine zc (by omega) ?_
   refine ⟨i + 1, ?_, ⟨by omega, rfl⟩, ⟨Tq, Tq, Tq, Tq, Tq, Tq, Tv⟩, ⟨rfl, Tv⟩⟩
   grind
  ·have c1 : qa g l i = true := by grind
   have hz : false = z6 g l c i := by
    unfold z6
    grind
   refine ⟨i, rfl, hlt, ?_⟩
   refine y7 (i := ti4) (v := bool false) (b := b) (o := 0 + i * 1) (l := _) (st2 := st.setObj b (.cells (bl g.T.length (qt g l c (i + 1))))) rfl rfl rfl ho (by rw [xp]; omega) (by grind[yx,Af]) ?_
   refine zc (by omega) ?_
   refine ⟨i + 1, ?_, ⟨by omega, rfl⟩, ⟨Tq, Tq, Tq, Tq, Tq, Tq, Tv⟩, ⟨rfl, Tv⟩⟩
   grind
 ·rintro _ _ rfl
  refine AWp.freeze (d := 7) (b := b) (k := 1) (n := g.T.length) (cap := g.T.length) (rows := rws xi (blL g.T.length (z6 g l c))) (pad := []) rfl ?_ ?_ ?_ (Nat.le_refl _) ?_ ?_ ?_
  ·grind[Hu,zd]
  ·exact hf.2
  ·rw [zl, qq]
  ·intro row hr
   obtain ⟨x, _, rfl⟩ := List.mem_map.1 hr
   rfl
  ·intro row hr y hy
   obtain ⟨x, _, rfl⟩ := List.mem_map.1 hr
   simp [xi] at hy
   exact ⟨_, hy, rfl⟩
  rw [Da hf.1]
  refine AWp.of_vc zb ?_
  exact ret h
set_option maxHeartbeats 1000000 in
theorem zwj (g : Gnd) (hg : zi g) (l : List Bld) (hl : l.length <= 1000000000000) (st : Store) (R : AV -> Store -> Prop)
  (h : ∀ z : Bool, (z = true ↔ Dc g l) -> R (bool z) st) : ACalls Tryz.prog 213 [.agg (zr g), lst 6 zz l] st R := by
 have ha := yw hg
 have hT : ((rws u8C g.T).length : Int) = (g.T.length : Int) := by rw [zl]
 have hL : ((rws zz l).length : Int) = (l.length : Int) := by rw [zl]
 have no : ¬ Dc g l -> R (bool false) st := fun hn => h false (by simp [hn])
 refine ACalls.of_body (c := cfg 60) zb Tryz.func213 (by rfl) (by rfl) (by rfl) (by rfl) ?_
 refine bcd (fun c1 => ret (no fun q => by have := q.1; omega)) (fun c1 => ?_)
 refine zwl l hl _ _ (fun z hz => ?_)
 refine yf ?_
 refine zh (fun c2 => ?_) (fun c2 => ret (no fun q => by have := hz.2 q.2.1; grind))
 have hr := hz.1 c2
 refine vm rfl (it := ti50) (ie := ti4) rfl rfl rfl rfl rfl (n := (rws u8C g.T).length) ?_ ?_ (fun b hf => ?_)
 ·rw [zl]; show 1 * _ <= _; omega
 ·omega
 rw [zl (f := u8C) g.T, Dd]
 have hhas : ∀ f : Nat -> Bool, (st.setObj b (.cells (bl g.T.length f))).Has st := fun f => Ay hf.1
 refine AWp.loop (σ := Nat) ⟨fun i => [(2, .bx 2 0), (5, .av (blV b g.T.length)), (22, .av (lst 6 zz l)), (23, .av (int (l.length : Nat))), (24, .av (int (i : Nat)))], fun _ => [(2, zr g)],
  fun i st' => i <= l.length /\ st' = st.setObj b (.cells (bl g.T.length (qa g (l.take i)))) /\ L6 g l i, fun i => l.length - i⟩ zb ?_ ?_
 ·refine ⟨0, Tv, ⟨Nat.zero_le _, rfl, fun j _ hj => by omega⟩, ⟨Tq, Tq, Tq, ?_, Tq, Tv⟩, ⟨rfl, Tv⟩⟩
  rw [<- zl (f := zz) l]
  exact Tq
 rintro i st' ⟨hi, rfl, hup⟩
 refine bcd (fun h1 => ?_) (fun h1 => ?_)
 rotate_left
 ·have : i = l.length := by omega
  subst this
  have hall := gu hup
  exact vg (Tt) (hhas _) (h true (by simp; exact ⟨by omega, hr, hall.1, hall.2⟩))
 have hlt : i < l.length := by omega
 have nof : ¬ Dc g l -> ∃ r st', AV.le (bool false) r /\ (st.setObj b (.cells (bl g.T.length (qa g (l.take i))))).Has st' /\ R r st' := fun hn => vg (Tt) (hhas _) (no hn)
 refine ⟨i, rfl, za _ (zn hlt) ?_⟩
 refine zww l[i] _ _ (fun z1 hz1 => ?_)
 refine yf ?_
 refine zh (fun c3 => ?_) (fun c3 => nof fun q => by have := hz1.2 (q.2.2.1 _ (List.getElem_mem hlt)).1; grind)
 have hb1 := hz1.1 c3
 refine zwn g l[i] hg hb1 _ _ (fun z2 hz2 => ?_)
 refine yf ?_
 refine zh (fun c4 => ?_) (fun c4 => nof fun q => by have := hz2.2 (q.2.2.1 _ (List.getElem_mem hlt)).2.1; grind)
 have hb2 := hz2.1 c4
 refine zwx g hg l[i] ⟨hb1, hb2⟩ _ _ (fun z3 hz3 => ?_)
 refine yf ?_
 refine zh (fun c5 => ?_) (fun c5 => nof fun q => by have := hz3.2 (q.2.2.1 _ (List.getElem_mem hlt)).2.2; grind)
 have hb3 := hz3.1 c5
 have hbi : yc l[i] /\ onP g l[i] := ⟨hb1, hb2⟩
 refine M7 g hg l[i] hbi _ _ ?_
 have hcov := fun (t : Nat) (ht : t < g.T.length) => fo hg hlt hbi ht
 have hmem := Cs hg hbi.1 hbi.2
 have h0 := fk g l i (kf g.W l[i])
 have hts := Sp g.W hbi.1
 have hcm := zvl hg hlt hbi hup
 have hso := oq hg hbi
 generalize kf g.W l[i] = ts at *
 refine AWp.loop (σ := Nat) ⟨fun k => [(2, .bx 2 0), (5, .av (blV b g.T.length)), (22, .av (lst 6 zz l)), (23, .av (int (l.length : Nat))), (24, .av (int (i : Nat))), (45, .av (wc ts)), (46, .av (int (ts.length : Nat))), (47, .av (int (k : Nat)))], fun _ => [(2, zr g)],
  fun k st' => k <= ts.length /\ st' = st.setObj b (.cells (bl g.T.length (xw g l i ts k))) /\ ∀ m, (hm : m < ts.length) -> m < k -> qa g (l.take i) ts[m].toNat = false, fun k => ts.length - k⟩ zb ?_ ?_
 ·refine ⟨0, Tv, ⟨Nat.zero_le _, ?_, fun m _ hm => by omega⟩, ⟨Tq, Tq, Tq, Tq, Tq, Tq, ?_, Tq, Tv⟩, ⟨rfl, Tv⟩⟩
  ·rw [show xw g l i ts 0 = qa g (l.take i) from funext h0]
  ·rw [<- zl (f := yn) ts]
   exact Tq
 rintro k st' ⟨hk, rfl, hno⟩
 refine bcd (fun h2 => ?_) (fun h2 => ?_)
 rotate_left
 ·have : k = ts.length := by omega
  subst this
  refine zc (by omega) ?_
  refine ⟨i + 1, ?_, ⟨by omega, ?_, fun j hj hji => ?_⟩, ⟨Tq, Tq, Tq, Tq, Tq, Tv⟩, ⟨rfl, Tv⟩⟩
  ·grind
  ·grind[bl,List.map_congr_left]
  ·by_cases e : j = i
   ·subst e
    refine ⟨⟨hb1, hb2, hb3⟩, fun m hm hmt => ?_⟩
    obtain ⟨t, ht, hc⟩ := hcm.2 ⟨m, hm, hmt⟩
    obtain ⟨q, hq, rfl⟩ := List.getElem_of_mem ht
    grind
   ·exact hup j hj (by omega)
 have hklt : k < ts.length := by omega
 obtain ⟨n, hn, hn2, hn3⟩ := (hmem ts[k]).1 (List.getElem_mem hklt)
 have hnl : n < g.T.length := by omega
 obtain ⟨s1, s2⟩ := fm (g := g) (l := l) (i := i) hklt hn
 have hnk : xw g l i ts k n = qa g (l.take i) n := by
  unfold xw
  have : (ts.take k).contains (n : Int) = false := by grind[zqh]
  grind
 refine ⟨k, rfl, za _ (zn hklt) ?_⟩
 have ho : (st.setObj b (.cells (bl g.T.length (xw g l i ts k)))).obj b = some (.cells (bl g.T.length (xw g l i ts k))) := zd _ _ _
 have hhead : ((bl g.T.length (xw g l i ts k)).drop (0 + n * 1)).head? = some (V.bool (qa g (l.take i) n)) := by grind[List.head?_drop,Bx]
 refine ⟨n, hn, hnl, ?_⟩
 refine za _ ho (za _ hhead ?_)
 refine zh (fun c6 => ?_) (fun c6 => ?_)
 ·refine vg (Tt) (hhas _) (no fun q => ?_)
  obtain ⟨m, hm, hmt⟩ := hcm.1 ⟨ts[k], List.getElem_mem hklt, by grind⟩
  exact q.2.2.2 i hlt m hm hmt
 refine ⟨n, hn, hnl, ?_⟩
 refine y7 (i := ti4) (v := bool true) (b := b) (o := 0 + n * 1) (l := bl g.T.length (xw g l i ts k)) (st2 := st.setObj b (.cells (bl g.T.length (xw g l i ts (k + 1))))) rfl rfl rfl (zd _ _ _) (by rw [xp]; omega) ?_ ?_
 ·grind[yx,Af]
 refine zc (by omega) ?_
 refine ⟨k + 1, ?_, ⟨by omega, rfl, fun m hm hmk => ?_⟩, ⟨Tq, Tq, Tq, Tq, Tq, Tq, Tq, Tq, Tv⟩, ⟨rfl, Tv⟩⟩
 ·grind
 grind
end Go.Proofs
