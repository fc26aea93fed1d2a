/- The ground on which laws of thronglaw24 are proved: contracts of functions and plain lemmas; no condition beyond the row's own. -/
import Derived.Test.YtbemejeejgpkaaaGreatSF
set_option linter.unusedSimpArgs false
set_option linter.unusedVariables false
namespace Go.Proofs
open Go Go.V
theorem zm5 (w : Wld) (hU : w.U.length ≤ 1000000) (id : Int) (st : Store) (R : AV → Store → Prop) (h : R (int (idxI (w.U.findIdx? fun u => decide (u.id = id)))) st) : ACalls Tryz.prog 29 [.agg (wldC w), int id] st R := by
 refine ACalls.of_body (c := cfg 22) zc Tryz.func29 (by rfl) (by rfl) (by rfl) (by rfl) ?_
 refine AWp.loop (σ := Nat) ⟨fun i => [(1, .av (int id)), (2, .bx 2 0), (5, .av (int (i : Nat)))], fun _ => [(2, wldC w)],
  fun i st' => i ≤ w.U.length ∧ st' = st ∧ ∀ j, (hj : j < w.U.length) → j < i → w.U[j].id ≠ id, fun i => w.U.length - i⟩ zc ?_ ?_
 ·exact ⟨0, trivial, ⟨Nat.zero_le _, rfl, fun j _ hj => by omega⟩, ⟨lr_ _, lr_ _, lr_ _, trivial⟩, ⟨rfl, trivial⟩⟩
 rintro i st' ⟨hi, rfl, hall⟩
 refine ze (fun h1 => ?_) (fun h1 => ?_)
 rotate_left
 ·have : i = w.U.length := zit h1 hi
  subst this
  have e : (w.U.findIdx? fun u => decide (u.id = id)) = none := by
   rw [List.findIdx?_eq_none_iff]
   intro x hx
   obtain ⟨j, hj, rfl⟩ := List.getElem_of_mem hx
   exact decide_eq_false (hall j hj hj)
  rw [e] at h
  exact ret h
 have hlt := zfg h1
 refine ⟨i, rfl, za _ (zk hlt) ?_⟩
 refine bceq (fun c1 => ?_) (fun c1 => ?_)
 ·have e : (w.U.findIdx? fun u => decide (u.id = id)) = some i := by
   rw [List.findIdx?_eq_some_iff_getElem]
   exact ⟨hlt, decide_eq_true c1, fun j hj => by simpa using hall j (by omega) hj⟩
  rw [e] at h
  exact ret h
 ·refine in64 (by omega) ?_
  refine ⟨i + 1, ?_, ⟨by omega, rfl, fun j hj hj2 => ?_⟩, ⟨lr_ _, lr_ _, lr_ _, trivial⟩, ⟨rfl, trivial⟩⟩
  ·show w.U.length - (i + 1) < w.U.length - i
   omega
  ·by_cases e : j = i
   ·subst e; exact c1
   ·exact hall j hj (by omega)
end Go.Proofs
namespace Go.Proofs
open Go Go.V
end Go.Proofs
namespace Go.Proofs
open Go Go.V
end Go.Proofs
namespace Go.Proofs
open Go Go.V
theorem zi4 (a b : List UInt8) (ha : a.length ≤ 1000000000000) (st : Store) (R : AV → Store → Prop) (h : R (bool (decide (a = b))) st) : ACalls Tryz.prog 90 [lst 1 u8C a, lst 1 u8C b] st R := by
 refine ACalls.of_body (c := cfg 26) zc Tryz.func90 (by rfl) (by rfl) (by rfl) (by rfl) ?_
 refine ze (fun h1 => ?_) (fun h1 => ?_)
 ·have : a ≠ b := fun h2 => zqk h1 (by rw [h2])
  rw [show decide (a = b) = false by simp [this]] at h
  exact ⟨_, st, ar_ _, Store.Has.refl st, h⟩
 ·have hl : a.length = b.length := zro h1
  refine AWp.loop (σ := Nat) ⟨fun i => [(0, .av (lst 1 u8C a)), (1, .av (lst 1 u8C b)), (5, .av (int i))], fun _ => [], fun i st' => i ≤ a.length ∧ a.take i = b.take i ∧ st' = st, fun i => a.length - i⟩ zc ?_ ?_
  ·exact ⟨0, trivial, ⟨Nat.zero_le _, rfl, rfl⟩, ⟨lr_ _, lr_ _, lr_ _, trivial⟩, trivial⟩
  ·rintro i st' ⟨hi, heq, hst⟩
   refine ze (fun h2 => ?_) (fun h2 => ?_)
   ·have hlt : i < a.length := zfg h2
    have hltb : i < b.length := by omega
    refine ADraw.of_sched zc (by rfl) (by rfl) yfr (by rfl) ?_
    refine ⟨i, rfl, za _ (zk hlt) ?_⟩
    refine ⟨i, rfl, za _ (zk hltb) ?_⟩
    refine ze (fun h3 => ?_) (fun h3 => ?_)
    ·have hne : a[i] ≠ b[i] := by
      intro h4
      rw [h4] at h3
      simp at h3
     have : a ≠ b := by
      intro h4
      subst h4
      exact hne rfl
     rw [show decide (a = b) = false by simp [this]] at h
     subst hst
     exact ⟨_, st', ar_ _, Store.Has.refl st', h⟩
    ·refine ⟨⟨by omega, by omega⟩, ?_⟩
     refine ⟨i + 1, ?_, ⟨hlt, ?_, hst⟩, ⟨lr_ _, lr_ _, lr_ _, trivial⟩, trivial⟩
     ·show a.length - (i + 1) < a.length - i
      omega
     ·rw [List.take_succ_eq_append_getElem hlt, List.take_succ_eq_append_getElem hltb, heq]
      have : a[i] = b[i] := UInt8.toNat_inj.1 (by have := h3; simp at this; omega)
      rw [this]
   ·have hge : i = a.length := zit h2 hi
    subst hge hst
    have : a = b := by
     rw [List.take_length, hl, List.take_length] at heq
     exact heq
    rw [show decide (a = b) = true by simp [this]] at h
    exact ⟨_, st', ar_ _, Store.Has.refl st', h⟩
theorem zky (a b : List Bld) (ha : a.length ≤ 1000000000000) (st : Store) (R : AV → Store → Prop) (h : R (bool (decide (a = b))) st) : ACalls Tryz.prog 46 [lst 6 bldC a, lst 6 bldC b] st R := by
 refine ACalls.of_body (c := cfg 26) zc Tryz.func46 (by rfl) (by rfl) (by rfl) (by rfl) ?_
 refine ze (fun h1 => ?_) (fun h1 => ?_)
 ·have : a ≠ b := fun h2 => zqk h1 (by rw [h2])
  rw [show decide (a = b) = false by simp [this]] at h
  exact ⟨_, st, ar_ _, Store.Has.refl st, h⟩
 ·have hl : a.length = b.length := zro h1
  refine AWp.loop (σ := Nat) ⟨fun i => [(0, .av (lst 6 bldC a)), (1, .av (lst 6 bldC b)), (5, .av (int i))], fun _ => [], fun i st' => i ≤ a.length ∧ a.take i = b.take i ∧ st' = st, fun i => a.length - i⟩ zc ?_ ?_
  ·exact ⟨0, trivial, ⟨Nat.zero_le _, rfl, rfl⟩, ⟨lr_ _, lr_ _, lr_ _, trivial⟩, trivial⟩
  ·rintro i st' ⟨hi, heq, hst⟩
   refine ze (fun h2 => ?_) (fun h2 => ?_)
   ·have hlt : i < a.length := zfg h2
    have hltb : i < b.length := by omega
    refine ADraw.of_sched zc (by rfl) (by rfl) yf1 (by rfl) ?_
    refine ⟨i, rfl, za _ (zk hlt) ?_⟩
    refine ⟨i, rfl, za _ (zk hltb) ?_⟩
    refine ze (fun h3 => ?_) (fun h3 => ?_)
    ·have hne : a[i] ≠ b[i] := by
      intro h4
      rw [h4] at h3
      simp at h3
     have : a ≠ b := by
      intro h4
      subst h4
      exact hne rfl
     rw [show decide (a = b) = false by simp [this]] at h
     subst hst
     exact ⟨_, st', ar_ _, Store.Has.refl st', h⟩
    ·refine ⟨⟨by omega, by omega⟩, ?_⟩
     refine ⟨i + 1, ?_, ⟨hlt, ?_, hst⟩, ⟨lr_ _, lr_ _, lr_ _, trivial⟩, trivial⟩
     ·show a.length - (i + 1) < a.length - i
      omega
     ·rw [List.take_succ_eq_append_getElem hlt, List.take_succ_eq_append_getElem hltb, heq]
      have : a[i] = b[i] := by cases hx : a[i]; cases hy : b[i]; rw [hx, hy] at h3; simp at h3; simp [h3]
      rw [this]
   ·have hge : i = a.length := zit h2 hi
    subst hge hst
    have : a = b := by
     rw [List.take_length, hl, List.take_length] at heq
     exact heq
    rw [show decide (a = b) = true by simp [this]] at h
    exact ⟨_, st', ar_ _, Store.Has.refl st', h⟩
theorem zkw (a b : List Unt) (ha : a.length ≤ 1000000000000) (st : Store) (R : AV → Store → Prop) (h : R (bool (decide (a = b))) st) : ACalls Tryz.prog 47 [lst 10 untC a, lst 10 untC b] st R := by
 refine ACalls.of_body (c := cfg 26) zc Tryz.func47 (by rfl) (by rfl) (by rfl) (by rfl) ?_
 refine ze (fun h1 => ?_) (fun h1 => ?_)
 ·have : a ≠ b := fun h2 => zqk h1 (by rw [h2])
  rw [show decide (a = b) = false by simp [this]] at h
  exact ⟨_, st, ar_ _, Store.Has.refl st, h⟩
 ·have hl : a.length = b.length := zro h1
  refine AWp.loop (σ := Nat) ⟨fun i => [(0, .av (lst 10 untC a)), (1, .av (lst 10 untC b)), (5, .av (int i))], fun _ => [], fun i st' => i ≤ a.length ∧ a.take i = b.take i ∧ st' = st, fun i => a.length - i⟩ zc ?_ ?_
  ·exact ⟨0, trivial, ⟨Nat.zero_le _, rfl, rfl⟩, ⟨lr_ _, lr_ _, lr_ _, trivial⟩, trivial⟩
  ·rintro i st' ⟨hi, heq, hst⟩
   refine ze (fun h2 => ?_) (fun h2 => ?_)
   ·have hlt : i < a.length := zfg h2
    have hltb : i < b.length := by omega
    refine ADraw.of_sched zc (by rfl) (by rfl) yf0 (by rfl) ?_
    refine ⟨i, rfl, za _ (zk hlt) ?_⟩
    refine ⟨i, rfl, za _ (zk hltb) ?_⟩
    refine ze (fun h3 => ?_) (fun h3 => ?_)
    ·have hne : a[i] ≠ b[i] := by
      intro h4
      rw [h4] at h3
      simp at h3
     have : a ≠ b := by
      intro h4
      subst h4
      exact hne rfl
     rw [show decide (a = b) = false by simp [this]] at h
     subst hst
     exact ⟨_, st', ar_ _, Store.Has.refl st', h⟩
    ·refine ⟨⟨by omega, by omega⟩, ?_⟩
     refine ⟨i + 1, ?_, ⟨hlt, ?_, hst⟩, ⟨lr_ _, lr_ _, lr_ _, trivial⟩, trivial⟩
     ·show a.length - (i + 1) < a.length - i
      omega
     ·rw [List.take_succ_eq_append_getElem hlt, List.take_succ_eq_append_getElem hltb, heq]
      have : a[i] = b[i] := by cases hx : a[i]; cases hy : b[i]; rw [hx, hy] at h3; simp at h3; simp [h3, Prod.ext_iff]
      rw [this]
   ·have hge : i = a.length := zit h2 hi
    subst hge hst
    have : a = b := by
     rw [List.take_length, hl, List.take_length] at heq
     exact heq
    rw [show decide (a = b) = true by simp [this]] at h
    exact ⟨_, st', ar_ _, Store.Has.refl st', h⟩
theorem zgw (a b : Gnd) (ha : a.fits) (st : Store) (R : AV → Store → Prop) (h : R (V.bool (decide (a = b))) st) : ACalls Tryz.prog 45 [.agg (gndC a), .agg (gndC b)] st R := by
 refine ACalls.of_body (c := cfg 24) zc Tryz.func45 (by rfl) (by rfl) (by rfl) (by rfl) ?_
 refine ze (fun h1 => ?_) (fun h1 => ⟨_, st, ar_ _, Store.Has.refl st, isF h (decide_eq_false fun e => by subst e; simp at h1)⟩)
 refine ze (fun h2 => ?_) (fun h1 => ⟨_, st, ar_ _, Store.Has.refl st, isF h (decide_eq_false fun e => by subst e; simp at h1)⟩)
 refine zi4 a.T b.T ha _ _ ?_
 refine ⟨_, st, ar_ _, Store.Has.refl st, ?_⟩
 have e : decide (a.T = b.T) = decide (a = b) := by
  rw [Bool.eq_iff_iff]
  simp only [beq_iff_eq, decide_eq_true_eq] at *
  constructor
  ·intro h9
   cases a; cases b
   simp_all
  ·rintro rfl
   rfl
 rw [← e] at h
 exact h
theorem zi3 (w : Wld) (hw : w.fits) (st : Store) (R : AV → Store → Prop) (h : R (V.bool true) st) : ACalls Tryz.prog 17 [.agg (wldC w), .agg (wldC w)] st R := by
 refine ACalls.of_body (c := cfg 45) zc Tryz.func17 (by rfl) (by rfl) (by rfl) (by rfl) ?_
 refine bceq (fun h1 => ?_) (fun h1 => absurd rfl h1)
 refine bceq (fun h2 => ?_) (fun h1 => absurd rfl h1)
 refine bceq (fun h3 => ?_) (fun h1 => absurd rfl h1)
 refine zgw w.G w.G hw.1 _ _ ?_
 rw [show decide (w.G = w.G) = true by simp]
 refine zky w.B w.B hw.2.1 _ _ ?_
 rw [show decide (w.B = w.B) = true by simp]
 refine zkw w.U w.U hw.2.2 _ _ ?_
 rw [show decide (w.U = w.U) = true by simp]
 exact ret h
end Go.Proofs
