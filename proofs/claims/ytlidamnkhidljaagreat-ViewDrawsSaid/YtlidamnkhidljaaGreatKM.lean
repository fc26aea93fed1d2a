/- The ground on which laws of thronglaw31 are proved: contracts of functions and plain lemmas; no condition beyond the row's own. -/
import Derived.Test.YtlidamnkhidljaaGreatKE
import Derived.Test.YtlidamnkhidljaaGreatKH
set_option linter.unusedSimpArgs false
set_option linter.unusedVariables false
namespace Go.Proofs
open Go Go.V
set_option maxRecDepth 4000
set_option maxRecDepth 20000 in
theorem ze7 (n : Int) (st : Store) (R : AV -> Store -> Prop) (h : ∀ z : Bool, (z = true ↔ x7 n) -> R (bool z) st) : ACalls Tryz.prog 66 [int n] st R := by
 refine ACalls.of_body (c := cfg 9) zc Tryz.func66 (by rfl) (by rfl) (by rfl) (by rfl) ?_
 repeat' (first | refine bcd (fun _ => ?_) (fun _ => ?_) | refine zd (fun _ => ?_) (fun _ => ?_) | refine in64 (by omega) ?_ | fail)
 all_goals
  refine ret (h _ ?_)
  unfold x7
  simp only [decide_eq_true_eq, decide_eq_false_iff_not, Bool.false_eq_true, false_iff, true_iff, beq_iff_eq, bne_iff_ne, beq_eq_false_iff_ne, ne_eq, reduceCtorEq] at *
  omega
set_option maxRecDepth 20000 in
theorem zet (n : Int) (st : Store) (R : AV -> Store -> Prop) (h : ∀ z : Bool, (z = true ↔ 1 <= n /\ n <= 128) -> R (bool z) st) : ACalls Tryz.prog 84 [int n] st R := by
 refine ACalls.of_body (c := cfg 9) zc Tryz.func84 (by rfl) (by rfl) (by rfl) (by rfl) ?_
 repeat' (first | refine bcd (fun _ => ?_) (fun _ => ?_) | refine zd (fun _ => ?_) (fun _ => ?_) | refine in64 (by omega) ?_ | fail)
 all_goals
  refine ret (h _ ?_)
  simp only [decide_eq_true_eq, decide_eq_false_iff_not, Bool.false_eq_true, false_iff, true_iff, beq_iff_eq, bne_iff_ne, beq_eq_false_iff_ne, ne_eq, reduceCtorEq] at *
  omega
set_option maxRecDepth 20000 in
theorem zk1 (n hi : Int) (st : Store) (R : AV -> Store -> Prop) (h : ∀ z : Bool, (z = true ↔ 0 <= n /\ n <= hi) -> R (bool z) st) : ACalls Tryz.prog 37 [int n, int hi] st R := by
 refine ACalls.of_body (c := cfg 12) zc Tryz.func37 (by rfl) (by rfl) (by rfl) (by rfl) ?_
 repeat' (first | refine bcd (fun _ => ?_) (fun _ => ?_) | refine zd (fun _ => ?_) (fun _ => ?_) | refine in64 (by omega) ?_ | fail)
 all_goals
  refine ret (h _ ?_)
  simp only [decide_eq_true_eq, decide_eq_false_iff_not, Bool.false_eq_true, false_iff, true_iff, beq_iff_eq, bne_iff_ne, beq_eq_false_iff_ne, ne_eq, reduceCtorEq] at *
  omega
set_option maxRecDepth 20000 in
theorem ziu (p : Vc) (st : Store) (R : AV -> Store -> Prop) (h : ∀ z : Bool, (z = true ↔ yx p.1 p.2) -> R (bool z) st) : ACalls Tryz.prog 116 [.agg (vecC p)] st R := by
 refine ACalls.of_body (c := cfg 21) zc Tryz.func116 (by rfl) (by rfl) (by rfl) (by rfl) ?_
 repeat' (first | refine bcd (fun _ => ?_) (fun _ => ?_) | refine zd (fun _ => ?_) (fun _ => ?_) | refine in64 (by omega) ?_ | fail)
 all_goals
  refine ret (h _ ?_)
  unfold yx
  simp only [decide_eq_true_eq, decide_eq_false_iff_not, Bool.false_eq_true, false_iff, true_iff, beq_iff_eq, bne_iff_ne, beq_eq_false_iff_ne, ne_eq, reduceCtorEq] at *
  omega
set_option maxRecDepth 20000 in
theorem zjn (b : Bld) (st : Store) (R : AV -> Store -> Prop) (h : ∀ z : Bool, (z = true ↔ bldP b) -> R (bool z) st) : ACalls Tryz.prog 87 [.agg (bldC b)] st R := by
 refine ACalls.of_body (c := cfg 41) zc Tryz.func87 (by rfl) (by rfl) (by rfl) (by rfl) ?_
 repeat' (first | refine bcd (fun _ => ?_) (fun _ => ?_) | refine zd (fun _ => ?_) (fun _ => ?_) | refine in64 (by omega) ?_ | fail)
 all_goals
  refine ret (h _ ?_)
  unfold bldP
  simp only [decide_eq_true_eq, decide_eq_false_iff_not, Bool.false_eq_true, false_iff, true_iff, beq_iff_eq, bne_iff_ne, beq_eq_false_iff_ne, ne_eq, reduceCtorEq] at *
  omega
set_option maxRecDepth 20000 in
theorem zie (b : Bld) (st : Store) (R : AV -> Store -> Prop) (h : ∀ z : Bool, (z = true ↔ bldP b) -> R (bool z) st) : ACalls Tryz.prog 55 [.agg (bldC b)] st R := by
 refine ACalls.of_body (c := cfg 41) zc Tryz.func55 (by rfl) (by rfl) (by rfl) (by rfl) ?_
 repeat' (first | refine bcd (fun _ => ?_) (fun _ => ?_) | refine zd (fun _ => ?_) (fun _ => ?_) | refine in64 (by omega) ?_ | fail)
 all_goals
  refine ret (h _ ?_)
  unfold bldP
  simp only [decide_eq_true_eq, decide_eq_false_iff_not, Bool.false_eq_true, false_iff, true_iff, beq_iff_eq, bne_iff_ne, beq_eq_false_iff_ne, ne_eq, reduceCtorEq] at *
  omega
set_option maxRecDepth 20000 in
theorem zqu (g : Gnd) (b : Bld) (hg : gndP g) (hb : bldP b) (st : Store) (R : AV -> Store -> Prop) (h : ∀ z : Bool, (z = true ↔ onP g b) -> R (bool z) st) : ACalls Tryz.prog 88 [.agg (gndC g), .agg (bldC b)] st R := by
 obtain ⟨h1, h2, _, _⟩ := hg; obtain ⟨_, _, h3, h4⟩ := hb
 refine ACalls.of_body (c := cfg 33) zc Tryz.func88 (by rfl) (by rfl) (by rfl) (by rfl) ?_
 repeat' (first | refine bcd (fun _ => ?_) (fun _ => ?_) | refine zd (fun _ => ?_) (fun _ => ?_) | refine in64 (by omega) ?_ | fail)
 all_goals
  refine ret (h _ ?_)
  unfold onP
  simp only [decide_eq_true_eq, decide_eq_false_iff_not, Bool.false_eq_true, false_iff, true_iff, beq_iff_eq, bne_iff_ne, beq_eq_false_iff_ne, ne_eq, reduceCtorEq] at *
  omega
set_option maxRecDepth 20000 in
theorem zp7 (g : Gnd) (b : Bld) (hg : gndP g) (hb : bldP b) (st : Store) (R : AV -> Store -> Prop) (h : ∀ z : Bool, (z = true ↔ onP g b) -> R (bool z) st) : ACalls Tryz.prog 56 [.agg (gndC g), .agg (bldC b)] st R := by
 obtain ⟨h1, h2, _, _⟩ := hg; obtain ⟨_, _, h3, h4⟩ := hb
 refine ACalls.of_body (c := cfg 47) zc Tryz.func56 (by rfl) (by rfl) (by rfl) (by rfl) ?_
 repeat' (first | refine bcd (fun _ => ?_) (fun _ => ?_) | refine zd (fun _ => ?_) (fun _ => ?_) | refine in64 (by omega) ?_ | fail)
 all_goals
  refine ret (h _ ?_)
  unfold onP
  simp only [decide_eq_true_eq, decide_eq_false_iff_not, Bool.false_eq_true, false_iff, true_iff, beq_iff_eq, bne_iff_ne, beq_eq_false_iff_ne, ne_eq, reduceCtorEq] at *
  omega
set_option maxRecDepth 20000 in
theorem zu0 (g : Gnd) (t : Int) (hg : gndP g) (st : Store) (R : AV -> Store -> Prop) (h : ∀ z : Bool, (z = true ↔ 0 <= t /\ t < g.W * g.H) -> R (bool z) st) : ACalls Tryz.prog 91 [.agg (gndC g), int t] st R := by
 have hm := zz hg
 refine ACalls.of_body (c := cfg 16) zc Tryz.func91 (by rfl) (by rfl) (by rfl) (by rfl) ?_
 repeat' (first | refine bcd (fun _ => ?_) (fun _ => ?_) | refine zd (fun _ => ?_) (fun _ => ?_) | refine in64 (by omega) ?_ | fail)
 all_goals
  refine ret (h _ ?_)
  simp only [decide_eq_true_eq, decide_eq_false_iff_not, Bool.false_eq_true, false_iff, true_iff, beq_iff_eq, bne_iff_ne, beq_eq_false_iff_ne, ne_eq, reduceCtorEq] at *
  omega
set_option maxRecDepth 20000 in
theorem zcv (g : Gnd) (t : Int) (hg : gndP g) (st : Store) (R : AV -> Store -> Prop) (h : ∀ z : Bool, (z = true ↔ 0 <= t /\ t < g.W * g.H) -> R (bool z) st) : ACalls Tryz.prog 40 [.agg (gndC g), int t] st R := by
 have hm := zz hg
 refine ACalls.of_body (c := cfg 16) zc Tryz.func40 (by rfl) (by rfl) (by rfl) (by rfl) ?_
 repeat' (first | refine bcd (fun _ => ?_) (fun _ => ?_) | refine zd (fun _ => ?_) (fun _ => ?_) | refine in64 (by omega) ?_ | fail)
 all_goals
  refine ret (h _ ?_)
  simp only [decide_eq_true_eq, decide_eq_false_iff_not, Bool.false_eq_true, false_iff, true_iff, beq_iff_eq, bne_iff_ne, beq_eq_false_iff_ne, ne_eq, reduceCtorEq] at *
  omega
set_option maxRecDepth 20000 in
theorem zdc (g : Gnd) (t : Int) (hg : gndP g) (st : Store) (R : AV -> Store -> Prop) (h : ∀ z : Bool, (z = true ↔ wl g t) -> R (bool z) st) : ACalls Tryz.prog 67 [.agg (gndC g), int t] st R := by
 refine ACalls.of_body (c := cfg 12) zc Tryz.func67 (by rfl) (by rfl) (by rfl) (by rfl) ?_
 repeat' (first | refine bcd (fun _ => ?_) (fun _ => ?_) | refine zd (fun _ => ?_) (fun _ => ?_) | refine in64 (by omega) ?_ | (refine zu0 _ _ hg _ _ ?_; rintro (_ | _) hz)| fail)
 all_goals
  refine ret (h _ ?_)
  unfold wl
  simp only [decide_eq_true_eq, decide_eq_false_iff_not, Bool.false_eq_true, false_iff, true_iff, beq_iff_eq, bne_iff_ne, beq_eq_false_iff_ne, ne_eq, reduceCtorEq] at *
  omega
set_option maxRecDepth 20000 in
theorem zi5 (g : Gnd) (l : List Bld) (st : Store) (R : AV -> Store -> Prop) (h : ∀ z : Bool, (z = true ↔ g.T.length > 700 \/ l.length > 30) -> R (bool z) st) : ACalls Tryz.prog 18 [.agg (gndC g), lst 6 bldC l] st R := by
 refine ACalls.of_body (c := cfg 14) zc Tryz.func18 (by rfl) (by rfl) (by rfl) (by rfl) ?_
 repeat' (first | refine bcd (fun _ => ?_) (fun _ => ?_) | refine zd (fun _ => ?_) (fun _ => ?_) | refine in64 (by omega) ?_ | fail)
 all_goals
  refine ret (h _ ?_)
  simp only [decide_eq_true_eq, decide_eq_false_iff_not, Bool.false_eq_true, false_iff, true_iff, beq_iff_eq, bne_iff_ne, beq_eq_false_iff_ne, ne_eq, reduceCtorEq, zh] at *
  omega
set_option maxRecDepth 20000 in
theorem zbu (w : Wld) (st : Store) (R : AV -> Store -> Prop) (h : ∀ z : Bool, (z = true ↔ zhy w) -> R (bool z) st) : ACalls Tryz.prog 6 [.agg (wldC w)] st R := by
 refine ACalls.of_body (c := cfg 14) zc Tryz.func6 (by rfl) (by rfl) (by rfl) (by rfl) ?_
 repeat' (first | refine bcd (fun _ => ?_) (fun _ => ?_) | refine zd (fun _ => ?_) (fun _ => ?_) | refine in64 (by omega) ?_ | (refine zi5 w.G w.B _ _ ?_; rintro (_ | _) hz)| fail)
 all_goals
  refine ret (h _ ?_)
  unfold zhy
  simp only [decide_eq_true_eq, decide_eq_false_iff_not, Bool.false_eq_true, false_iff, true_iff, beq_iff_eq, bne_iff_ne, beq_eq_false_iff_ne, ne_eq, reduceCtorEq, zh] at *
  omega
set_option maxRecDepth 20000 in
theorem zjv (w : Wld) (u : Unt) (hg : gndP w.G) (st : Store) (R : AV -> Store -> Prop) (h : ∀ z : Bool, (z = true ↔ untP w u) -> R (bool z) st) : ACalls Tryz.prog 45 [.agg (wldC w), .agg (untC u)] st R := by
 refine ACalls.of_body (c := cfg 90) zc Tryz.func45 (by rfl) (by rfl) (by rfl) (by rfl) ?_
 repeat' (first | refine bcd (fun _ => ?_) (fun _ => ?_) | refine zd (fun _ => ?_) (fun _ => ?_) | refine in64 (by omega) ?_ | (refine ze7 u.kind _ _ ?_; rintro (_ | _) hz)| (refine zdc w.G u.goal hg _ _ ?_; rintro (_ | _) hz)| (refine zdc w.G u.next hg _ _ ?_; rintro (_ | _) hz)| fail)
 all_goals
  refine ret (h _ ?_)
  simp only [decide_eq_true_eq, decide_eq_false_iff_not, Bool.false_eq_true, false_iff, true_iff, beq_iff_eq, bne_iff_ne, beq_eq_false_iff_ne, ne_eq, reduceCtorEq, untP, x7, wl] at *
  first | omega | (clear h; rcases Decidable.em (u.state = 1) with e1 | e1 <;> rcases Decidable.em (u.goal = -1) with e2 | e2 <;> simp [bne, beqD, e1, e2] at * <;> omega)
theorem zds (l : List UInt8) (hl : l.length <= 1000000000000) (hne : 0 < l.length) (st : Store) (R : AV -> Store -> Prop) (h : ∀ m : UInt8, m ∈ l -> (∀ t ∈ l, t.toNat <= m.toNat) -> R (u8 m) st) : ACalls Tryz.prog 85 [byts l] st R := by
 refine ACalls.of_body (c := cfg 25) zc Tryz.func85 (by rfl) (by rfl) (by rfl) (by rfl) ?_
 refine zd (fun h1 => ?_) (fun h1 => ?_)
 ·rw [zh] at h1
  simp at h1
  omega
 refine ⟨0, rfl, za _ (zg hne) ?_⟩
 refine AWp.loop (σ := Nat × UInt8) ⟨fun s => [(0, .av (byts l)), (3, .av (u8 s.2)), (4, .av (int (s.1 : Nat)))], fun _ => [],
  fun s st' => (1 <= s.1 /\ s.1 <= l.length) /\ st' = st /\ s.2 ∈ l /\ ∀ t ∈ l.take s.1, t.toNat <= s.2.toNat, fun s => l.length - s.1⟩ zc ?_ ?_
 ·refine ⟨(1, l[0]), Tv, ⟨⟨Nat.le_refl _, hne⟩, rfl, List.getElem_mem hne, fun t ht => ?_⟩, ⟨Tq, Tq, Tq, Tv⟩, Tv⟩
  have : l.take 1 = [l[0]] := by
   cases l with
   | nil => simp at hne
   | cons a l => rfl
  rw [this] at ht
  simp at ht
  rw [ht]
  exact Nat.le_refl _
 ·rintro ⟨i, m⟩ st' ⟨⟨hi1, hi⟩, rfl, hm, hall⟩
  simp only at hi1 hi hm hall
  refine zd (fun h1 => ?_) (fun h1 => ?_)
  ·have hlt : i < l.length := y6 h1
   refine ⟨i, rfl, za _ (zg hlt) ?_⟩
   refine ⟨⟨by omega, by omega⟩, ?_⟩
   have hmax : max2 (m.toNat : Int) (l[i].toNat : Int) = ((if l[i].toNat > m.toNat then l[i] else m : UInt8).toNat : Int) := by
    unfold max2
    by_cases hg : l[i].toNat > m.toNat
    ·rw [if_pos hg, decide_eq_true (by omega)]; rfl
    ·rw [if_neg hg, decide_eq_false (by omega)]; rfl
   refine ⟨(i + 1, if l[i].toNat > m.toNat then l[i] else m), ?_, ⟨⟨by omega, hlt⟩, rfl, ?_, fun t ht => ?_⟩, ⟨Tq, ?_, Tq, Tv⟩, Tv⟩
   ·show l.length - (i + 1) < l.length - i
    omega
   ·show (if l[i].toNat > m.toNat then l[i] else m) ∈ l
    split
    ·exact List.getElem_mem hlt
    ·exact hm
   ·show t.toNat <= (if l[i].toNat > m.toNat then l[i] else m : UInt8).toNat
    rw [List.take_succ_eq_append_getElem hlt] at ht
    rcases List.mem_append.1 ht with ht | ht
    ·have := hall t ht
     split <;> omega
    ·simp at ht
     subst ht
     split <;> omega
   ·show LV.le (.av (.s (.int .u8 (max2 (m.toNat : Int) (l[i].toNat : Int))))) _
    rw [hmax]
    exact Tq
  ·have hge : i = l.length := qw h1 hi
   subst hge
   rw [List.take_length] at hall
   exact ⟨_, st', Tt, Store.Has.refl st', h m hm hall⟩
theorem zce (g : Gnd) (hg : g.fits) (st : Store) (R : AV -> Store -> Prop) (h : ∀ b : Bool, (b = true ↔ gndP g) -> R (bool b) st) : ACalls Tryz.prog 62 [.agg (gndC g)] st R := by
 refine ACalls.of_body (c := cfg 28) zc Tryz.func62 (by rfl) (by rfl) (by rfl) (by rfl) ?_
 refine zet g.W _ _ (fun b hb => ?_)
 cases b with
 | false =>
  refine ⟨_, st, Tt, Store.Has.refl st, h _ ?_⟩
  simp only [Bool.false_eq_true, false_iff] at hb ⊢
  exact fun hp => hb hp.1
 | true =>
  refine zet g.H _ _ (fun b2 hb2 => ?_)
  cases b2 with
  | false =>
   refine ⟨_, st, Tt, Store.Has.refl st, h _ ?_⟩
   simp only [Bool.false_eq_true, false_iff] at hb2 ⊢
   exact fun hp => hb2 hp.2.1
  | true =>
   have hm := zhp (hb.1 rfl) (hb2.1 rfl)
   refine ⟨⟨by omega, by omega⟩, ?_⟩
   refine zd (fun h1 => ⟨_, st, Tt, Store.Has.refl st, h _ ?_⟩) (fun h1 => ?_)
   ·rw [zh] at h1
    simp only [Bool.false_eq_true, false_iff]
    intro hp
    have := hp.2.2.1
    simp [this] at h1
   ·rw [zh] at h1
    have h1 : (g.T.length : Int) = g.W * g.H := by simpa using h1
    refine zds g.T hg (by omega) _ _ (fun m hm1 hm2 => ?_)
    refine ⟨_, st, Tt, Store.Has.refl st, h _ ?_⟩
    rw [decide_eq_true_iff]
    constructor
    ·intro h2
     refine ⟨hb.1 rfl, hb2.1 rfl, h1, fun t ht => ?_⟩
     have := hm2 t ht
     omega
    ·intro hp
     have := hp.2.2.2 m hm1
     omega
theorem zfd (g : Gnd) (hg : g.fits) (st : Store) (R : AV -> Store -> Prop) (h : ∀ b : Bool, (b = true ↔ gndP g) -> R (bool b) st) : ACalls Tryz.prog 53 [.agg (gndC g)] st R := by
 refine ACalls.of_body (c := cfg 46) zc Tryz.func53 (by rfl) (by rfl) (by rfl) (by rfl) ?_
 have no : ¬ gndP g -> R (bool false) st := fun hn => h false (by simpa using hn)
 refine zd (fun h1 => ⟨_, st, Tt, Store.Has.refl st, no ?_⟩) (fun h1 => ?_)
 ·intro hp; have := hp.1; simp at h1; omega
 refine zd (fun h2 => ⟨_, st, Tt, Store.Has.refl st, no ?_⟩) (fun h2 => ?_)
 ·intro hp; have := hp.1; simp at h2; omega
 refine zd (fun h3 => ⟨_, st, Tt, Store.Has.refl st, no ?_⟩) (fun h3 => ?_)
 ·intro hp; have := hp.2.1; simp at h3; omega
 refine zd (fun h4 => ⟨_, st, Tt, Store.Has.refl st, no ?_⟩) (fun h4 => ?_)
 ·intro hp; have := hp.2.1; simp at h4; omega
 have hW : 1 <= g.W /\ g.W <= 128 := by simp at h1 h2; omega
 have hH : 1 <= g.H /\ g.H <= 128 := by simp at h3 h4; omega
 have hm := zhp hW hH
 refine ⟨⟨by omega, by omega⟩, ?_⟩
 refine zd (fun h5 => ⟨_, st, Tt, Store.Has.refl st, no ?_⟩) (fun h5 => ?_)
 ·rw [zh] at h5
  intro hp
  have := hp.2.2.1
  simp [this] at h5
 rw [zh] at h5
 have h5 : (g.T.length : Int) = g.W * g.H := by simpa using h5
 refine AWp.loop (σ := Nat) ⟨fun i => [(1, .bx 1 0), (3, .av (int (i : Nat)))], fun _ => [(1, gndC g)],
  fun i st' => i <= g.T.length /\ st' = st /\ ∀ t ∈ g.T.take i, t.toNat <= 5, fun i => g.T.length - i⟩ zc ?_ ?_
 ·exact ⟨0, Tv, ⟨Nat.zero_le _, rfl, fun t ht => by simp at ht⟩, ⟨Tq, Tq, Tv⟩, (by repeat (first | exact Tv | refine ⟨rfl, ?_⟩ | refine ⟨optR (optR (optR (za _ (zb _ _ _) rfl))), ?_⟩))⟩
 ·rintro i st' ⟨hi, rfl, hall⟩
  refine zd (fun h6 => ?_) (fun h6 => ?_)
  ·have hlt : i < g.T.length := y6 h6
   refine ⟨i, rfl, za _ (zg hlt) ?_⟩
   refine zd (fun h7 => ⟨_, st', Tt, Store.Has.refl st', no ?_⟩) (fun h7 => ?_)
   ·intro hp
    have := hp.2.2.2 _ (List.getElem_mem hlt)
    simp at h7
    omega
   ·refine ⟨⟨by omega, by omega⟩, ?_⟩
    refine ⟨i + 1, ?_, ⟨hlt, rfl, fun t ht => ?_⟩, ⟨Tq, Tq, Tv⟩, (by repeat (first | exact Tv | refine ⟨rfl, ?_⟩ | refine ⟨optR (optR (optR (za _ (zb _ _ _) rfl))), ?_⟩))⟩
    ·show g.T.length - (i + 1) < g.T.length - i
     omega
    ·rw [List.take_succ_eq_append_getElem hlt] at ht
     rcases List.mem_append.1 ht with ht | ht
     ·exact hall t ht
     ·simp at ht
      subst ht
      simp at h7
      omega
  ·have hge : i = g.T.length := qw h6 hi
   subst hge
   rw [List.take_length] at hall
   exact ⟨_, st', Tt, Store.Has.refl st', h true (by simpa using ⟨hW, hH, h5, hall⟩)⟩
end Go.Proofs
