/- Ground of laws of thronglaw24: contracts and plain lemmas; no condition beyond the row's own. -/
import Derived.Test.YthjfdaifoocijaaGreatKI
set_option linter.unusedSimpArgs false
set_option linter.unusedVariables false
namespace Go.Proofs
open Go Go.V
set_option maxRecDepth 4000
set_option maxRecDepth 20000 in
theorem zo6 (n : Int) (st : Store) (R : AV -> Store -> Prop) (h : ∀ z : Bool, (z = true ↔ jt n) -> R (bool z) st) : ACalls Tryz.prog 130 [int n] st R := by
 refine ACalls.of_body (c := cfg 9) zb Tryz.func130 (by rfl) (by rfl) (by rfl) (by rfl) ?_
 repeat' (first | refine bcd (fun _ => ?_) (fun _ => ?_) | refine zg (fun _ => ?_) (fun _ => ?_) | refine zc (by omega) ?_ | fail)
 all_goals
  refine ret (h _ ?_)
  unfold jt
  simp only [decide_eq_true_eq, decide_eq_false_iff_not, Bool.false_eq_true, false_iff, true_iff, beq_iff_eq, bne_iff_ne, beq_eq_false_iff_ne, ne_eq, reduceCtorEq] at *
  omega
set_option maxRecDepth 20000 in
theorem S0 (n : Int) (st : Store) (R : AV -> Store -> Prop) (h : ∀ z : Bool, (z = true ↔ 1 <= n /\ n <= 128) -> R (bool z) st) : ACalls Tryz.prog 155 [int n] st R := by
 refine ACalls.of_body (c := cfg 9) zb Tryz.func155 (by rfl) (by rfl) (by rfl) (by rfl) ?_
 repeat' (first | refine bcd (fun _ => ?_) (fun _ => ?_) | refine zg (fun _ => ?_) (fun _ => ?_) | refine zc (by omega) ?_ | fail)
 all_goals
  refine ret (h _ ?_)
  simp only [decide_eq_true_eq, decide_eq_false_iff_not, Bool.false_eq_true, false_iff, true_iff, beq_iff_eq, bne_iff_ne, beq_eq_false_iff_ne, ne_eq, reduceCtorEq] at *
  omega
set_option maxRecDepth 20000 in
theorem znv (n hi : Int) (st : Store) (R : AV -> Store -> Prop) (h : ∀ z : Bool, (z = true ↔ 0 <= n /\ n <= hi) -> R (bool z) st) : ACalls Tryz.prog 87 [int n, int hi] st R := by
 refine ACalls.of_body (c := cfg 12) zb Tryz.func87 (by rfl) (by rfl) (by rfl) (by rfl) ?_
 repeat' (first | refine bcd (fun _ => ?_) (fun _ => ?_) | refine zg (fun _ => ?_) (fun _ => ?_) | refine zc (by omega) ?_ | fail)
 all_goals
  refine ret (h _ ?_)
  simp only [decide_eq_true_eq, decide_eq_false_iff_not, Bool.false_eq_true, false_iff, true_iff, beq_iff_eq, bne_iff_ne, beq_eq_false_iff_ne, ne_eq, reduceCtorEq] at *
  omega
set_option maxRecDepth 20000 in
theorem zm9 (p : Vc) (st : Store) (R : AV -> Store -> Prop) (h : ∀ z : Bool, (z = true ↔ qu p.1 p.2) -> R (bool z) st) : ACalls Tryz.prog 235 [.agg (zk p)] st R := by
 refine ACalls.of_body (c := cfg 21) zb Tryz.func235 (by rfl) (by rfl) (by rfl) (by rfl) ?_
 repeat' (first | refine bcd (fun _ => ?_) (fun _ => ?_) | refine zg (fun _ => ?_) (fun _ => ?_) | refine zc (by omega) ?_ | fail)
 all_goals
  refine ret (h _ ?_)
  unfold qu
  simp only [decide_eq_true_eq, decide_eq_false_iff_not, Bool.false_eq_true, false_iff, true_iff, beq_iff_eq, bne_iff_ne, beq_eq_false_iff_ne, ne_eq, reduceCtorEq] at *
  omega
set_option maxRecDepth 20000 in
theorem zt4 (b : Bld) (st : Store) (R : AV -> Store -> Prop) (h : ∀ z : Bool, (z = true ↔ z7 b) -> R (bool z) st) : ACalls Tryz.prog 204 [.agg (zp b)] st R := by
 refine ACalls.of_body (c := cfg 41) zb Tryz.func204 (by rfl) (by rfl) (by rfl) (by rfl) ?_
 repeat' (first | refine bcd (fun _ => ?_) (fun _ => ?_) | refine zg (fun _ => ?_) (fun _ => ?_) | refine zc (by omega) ?_ | fail)
 all_goals
  refine ret (h _ ?_)
  unfold z7
  simp only [decide_eq_true_eq, decide_eq_false_iff_not, Bool.false_eq_true, false_iff, true_iff, beq_iff_eq, bne_iff_ne, beq_eq_false_iff_ne, ne_eq, reduceCtorEq] at *
  omega
set_option maxRecDepth 20000 in
theorem zin (b : Bld) (st : Store) (R : AV -> Store -> Prop) (h : ∀ z : Bool, (z = true ↔ z7 b) -> R (bool z) st) : ACalls Tryz.prog 141 [.agg (zp b)] st R := by
 refine ACalls.of_body (c := cfg 41) zb Tryz.func141 (by rfl) (by rfl) (by rfl) (by rfl) ?_
 repeat' (first | refine bcd (fun _ => ?_) (fun _ => ?_) | refine zg (fun _ => ?_) (fun _ => ?_) | refine zc (by omega) ?_ | fail)
 all_goals
  refine ret (h _ ?_)
  unfold z7
  simp only [decide_eq_true_eq, decide_eq_false_iff_not, Bool.false_eq_true, false_iff, true_iff, beq_iff_eq, bne_iff_ne, beq_eq_false_iff_ne, ne_eq, reduceCtorEq] at *
  omega
set_option maxRecDepth 20000 in
theorem ztu (g : Gnd) (b : Bld) (hg : zl g) (hb : z7 b) (st : Store) (R : AV -> Store -> Prop) (h : ∀ z : Bool, (z = true ↔ onP g b) -> R (bool z) st) : ACalls Tryz.prog 205 [.agg (zt g), .agg (zp b)] st R := by
 obtain ⟨h1, h2, _, _⟩ := hg; obtain ⟨_, _, h3, h4⟩ := hb
 refine ACalls.of_body (c := cfg 33) zb Tryz.func205 (by rfl) (by rfl) (by rfl) (by rfl) ?_
 repeat' (first | refine bcd (fun _ => ?_) (fun _ => ?_) | refine zg (fun _ => ?_) (fun _ => ?_) | refine zc (by omega) ?_ | fail)
 all_goals
  refine ret (h _ ?_)
  unfold onP
  simp only [decide_eq_true_eq, decide_eq_false_iff_not, Bool.false_eq_true, false_iff, true_iff, beq_iff_eq, bne_iff_ne, beq_eq_false_iff_ne, ne_eq, reduceCtorEq] at *
  omega
set_option maxRecDepth 20000 in
theorem zlt (g : Gnd) (b : Bld) (hg : zl g) (hb : z7 b) (st : Store) (R : AV -> Store -> Prop) (h : ∀ z : Bool, (z = true ↔ onP g b) -> R (bool z) st) : ACalls Tryz.prog 142 [.agg (zt g), .agg (zp b)] st R := by
 obtain ⟨h1, h2, _, _⟩ := hg; obtain ⟨_, _, h3, h4⟩ := hb
 refine ACalls.of_body (c := cfg 47) zb Tryz.func142 (by rfl) (by rfl) (by rfl) (by rfl) ?_
 repeat' (first | refine bcd (fun _ => ?_) (fun _ => ?_) | refine zg (fun _ => ?_) (fun _ => ?_) | refine zc (by omega) ?_ | fail)
 all_goals
  refine ret (h _ ?_)
  unfold onP
  simp only [decide_eq_true_eq, decide_eq_false_iff_not, Bool.false_eq_true, false_iff, true_iff, beq_iff_eq, bne_iff_ne, beq_eq_false_iff_ne, ne_eq, reduceCtorEq] at *
  omega
set_option maxRecDepth 20000 in
theorem zo9 (g : Gnd) (t : Int) (hg : zl g) (st : Store) (R : AV -> Store -> Prop) (h : ∀ z : Bool, (z = true ↔ 0 <= t /\ t < g.W * g.H) -> R (bool z) st) : ACalls Tryz.prog 209 [.agg (zt g), int t] st R := by
 have hm := y9 hg
 refine ACalls.of_body (c := cfg 16) zb Tryz.func209 (by rfl) (by rfl) (by rfl) (by rfl) ?_
 repeat' (first | refine bcd (fun _ => ?_) (fun _ => ?_) | refine zg (fun _ => ?_) (fun _ => ?_) | refine zc (by omega) ?_ | fail)
 all_goals
  refine ret (h _ ?_)
  simp only [decide_eq_true_eq, decide_eq_false_iff_not, Bool.false_eq_true, false_iff, true_iff, beq_iff_eq, bne_iff_ne, beq_eq_false_iff_ne, ne_eq, reduceCtorEq] at *
  omega
set_option maxRecDepth 20000 in
theorem Se (g : Gnd) (t : Int) (hg : zl g) (st : Store) (R : AV -> Store -> Prop) (h : ∀ z : Bool, (z = true ↔ 0 <= t /\ t < g.W * g.H) -> R (bool z) st) : ACalls Tryz.prog 89 [.agg (zt g), int t] st R := by
 have hm := y9 hg
 refine ACalls.of_body (c := cfg 16) zb Tryz.func89 (by rfl) (by rfl) (by rfl) (by rfl) ?_
 repeat' (first | refine bcd (fun _ => ?_) (fun _ => ?_) | refine zg (fun _ => ?_) (fun _ => ?_) | refine zc (by omega) ?_ | fail)
 all_goals
  refine ret (h _ ?_)
  simp only [decide_eq_true_eq, decide_eq_false_iff_not, Bool.false_eq_true, false_iff, true_iff, beq_iff_eq, bne_iff_ne, beq_eq_false_iff_ne, ne_eq, reduceCtorEq] at *
  omega
set_option maxRecDepth 20000 in
theorem fi (g : Gnd) (t : Int) (hg : zl g) (st : Store) (R : AV -> Store -> Prop) (h : ∀ z : Bool, (z = true ↔ jq g t) -> R (bool z) st) : ACalls Tryz.prog 131 [.agg (zt g), int t] st R := by
 refine ACalls.of_body (c := cfg 12) zb Tryz.func131 (by rfl) (by rfl) (by rfl) (by rfl) ?_
 repeat' (first | refine bcd (fun _ => ?_) (fun _ => ?_) | refine zg (fun _ => ?_) (fun _ => ?_) | refine zc (by omega) ?_ | (refine zo9 _ _ hg _ _ ?_; rintro (_ | _) hz)| fail)
 all_goals
  refine ret (h _ ?_)
  unfold jq
  simp only [decide_eq_true_eq, decide_eq_false_iff_not, Bool.false_eq_true, false_iff, true_iff, beq_iff_eq, bne_iff_ne, beq_eq_false_iff_ne, ne_eq, reduceCtorEq] at *
  omega
set_option maxRecDepth 20000 in
theorem zp7 (g : Gnd) (l : List Bld) (st : Store) (R : AV -> Store -> Prop) (h : ∀ z : Bool, (z = true ↔ g.T.length > 700 \/ l.length > 30) -> R (bool z) st) : ACalls Tryz.prog 92 [.agg (zt g), lst 6 zp l] st R := by
 refine ACalls.of_body (c := cfg 14) zb Tryz.func92 (by rfl) (by rfl) (by rfl) (by rfl) ?_
 repeat' (first | refine bcd (fun _ => ?_) (fun _ => ?_) | refine zg (fun _ => ?_) (fun _ => ?_) | refine zc (by omega) ?_ | fail)
 all_goals
  refine ret (h _ ?_)
  simp only [decide_eq_true_eq, decide_eq_false_iff_not, Bool.false_eq_true, false_iff, true_iff, beq_iff_eq, bne_iff_ne, beq_eq_false_iff_ne, ne_eq, reduceCtorEq, zu] at *
  omega
set_option maxRecDepth 20000 in
theorem zp8 (w : Wld) (st : Store) (R : AV -> Store -> Prop) (h : ∀ z : Bool, (z = true ↔ Hu w) -> R (bool z) st) : ACalls Tryz.prog 50 [.agg (zr w)] st R := by
 refine ACalls.of_body (c := cfg 14) zb Tryz.func50 (by rfl) (by rfl) (by rfl) (by rfl) ?_
 repeat' (first | refine bcd (fun _ => ?_) (fun _ => ?_) | refine zg (fun _ => ?_) (fun _ => ?_) | refine zc (by omega) ?_ | (refine zp7 w.G w.B _ _ ?_; rintro (_ | _) hz)| fail)
 all_goals
  refine ret (h _ ?_)
  unfold Hu
  simp only [decide_eq_true_eq, decide_eq_false_iff_not, Bool.false_eq_true, false_iff, true_iff, beq_iff_eq, bne_iff_ne, beq_eq_false_iff_ne, ne_eq, reduceCtorEq, zu] at *
  omega
set_option maxRecDepth 20000 in
theorem zuu (w : Wld) (u : Unt) (hg : zl w.G) (st : Store) (R : AV -> Store -> Prop) (h : ∀ z : Bool, (z = true ↔ jy w u) -> R (bool z) st) : ACalls Tryz.prog 79 [.agg (zr w), .agg (ze u)] st R := by
 refine ACalls.of_body (c := cfg 90) zb Tryz.func79 (by rfl) (by rfl) (by rfl) (by rfl) ?_
 repeat' (first | refine bcd (fun _ => ?_) (fun _ => ?_) | refine zg (fun _ => ?_) (fun _ => ?_) | refine zc (by omega) ?_ | (refine zo6 u.kind _ _ ?_; rintro (_ | _) hz)| (refine fi w.G u.goal hg _ _ ?_; rintro (_ | _) hz)| (refine fi w.G u.next hg _ _ ?_; rintro (_ | _) hz)| fail)
 all_goals
  refine ret (h _ ?_)
  simp only [decide_eq_true_eq, decide_eq_false_iff_not, Bool.false_eq_true, false_iff, true_iff, beq_iff_eq, bne_iff_ne, beq_eq_false_iff_ne, ne_eq, reduceCtorEq, jy, jt, jq] at *
  first | omega | (clear h; rcases Decidable.em (u.state = 1) with e1 | e1 <;> rcases Decidable.em (u.goal = -1) with e2 | e2 <;> simp [bne, ff, e1, e2] at * <;> omega)
theorem zo0 (l : List UInt8) (hl : l.length <= 1000000000000) (hne : 0 < l.length) (st : Store) (R : AV -> Store -> Prop) (h : ∀ m : UInt8, m ∈ l -> (∀ t ∈ l, t.toNat <= m.toNat) -> R (u8 m) st) : ACalls Tryz.prog 156 [Cr l] st R := by
 refine ACalls.of_body (c := cfg 25) zb Tryz.func156 (by rfl) (by rfl) (by rfl) (by rfl) ?_
 refine zg (fun h1 => ?_) (fun h1 => ?_)
 ·grind[zu]
 refine ⟨0, rfl, za _ (zj hne) ?_⟩
 refine AWp.loop (σ := Nat × UInt8) ⟨fun s => [(0, .av (Cr l)), (3, .av (u8 s.2)), (4, .av (int (s.1 : Nat)))], fun _ => [],
  fun s st' => (1 <= s.1 /\ s.1 <= l.length) /\ st' = st /\ s.2 ∈ l /\ ∀ t ∈ l.take s.1, t.toNat <= s.2.toNat, fun s => l.length - s.1⟩ zb ?_ ?_
 ·refine ⟨(1, l[0]), Tv, ⟨⟨Nat.le_refl _, hne⟩, rfl, List.getElem_mem hne, fun t ht => ?_⟩, ⟨Tq, Tq, Tq, Tv⟩, Tv⟩
  have : l.take 1 = [l[0]] := by
   cases l with
   | nil => grind
   | cons a l => rfl
  grind
 ·rintro ⟨i, m⟩ st' ⟨⟨hi1, hi⟩, rfl, hm, hall⟩
  simp only at hi1 hi hm hall
  refine zg (fun h1 => ?_) (fun h1 => ?_)
  ·have hlt : i < l.length := qy h1
   refine ⟨i, rfl, za _ (zj hlt) ?_⟩
   refine ⟨⟨by omega, by omega⟩, ?_⟩
   have hmax : max2 (m.toNat : Int) (l[i].toNat : Int) = ((if l[i].toNat > m.toNat then l[i] else m : UInt8).toNat : Int) := by
    unfold max2
    grind
   refine ⟨(i + 1, if l[i].toNat > m.toNat then l[i] else m), ?_, ⟨⟨by omega, hlt⟩, rfl, ?_, fun t ht => ?_⟩, ⟨Tq, ?_, Tq, Tv⟩, Tv⟩
   ·grind
   ·grind
   ·grind[List.take_succ_eq_append_getElem]
   ·show LV.le (.av (.s (.int .u8 (max2 (m.toNat : Int) (l[i].toNat : Int))))) _
    rw [hmax]
    exact Tq
  ·have hge : i = l.length := jh h1 hi
   subst hge
   rw [List.take_length] at hall
   exact ⟨_, st', Tt, Store.Has.refl st', h m hm hall⟩
theorem zp5 (g : Gnd) (hg : g.fits) (st : Store) (R : AV -> Store -> Prop) (h : ∀ b : Bool, (b = true ↔ zl g) -> R (bool b) st) : ACalls Tryz.prog 104 [.agg (zt g)] st R := by
 refine ACalls.of_body (c := cfg 28) zb Tryz.func104 (by rfl) (by rfl) (by rfl) (by rfl) ?_
 refine S0 g.W _ _ (fun b hb => ?_)
 cases b with
 | false =>
  refine ⟨_, st, Tt, Store.Has.refl st, h _ ?_⟩
  simp only [Bool.false_eq_true, false_iff] at hb ⊢
  exact fun hp => hb hp.1
 | true =>
  refine S0 g.H _ _ (fun b2 hb2 => ?_)
  cases b2 with
  | false =>
   refine ⟨_, st, Tt, Store.Has.refl st, h _ ?_⟩
   simp only [Bool.false_eq_true, false_iff] at hb2 ⊢
   exact fun hp => hb2 hp.2.1
  | true =>
   have hm := S4 (hb.1 rfl) (hb2.1 rfl)
   refine ⟨⟨by omega, by omega⟩, ?_⟩
   refine zg (fun h1 => ⟨_, st, Tt, Store.Has.refl st, h _ ?_⟩) (fun h1 => ?_)
   ·rw [zu] at h1
    simp only [Bool.false_eq_true, false_iff]
    intro hp
    have := hp.2.2.1
    grind
   ·rw [zu] at h1
    have h1 : (g.T.length : Int) = g.W * g.H := by grind
    refine zo0 g.T hg (by omega) _ _ (fun m hm1 hm2 => ?_)
    refine ⟨_, st, Tt, Store.Has.refl st, h _ ?_⟩
    rw [decide_eq_true_iff]
    constructor
    ·intro h2
     refine ⟨hb.1 rfl, hb2.1 rfl, h1, fun t ht => ?_⟩
     grind
    ·intro hp
     have := hp.2.2.2 m hm1
     omega
theorem zp6 (g : Gnd) (hg : g.fits) (st : Store) (R : AV -> Store -> Prop) (h : ∀ b : Bool, (b = true ↔ zl g) -> R (bool b) st) : ACalls Tryz.prog 38 [.agg (zt g)] st R := by
 refine ACalls.of_body (c := cfg 46) zb Tryz.func38 (by rfl) (by rfl) (by rfl) (by rfl) ?_
 have no : ¬ zl g -> R (bool false) st := fun hn => h false (by simpa using hn)
 refine zg (fun h1 => ⟨_, st, Tt, Store.Has.refl st, no ?_⟩) (fun h1 => ?_)
 ·intro hp; have := hp.1; grind
 refine zg (fun h2 => ⟨_, st, Tt, Store.Has.refl st, no ?_⟩) (fun h2 => ?_)
 ·intro hp; have := hp.1; grind
 refine zg (fun h3 => ⟨_, st, Tt, Store.Has.refl st, no ?_⟩) (fun h3 => ?_)
 ·intro hp; have := hp.2.1; grind
 refine zg (fun h4 => ⟨_, st, Tt, Store.Has.refl st, no ?_⟩) (fun h4 => ?_)
 ·intro hp; have := hp.2.1; grind
 have hW : 1 <= g.W /\ g.W <= 128 := by grind
 have hH : 1 <= g.H /\ g.H <= 128 := by grind
 have hm := S4 hW hH
 refine ⟨⟨by omega, by omega⟩, ?_⟩
 refine zg (fun h5 => ⟨_, st, Tt, Store.Has.refl st, no ?_⟩) (fun h5 => ?_)
 ·rw [zu] at h5
  intro hp
  have := hp.2.2.1
  grind
 rw [zu] at h5
 have h5 : (g.T.length : Int) = g.W * g.H := by grind
 refine AWp.loop (σ := Nat) ⟨fun i => [(1, .bx 1 0), (3, .av (int (i : Nat)))], fun _ => [(1, zt g)],
  fun i st' => i <= g.T.length /\ st' = st /\ ∀ t ∈ g.T.take i, t.toNat <= 5, fun i => g.T.length - i⟩ zb ?_ ?_
 ·exact ⟨0, Tv, ⟨Nat.zero_le _, rfl, fun t ht => by simp at ht⟩, ⟨Tq, Tq, Tv⟩, (by repeat (first | exact Tv | refine ⟨rfl, ?_⟩ | refine ⟨optR (optR (optR (za _ (zd _ _ _) rfl))), ?_⟩))⟩
 ·rintro i st' ⟨hi, rfl, hall⟩
  refine zg (fun h6 => ?_) (fun h6 => ?_)
  ·have hlt : i < g.T.length := qy h6
   refine ⟨i, rfl, za _ (zj hlt) ?_⟩
   refine zg (fun h7 => ⟨_, st', Tt, Store.Has.refl st', no ?_⟩) (fun h7 => ?_)
   ·intro hp
    have := hp.2.2.2 _ (List.getElem_mem hlt)
    grind
   ·refine ⟨⟨by omega, by omega⟩, ?_⟩
    refine ⟨i + 1, ?_, ⟨hlt, rfl, fun t ht => ?_⟩, ⟨Tq, Tq, Tv⟩, (by repeat (first | exact Tv | refine ⟨rfl, ?_⟩ | refine ⟨optR (optR (optR (za _ (zd _ _ _) rfl))), ?_⟩))⟩
    ·grind
    grind[List.take_succ_eq_append_getElem]
  ·have hge : i = g.T.length := jh h6 hi
   subst hge
   rw [List.take_length] at hall
   exact ⟨_, st', Tt, Store.Has.refl st', h true (by simpa using ⟨hW, hH, h5, hall⟩)⟩
end Go.Proofs
