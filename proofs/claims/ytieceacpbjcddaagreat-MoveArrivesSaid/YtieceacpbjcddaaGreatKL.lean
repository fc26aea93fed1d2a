/- Ground of laws of thronglaw24: contracts and plain lemmas; no condition beyond the row's own. -/
import Derived.Test.YtieceacpbjcddaaGreatKI
set_option linter.unusedSimpArgs false
set_option linter.unusedVariables false
set_option linter.defProp false
namespace Go.Proofs
open Go Go.V
set_option maxRecDepth 4000
set_option maxRecDepth 20000 in
theorem zrr (n : Int) (st : Store) (R : AV -> Store -> Prop) (h : ∀ z : Bool, (z = true ↔ ki n) -> R (bool z) st) : ACalls Tryz.prog 216 [int n] st R := by
 refine ACalls.of_body (c := cfg 9) zb Tryz.func216 (by rfl) (by rfl) (by rfl) (by rfl) ?_
 repeat' (first | refine bcd (fun _ => ?_) (fun _ => ?_) | refine zh (fun _ => ?_) (fun _ => ?_) | refine zc (by omega) ?_ | fail)
 all_goals
  refine ret (h _ ?_)
  unfold ki
  simp only [decide_eq_true_eq, decide_eq_false_iff_not, Bool.false_eq_true, false_iff, true_iff, beq_iff_eq, bne_iff_ne, beq_eq_false_iff_ne, ne_eq, reduceCtorEq] at *
  omega
set_option maxRecDepth 20000 in
theorem Vn (n : Int) (st : Store) (R : AV -> Store -> Prop) (h : ∀ z : Bool, (z = true ↔ 1 <= n /\ n <= 128) -> R (bool z) st) : ACalls Tryz.prog 153 [int n] st R := by
 refine ACalls.of_body (c := cfg 9) zb Tryz.func153 (by rfl) (by rfl) (by rfl) (by rfl) ?_
 repeat' (first | refine bcd (fun _ => ?_) (fun _ => ?_) | refine zh (fun _ => ?_) (fun _ => ?_) | refine zc (by omega) ?_ | fail)
 all_goals
  refine ret (h _ ?_)
  simp only [decide_eq_true_eq, decide_eq_false_iff_not, Bool.false_eq_true, false_iff, true_iff, beq_iff_eq, bne_iff_ne, beq_eq_false_iff_ne, ne_eq, reduceCtorEq] at *
  omega
set_option maxRecDepth 20000 in
theorem zqe (n hi : Int) (st : Store) (R : AV -> Store -> Prop) (h : ∀ z : Bool, (z = true ↔ 0 <= n /\ n <= hi) -> R (bool z) st) : ACalls Tryz.prog 63 [int n, int hi] st R := by
 refine ACalls.of_body (c := cfg 12) zb Tryz.func63 (by rfl) (by rfl) (by rfl) (by rfl) ?_
 repeat' (first | refine bcd (fun _ => ?_) (fun _ => ?_) | refine zh (fun _ => ?_) (fun _ => ?_) | refine zc (by omega) ?_ | fail)
 all_goals
  refine ret (h _ ?_)
  simp only [decide_eq_true_eq, decide_eq_false_iff_not, Bool.false_eq_true, false_iff, true_iff, beq_iff_eq, bne_iff_ne, beq_eq_false_iff_ne, ne_eq, reduceCtorEq] at *
  omega
set_option maxRecDepth 20000 in
theorem zpo (p : Vc) (st : Store) (R : AV -> Store -> Prop) (h : ∀ z : Bool, (z = true ↔ xf p.1 p.2) -> R (bool z) st) : ACalls Tryz.prog 317 [.agg (zy p)] st R := by
 refine ACalls.of_body (c := cfg 21) zb Tryz.func317 (by rfl) (by rfl) (by rfl) (by rfl) ?_
 repeat' (first | refine bcd (fun _ => ?_) (fun _ => ?_) | refine zh (fun _ => ?_) (fun _ => ?_) | refine zc (by omega) ?_ | fail)
 all_goals
  refine ret (h _ ?_)
  unfold xf
  simp only [decide_eq_true_eq, decide_eq_false_iff_not, Bool.false_eq_true, false_iff, true_iff, beq_iff_eq, bne_iff_ne, beq_eq_false_iff_ne, ne_eq, reduceCtorEq] at *
  omega
set_option maxRecDepth 20000 in
theorem zww (b : Bld) (st : Store) (R : AV -> Store -> Prop) (h : ∀ z : Bool, (z = true ↔ yc b) -> R (bool z) st) : ACalls Tryz.prog 288 [.agg (zz b)] st R := by
 refine ACalls.of_body (c := cfg 41) zb Tryz.func288 (by rfl) (by rfl) (by rfl) (by rfl) ?_
 repeat' (first | refine bcd (fun _ => ?_) (fun _ => ?_) | refine zh (fun _ => ?_) (fun _ => ?_) | refine zc (by omega) ?_ | fail)
 all_goals
  refine ret (h _ ?_)
  unfold yc
  simp only [decide_eq_true_eq, decide_eq_false_iff_not, Bool.false_eq_true, false_iff, true_iff, beq_iff_eq, bne_iff_ne, beq_eq_false_iff_ne, ne_eq, reduceCtorEq] at *
  omega
set_option maxRecDepth 20000 in
theorem zks (b : Bld) (st : Store) (R : AV -> Store -> Prop) (h : ∀ z : Bool, (z = true ↔ yc b) -> R (bool z) st) : ACalls Tryz.prog 120 [.agg (zz b)] st R := by
 refine ACalls.of_body (c := cfg 41) zb Tryz.func120 (by rfl) (by rfl) (by rfl) (by rfl) ?_
 repeat' (first | refine bcd (fun _ => ?_) (fun _ => ?_) | refine zh (fun _ => ?_) (fun _ => ?_) | refine zc (by omega) ?_ | fail)
 all_goals
  refine ret (h _ ?_)
  unfold yc
  simp only [decide_eq_true_eq, decide_eq_false_iff_not, Bool.false_eq_true, false_iff, true_iff, beq_iff_eq, bne_iff_ne, beq_eq_false_iff_ne, ne_eq, reduceCtorEq] at *
  omega
set_option maxRecDepth 20000 in
theorem zwn (g : Gnd) (b : Bld) (hg : zi g) (hb : yc b) (st : Store) (R : AV -> Store -> Prop) (h : ∀ z : Bool, (z = true ↔ onP g b) -> R (bool z) st) : ACalls Tryz.prog 289 [.agg (zr g), .agg (zz b)] st R := by
 obtain ⟨h1, h2, _, _⟩ := hg; obtain ⟨_, _, h3, h4⟩ := hb
 refine ACalls.of_body (c := cfg 33) zb Tryz.func289 (by rfl) (by rfl) (by rfl) (by rfl) ?_
 repeat' (first | refine bcd (fun _ => ?_) (fun _ => ?_) | refine zh (fun _ => ?_) (fun _ => ?_) | refine zc (by omega) ?_ | fail)
 all_goals
  refine ret (h _ ?_)
  unfold onP
  simp only [decide_eq_true_eq, decide_eq_false_iff_not, Bool.false_eq_true, false_iff, true_iff, beq_iff_eq, bne_iff_ne, beq_eq_false_iff_ne, ne_eq, reduceCtorEq] at *
  omega
set_option maxRecDepth 20000 in
theorem zn2 (g : Gnd) (b : Bld) (hg : zi g) (hb : yc b) (st : Store) (R : AV -> Store -> Prop) (h : ∀ z : Bool, (z = true ↔ onP g b) -> R (bool z) st) : ACalls Tryz.prog 121 [.agg (zr g), .agg (zz b)] st R := by
 obtain ⟨h1, h2, _, _⟩ := hg; obtain ⟨_, _, h3, h4⟩ := hb
 refine ACalls.of_body (c := cfg 47) zb Tryz.func121 (by rfl) (by rfl) (by rfl) (by rfl) ?_
 repeat' (first | refine bcd (fun _ => ?_) (fun _ => ?_) | refine zh (fun _ => ?_) (fun _ => ?_) | refine zc (by omega) ?_ | fail)
 all_goals
  refine ret (h _ ?_)
  unfold onP
  simp only [decide_eq_true_eq, decide_eq_false_iff_not, Bool.false_eq_true, false_iff, true_iff, beq_iff_eq, bne_iff_ne, beq_eq_false_iff_ne, ne_eq, reduceCtorEq] at *
  omega
set_option maxRecDepth 20000 in
theorem zru (g : Gnd) (t : Int) (hg : zi g) (st : Store) (R : AV -> Store -> Prop) (h : ∀ z : Bool, (z = true ↔ 0 <= t /\ t < g.W * g.H) -> R (bool z) st) : ACalls Tryz.prog 293 [.agg (zr g), int t] st R := by
 have hm := yw hg
 refine ACalls.of_body (c := cfg 16) zb Tryz.func293 (by rfl) (by rfl) (by rfl) (by rfl) ?_
 repeat' (first | refine bcd (fun _ => ?_) (fun _ => ?_) | refine zh (fun _ => ?_) (fun _ => ?_) | refine zc (by omega) ?_ | fail)
 all_goals
  refine ret (h _ ?_)
  simp only [decide_eq_true_eq, decide_eq_false_iff_not, Bool.false_eq_true, false_iff, true_iff, beq_iff_eq, bne_iff_ne, beq_eq_false_iff_ne, ne_eq, reduceCtorEq] at *
  omega
set_option maxRecDepth 20000 in
theorem Sr (g : Gnd) (t : Int) (hg : zi g) (st : Store) (R : AV -> Store -> Prop) (h : ∀ z : Bool, (z = true ↔ 0 <= t /\ t < g.W * g.H) -> R (bool z) st) : ACalls Tryz.prog 65 [.agg (zr g), int t] st R := by
 have hm := yw hg
 refine ACalls.of_body (c := cfg 16) zb Tryz.func65 (by rfl) (by rfl) (by rfl) (by rfl) ?_
 repeat' (first | refine bcd (fun _ => ?_) (fun _ => ?_) | refine zh (fun _ => ?_) (fun _ => ?_) | refine zc (by omega) ?_ | fail)
 all_goals
  refine ret (h _ ?_)
  simp only [decide_eq_true_eq, decide_eq_false_iff_not, Bool.false_eq_true, false_iff, true_iff, beq_iff_eq, bne_iff_ne, beq_eq_false_iff_ne, ne_eq, reduceCtorEq] at *
  omega
set_option maxRecDepth 20000 in
theorem ij (g : Gnd) (t : Int) (hg : zi g) (st : Store) (R : AV -> Store -> Prop) (h : ∀ z : Bool, (z = true ↔ jb g t) -> R (bool z) st) : ACalls Tryz.prog 217 [.agg (zr g), int t] st R := by
 refine ACalls.of_body (c := cfg 12) zb Tryz.func217 (by rfl) (by rfl) (by rfl) (by rfl) ?_
 repeat' (first | refine bcd (fun _ => ?_) (fun _ => ?_) | refine zh (fun _ => ?_) (fun _ => ?_) | refine zc (by omega) ?_ | (refine zru _ _ hg _ _ ?_; rintro (_ | _) hz)| fail)
 all_goals
  refine ret (h _ ?_)
  unfold jb
  simp only [decide_eq_true_eq, decide_eq_false_iff_not, Bool.false_eq_true, false_iff, true_iff, beq_iff_eq, bne_iff_ne, beq_eq_false_iff_ne, ne_eq, reduceCtorEq] at *
  omega
set_option maxRecDepth 20000 in
theorem zs2 (g : Gnd) (l : List Bld) (st : Store) (R : AV -> Store -> Prop) (h : ∀ z : Bool, (z = true ↔ g.T.length > 700 \/ l.length > 30) -> R (bool z) st) : ACalls Tryz.prog 62 [.agg (zr g), lst 6 zz l] st R := by
 refine ACalls.of_body (c := cfg 14) zb Tryz.func62 (by rfl) (by rfl) (by rfl) (by rfl) ?_
 repeat' (first | refine bcd (fun _ => ?_) (fun _ => ?_) | refine zh (fun _ => ?_) (fun _ => ?_) | refine zc (by omega) ?_ | fail)
 all_goals
  refine ret (h _ ?_)
  simp only [decide_eq_true_eq, decide_eq_false_iff_not, Bool.false_eq_true, false_iff, true_iff, beq_iff_eq, bne_iff_ne, beq_eq_false_iff_ne, ne_eq, reduceCtorEq, zl] at *
  omega
set_option maxRecDepth 20000 in
theorem zs3 (w : Wld) (st : Store) (R : AV -> Store -> Prop) (h : ∀ z : Bool, (z = true ↔ H6 w) -> R (bool z) st) : ACalls Tryz.prog 31 [.agg (yd w)] st R := by
 refine ACalls.of_body (c := cfg 14) zb Tryz.func31 (by rfl) (by rfl) (by rfl) (by rfl) ?_
 repeat' (first | refine bcd (fun _ => ?_) (fun _ => ?_) | refine zh (fun _ => ?_) (fun _ => ?_) | refine zc (by omega) ?_ | (refine zs2 w.G w.B _ _ ?_; rintro (_ | _) hz)| fail)
 all_goals
  refine ret (h _ ?_)
  unfold H6
  simp only [decide_eq_true_eq, decide_eq_false_iff_not, Bool.false_eq_true, false_iff, true_iff, beq_iff_eq, bne_iff_ne, beq_eq_false_iff_ne, ne_eq, reduceCtorEq, zl] at *
  omega
set_option maxRecDepth 20000 in
theorem zxr (w : Wld) (u : Unt) (hg : zi w.G) (st : Store) (R : AV -> Store -> Prop) (h : ∀ z : Bool, (z = true ↔ xt w u) -> R (bool z) st) : ACalls Tryz.prog 129 [.agg (yd w), .agg (zp u)] st R := by
 refine ACalls.of_body (c := cfg 90) zb Tryz.func129 (by rfl) (by rfl) (by rfl) (by rfl) ?_
 repeat' (first | refine bcd (fun _ => ?_) (fun _ => ?_) | refine zh (fun _ => ?_) (fun _ => ?_) | refine zc (by omega) ?_ | (refine zrr u.kind _ _ ?_; rintro (_ | _) hz)| (refine ij w.G u.goal hg _ _ ?_; rintro (_ | _) hz)| (refine ij w.G u.next hg _ _ ?_; rintro (_ | _) hz)| fail)
 all_goals
  refine ret (h _ ?_)
  simp only [decide_eq_true_eq, decide_eq_false_iff_not, Bool.false_eq_true, false_iff, true_iff, beq_iff_eq, bne_iff_ne, beq_eq_false_iff_ne, ne_eq, reduceCtorEq, xt, ki, jb] at *
  first | omega | (clear h; rcases Decidable.em (u.state = 1) with e1 | e1 <;> rcases Decidable.em (u.goal = -1) with e2 | e2 <;> simp [bne, ig, e1, e2] at * <;> omega)
theorem zrh (l : List UInt8) (hl : l.length <= 1000000000000) (hne : 0 < l.length) (st : Store) (R : AV -> Store -> Prop) (h : ∀ m : UInt8, m ∈ l -> (∀ t ∈ l, t.toNat <= m.toNat) -> R (u8 m) st) : ACalls Tryz.prog 154 [Db l] st R := by
 refine ACalls.of_body (c := cfg 25) zb Tryz.func154 (by rfl) (by rfl) (by rfl) (by rfl) ?_
 refine zh (fun h1 => ?_) (fun h1 => ?_)
 ·grind[zl]
 refine ⟨0, rfl, za _ (zn hne) ?_⟩
 refine AWp.loop (σ := Nat × UInt8) ⟨fun s => [(0, .av (Db l)), (3, .av (u8 s.2)), (4, .av (int (s.1 : Nat)))], fun _ => [],
  fun s st' => (1 <= s.1 /\ s.1 <= l.length) /\ st' = st /\ s.2 ∈ l /\ ∀ t ∈ l.take s.1, t.toNat <= s.2.toNat, fun s => l.length - s.1⟩ zb ?_ ?_
 ·refine ⟨(1, l[0]), Tv, ⟨⟨Nat.le_refl _, hne⟩, rfl, List.getElem_mem hne, fun t ht => ?_⟩, ⟨Tq, Tq, Tq, Tv⟩, Tv⟩
  have : l.take 1 = [l[0]] := by
   cases l with
   | nil => grind
   | cons a l => rfl
  grind
 ·rintro ⟨i, m⟩ st' ⟨⟨hi1, hi⟩, rfl, hm, hall⟩
  simp only at hi1 hi hm hall
  refine zh (fun h1 => ?_) (fun h1 => ?_)
  ·have hlt : i < l.length := kh h1
   refine ⟨i, rfl, za _ (zn hlt) ?_⟩
   refine ⟨⟨by omega, by omega⟩, ?_⟩
   have hmax : max2 (m.toNat : Int) (l[i].toNat : Int) = ((if l[i].toNat > m.toNat then l[i] else m : UInt8).toNat : Int) := by
    unfold max2
    grind
   refine ⟨(i + 1, if l[i].toNat > m.toNat then l[i] else m), ?_, ⟨⟨by omega, hlt⟩, rfl, ?_, fun t ht => ?_⟩, ⟨Tq, ?_, Tq, Tv⟩, Tv⟩
   ·grind
   ·grind
   ·grind[List.take_succ_eq_append_getElem]
   ·show LV.le (.av (.s (.int .u8 (max2 (m.toNat : Int) (l[i].toNat : Int))))) _
    rw [hmax]
    exact Tq
  ·have hge : i = l.length := k8 h1 hi
   subst hge
   rw [List.take_length] at hall
   exact ⟨_, st', Tt, Store.Has.refl st', h m hm hall⟩
theorem zss (g : Gnd) (hg : g.fits) (st : Store) (R : AV -> Store -> Prop) (h : ∀ b : Bool, (b = true ↔ zi g) -> R (bool b) st) : ACalls Tryz.prog 80 [.agg (zr g)] st R := by
 refine ACalls.of_body (c := cfg 28) zb Tryz.func80 (by rfl) (by rfl) (by rfl) (by rfl) ?_
 refine Vn g.W _ _ (fun b hb => ?_)
 cases b with
 | false =>
  refine ⟨_, st, Tt, Store.Has.refl st, h _ ?_⟩
  simp only [Bool.false_eq_true, false_iff] at hb ⊢
  exact fun hp => hb hp.1
 | true =>
  refine Vn g.H _ _ (fun b2 hb2 => ?_)
  cases b2 with
  | false =>
   refine ⟨_, st, Tt, Store.Has.refl st, h _ ?_⟩
   simp only [Bool.false_eq_true, false_iff] at hb2 ⊢
   exact fun hp => hb2 hp.2.1
  | true =>
   have hm := Vo (hb.1 rfl) (hb2.1 rfl)
   refine ⟨⟨by omega, by omega⟩, ?_⟩
   refine zh (fun h1 => ⟨_, st, Tt, Store.Has.refl st, h _ ?_⟩) (fun h1 => ?_)
   ·rw [zl] at h1
    simp only [Bool.false_eq_true, false_iff]
    intro hp
    have := hp.2.2.1
    grind
   ·rw [zl] at h1
    have h1 : (g.T.length : Int) = g.W * g.H := by grind
    refine zrh g.T hg (by omega) _ _ (fun m hm1 hm2 => ?_)
    refine ⟨_, st, Tt, Store.Has.refl st, h _ ?_⟩
    rw [decide_eq_true_iff]
    constructor
    ·intro h2
     refine ⟨hb.1 rfl, hb2.1 rfl, h1, fun t ht => ?_⟩
     grind
    ·intro hp
     have := hp.2.2.2 m hm1
     omega
theorem zst (g : Gnd) (hg : g.fits) (st : Store) (R : AV -> Store -> Prop) (h : ∀ b : Bool, (b = true ↔ zi g) -> R (bool b) st) : ACalls Tryz.prog 29 [.agg (zr g)] st R := by
 refine ACalls.of_body (c := cfg 46) zb Tryz.func29 (by rfl) (by rfl) (by rfl) (by rfl) ?_
 have no : ¬ zi g -> R (bool false) st := fun hn => h false (by simpa using hn)
 refine zh (fun h1 => ⟨_, st, Tt, Store.Has.refl st, no ?_⟩) (fun h1 => ?_)
 ·intro hp; have := hp.1; grind
 refine zh (fun h2 => ⟨_, st, Tt, Store.Has.refl st, no ?_⟩) (fun h2 => ?_)
 ·intro hp; have := hp.1; grind
 refine zh (fun h3 => ⟨_, st, Tt, Store.Has.refl st, no ?_⟩) (fun h3 => ?_)
 ·intro hp; have := hp.2.1; grind
 refine zh (fun h4 => ⟨_, st, Tt, Store.Has.refl st, no ?_⟩) (fun h4 => ?_)
 ·intro hp; have := hp.2.1; grind
 have hW : 1 <= g.W /\ g.W <= 128 := by grind
 have hH : 1 <= g.H /\ g.H <= 128 := by grind
 have hm := Vo hW hH
 refine ⟨⟨by omega, by omega⟩, ?_⟩
 refine zh (fun h5 => ⟨_, st, Tt, Store.Has.refl st, no ?_⟩) (fun h5 => ?_)
 ·rw [zl] at h5
  intro hp
  have := hp.2.2.1
  grind
 rw [zl] at h5
 have h5 : (g.T.length : Int) = g.W * g.H := by grind
 refine AWp.loop (σ := Nat) ⟨fun i => [(1, .bx 1 0), (3, .av (int (i : Nat)))], fun _ => [(1, zr g)],
  fun i st' => i <= g.T.length /\ st' = st /\ ∀ t ∈ g.T.take i, t.toNat <= 5, fun i => g.T.length - i⟩ zb ?_ ?_
 ·exact ⟨0, Tv, ⟨Nat.zero_le _, rfl, fun t ht => by simp at ht⟩, ⟨Tq, Tq, Tv⟩, (by repeat (first | exact Tv | refine ⟨rfl, ?_⟩ | refine ⟨optR (optR (optR (za _ (zd _ _ _) rfl))), ?_⟩))⟩
 ·rintro i st' ⟨hi, rfl, hall⟩
  refine zh (fun h6 => ?_) (fun h6 => ?_)
  ·have hlt : i < g.T.length := kh h6
   refine ⟨i, rfl, za _ (zn hlt) ?_⟩
   refine zh (fun h7 => ⟨_, st', Tt, Store.Has.refl st', no ?_⟩) (fun h7 => ?_)
   ·intro hp
    have := hp.2.2.2 _ (List.getElem_mem hlt)
    grind
   ·refine ⟨⟨by omega, by omega⟩, ?_⟩
    refine ⟨i + 1, ?_, ⟨hlt, rfl, fun t ht => ?_⟩, ⟨Tq, Tq, Tv⟩, (by repeat (first | exact Tv | refine ⟨rfl, ?_⟩ | refine ⟨optR (optR (optR (za _ (zd _ _ _) rfl))), ?_⟩))⟩
    ·grind
    grind[List.take_succ_eq_append_getElem]
  ·have hge : i = g.T.length := k8 h6 hi
   subst hge
   rw [List.take_length] at hall
   exact ⟨_, st', Tt, Store.Has.refl st', h true (by simpa using ⟨hW, hH, h5, hall⟩)⟩
end Go.Proofs
