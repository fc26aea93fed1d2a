/- The ground on which laws of thronglaw24 are proved: contracts of functions and plain lemmas; no condition beyond the row's own. -/
import Derived.Test.YtbemejeejgpkaaaGreatVI
import Derived.Test.YtbemejeejgpkaaaGreatSF
import Derived.Test.YtbemejeejgpkaaaGreatVJ
import Derived.Test.YtbemejeejgpkaaaGreatVK
import Derived.Test.YtbemejeejgpkaaaGreatSH
set_option linter.unusedSimpArgs false
set_option linter.unusedVariables false
namespace Go.Proofs
open Go Go.V
set_option maxRecDepth 20000 in
theorem zqe (g : Gnd) (x y : Int) (st : Store) (R : AV → Store → Prop) (h : ∀ z : Bool, (z = true ↔ onG g x y) → R (bool z) st) : ACalls Tryz.prog 218 [.agg (gndC g), int x, int y] st R := by
 refine ACalls.of_body (c := cfg 25) zc Tryz.func218 (by rfl) (by rfl) (by rfl) (by rfl) ?_
 repeat' (first | refine bcd (fun _ => ?_) (fun _ => ?_) | refine ze (fun _ => ?_) (fun _ => ?_) | refine in64 (by omega) ?_ | fail)
 all_goals
  refine ret (h _ ?_)
  unfold onG
  simp only [decide_eq_true_eq, decide_eq_false_iff_not, Bool.false_eq_true, false_iff, true_iff, beq_iff_eq, bne_iff_ne, beq_eq_false_iff_ne, ne_eq, reduceCtorEq] at *
  omega
theorem min2_eq (a b : Int) : min2 a b = min a b := by
 unfold min2
 by_cases h : b < a
 ·rw [decide_eq_true h]; show b = _; omega
 ·rw [decide_eq_false h]; show a = _; omega
theorem zh8 (g : Gnd) (hg : gndP g) (f : Nat → Int) (hf : ∀ t, t < g.T.length → 0 ≤ f t ∧ f t ≤ 128) (t : Nat) (ht : t < g.T.length) (ws : List (Int × Int)) (hw : ∀ d ∈ ws, (d.1 ≠ 0 ∨ d.2 ≠ 0) ∧ (-1 ≤ d.1 ∧ d.1 ≤ 1) ∧ (-1 ≤ d.2 ∧ d.2 ≤ 1)) (hwl : ws.length ≤ 100) (b : Nat) (st : Store) (R : AV → Store → Prop)
  (h : R (.tup []) (st.setObj b (.cells (il g.T.length (ze4 g f ws t))))) : ACalls Tryz.prog 307 [.agg (gndC g), blV b g.T.length, int t, lst 2 wayC ws] (st.setObj b (.cells (il g.T.length f))) R := by
 have hm := ya hg
 have htb := zb2 hg (t := t) (by omega)
 have hq := trem (t := t) hg.1.1
 have hq2 := tquo (t := t) hg.1.1
 have hg1 := hg.1
 have hg2 := hg.2.1
 unfold ze4 at h
 have hx : ∃ x, x = (t : Int) % g.W := ⟨_, rfl⟩
 have hy : ∃ y, y = (t : Int) / g.W := ⟨_, rfl⟩
 obtain ⟨x, hx⟩ := hx
 obtain ⟨y, hy⟩ := hy
 rw [← hx, ← hy] at h htb
 rw [← hx] at hq
 rw [← hy] at hq2
 refine ACalls.of_body (c := cfg 63) zc Tryz.func307 (by rfl) (by rfl) (by rfl) (by rfl) ?_
 refine ADraw.of_sched zc (by rfl) (by rfl) zzw (by rfl) ?_
 refine ⟨by omega, ?_⟩
 refine ⟨by omega, ?_⟩
 refine in64 (by omega) ?_
 refine ⟨⟨(by repeat (first | exact trivial | refine ⟨rfl, ?_⟩ | refine ⟨optR (optR (optR (za _ (zb _ _ _) rfl))), ?_⟩)), ?_⟩, trivial⟩
 refine ⟨⟨trivial, ?_⟩, trivial⟩
 refine AWp.loop (σ := Nat) ⟨fun i => [(1, .av (blV b g.T.length)), (2, .av (int (t : Nat))), (4, .bx 4 0), (8, .av (int x)), (9, .av (int y)), (21, .av (lst 2 wayC ws)), (22, .av (int (ws.length : Nat))), (23, .av (int (i : Nat)))], fun _ => [(4, gndC g)],
  fun i st' => i ≤ ws.length ∧ st' = st.setObj b (.cells (il g.T.length (setI f t (k6 g f x y (f t) (ws.take i))))), fun i => ws.length - i⟩ zc ?_ ?_
 ·refine ⟨0, trivial, ⟨Nat.zero_le _, ?_⟩, ⟨lr_ _, lr_ _, lr_ _, ?_, ?_, lr_ _, ?_, lr_ _, trivial⟩, ⟨rfl, trivial⟩⟩
  ·rw [List.take_zero]
   show _ = st.setObj b (.cells (il g.T.length (setI f t (f t))))
   rw [yfq]
  ·rw [← hq]; exact lr_ _
  ·rw [← hq2]; exact lr_ _
  ·rw [← zi (f := wayC) ws]; exact lr_ _
 rintro i st' ⟨hi, rfl⟩
 refine bcd (fun h1 => ?_) (fun h1 => ?_)
 rotate_left
 ·have : i = ws.length := by omega
  subst this
  rw [List.take_length]
  exact ret h
 have hlt : i < ws.length := by omega
 have hd := hw _ (List.getElem_mem hlt)
 have hv := zkd hg hf x y (ws.take i) (f t) (hf t ht)
 have hsn := zne g f x y (f t) ws hlt
 have hgs := ygu hg f (t := t) (k6 g f x y (f t) (ws.take i)) hd.1
 rw [← hx, ← hy] at hgs
 generalize hV : k6 g f x y (f t) (ws.take i) = V0 at *
 have ho : (st.setObj b (.cells (il g.T.length (setI f t V0)))).obj b = some (.cells (il g.T.length (setI f t V0))) := zb _ _ _
 refine ⟨i, rfl, za _ (zk hlt) ?_⟩
 refine ⟨0, rfl, by decide, ?_⟩
 refine in64 (by omega) ?_
 refine ⟨1, rfl, by decide, ?_⟩
 refine in64 (by omega) ?_
 refine zqe g (x + ws[i].1) (y + ws[i].2) _ _ (fun z hz => ?_)
 have hgv := gv_b hg hf (x + ws[i].1) (y + ws[i].2)
 have fin : min V0 (gv g f (x + ws[i].1) (y + ws[i].2) + 1) = k6 g f x y (f t) (ws.take (i + 1)) := hsn.symm
 refine ze (fun c1 => ?_) (fun c1 => ?_)
 ·have hon := hz.1 c1
  obtain ⟨e1, e2, e3, e4⟩ := xl hg hon
  have hpos : 0 ≤ g.W * (y + ws[i].2) := Int.mul_nonneg (by omega) (by have := hon.2.1; omega)
  have hval : setI f t V0 (tl g (x + ws[i].1) (y + ws[i].2)) = gv g f (x + ws[i].1) (y + ws[i].2) := by
   rw [← hgs]; unfold gv; rw [if_pos hon]
  refine ⟨0, rfl, by decide, ?_⟩
  refine in64 (by omega) ?_
  refine ⟨1, rfl, by decide, ?_⟩
  refine in64 (by omega) ?_
  refine in64 (by omega) ?_
  refine in64 (by omega) ?_
  refine ⟨tl g (x + ws[i].1) (y + ws[i].2), e1.symm, e2, ?_⟩
  refine za _ ho (za _ (xb e2) ?_)
  rw [hval]
  refine ⟨t, rfl, ht, ?_⟩
  refine za _ ho (za _ (xb ht) ?_)
  rw [vf]
  refine in64 (by omega) ?_
  refine ⟨t, rfl, ht, ?_⟩
  refine zn (i := ti3) (v := int (min2 V0 (gv g f (x + ws[i].1) (y + ws[i].2) + 1))) (b := b) (o := 0 + t * 1) (l := il g.T.length (setI f t V0)) (st2 := st.setObj b (.cells (il g.T.length (setI f t (k6 g f x y (f t) (ws.take (i + 1))))))) rfl rfl rfl ho (by rw [yq]; omega) ?_ ?_
  ·rw [zg, show 0 + t * 1 = t by omega, zca ht, zdg, min2_eq, fin]
  refine in64 (by omega) ?_
  refine ⟨i + 1, ?_, ⟨by omega, rfl⟩, ⟨lr_ _, lr_ _, lr_ _, lr_ _, lr_ _, lr_ _, lr_ _, lr_ _, trivial⟩, ⟨rfl, trivial⟩⟩
  show ws.length - (i + 1) < ws.length - i
  omega
 ·have hoff : ¬ onG g (x + ws[i].1) (y + ws[i].2) := fun hh => by have := hz.2 hh; rw [this] at c1; cases c1
  have hz0 : gv g f (x + ws[i].1) (y + ws[i].2) = 0 := if_neg hoff
  rw [hz0] at fin
  refine ⟨t, rfl, ht, ?_⟩
  refine za _ ho (za _ (xb ht) ?_)
  rw [vf]
  refine in64 (by omega) ?_
  refine ⟨t, rfl, ht, ?_⟩
  refine zn (i := ti3) (v := int (min2 V0 (0 + 1))) (b := b) (o := 0 + t * 1) (l := il g.T.length (setI f t V0)) (st2 := st.setObj b (.cells (il g.T.length (setI f t (k6 g f x y (f t) (ws.take (i + 1))))))) rfl rfl rfl ho (by rw [yq]; omega) ?_ ?_
  ·rw [zg, show 0 + t * 1 = t by omega, zca ht, zdg, min2_eq, fin]
  refine in64 (by omega) ?_
  refine ⟨i + 1, ?_, ⟨by omega, rfl⟩, ⟨lr_ _, lr_ _, lr_ _, lr_ _, lr_ _, lr_ _, lr_ _, lr_ _, trivial⟩, ⟨rfl, trivial⟩⟩
  show ws.length - (i + 1) < ws.length - i
  omega
end Go.Proofs
namespace Go.Proofs
open Go Go.V
def wx (o : Nat → Bool) (t : Nat) : Int := if o t then 128 else 0
def kw (o : Nat → Bool) (i t : Nat) : Int := if t < i then wx o t else 0
theorem zqd (o : Nat → Bool) (n : Nat) : ∀ t, t < n → 0 ≤ wx o t ∧ wx o t ≤ 128 := fun t _ => by unfold wx; split <;> decide
def yh6 (g : Gnd) (l : List Bld) (c : Int) : AV := lst 1 intC (ilL g.T.length (zdk g (yi g l c)))
theorem zpu (g : Gnd) (hg : gndP g) (l : List Bld) (hl : l.length ≤ 1000000000000) (hb : ∀ b ∈ l, bldP b ∧ onP g b) (c : Int) (st : Store) (R : AV → Store → Prop) (h : R (yh6 g l c) st) :
  ACalls Tryz.prog 294 [.agg (gndC g), lst 6 bldC l, int c] st R := by
 have ha := ya hg
 have fwd_ok : ∀ d ∈ fwdW, (d.1 ≠ 0 ∨ d.2 ≠ 0) ∧ (-1 ≤ d.1 ∧ d.1 ≤ 1) ∧ (-1 ≤ d.2 ∧ d.2 ≤ 1) := by decide
 have bwd_ok : ∀ d ∈ bwdW, (d.1 ≠ 0 ∨ d.2 ≠ 0) ∧ (-1 ≤ d.1 ∧ d.1 ≤ 1) ∧ (-1 ≤ d.2 ∧ d.2 ≤ 1) := by decide
 refine ACalls.of_awp (c := cfg 63) zc Tryz.func294 (by rfl) (by rfl) (by rfl) (by rfl) ?_
 refine AWp.seq (AWp.of_vc zc ?_)
 refine AWp.seq (AWp.of_vc zc ?_)
 refine xq rfl (it := ti29) (ie := ti3) rfl rfl rfl rfl rfl (n := (rws u8C g.T).length) ?_ ?_ (fun b hf => ?_)
 ·rw [zi]; show 8 * _ ≤ _; omega
 ·rw [zi]; omega
 rw [zi, zqy]
 refine AWp.meetA (σ := Unit) ⟨fun _ => [(3, .bx 3 0), (7, .av (blV b g.T.length))], fun _ => [(3, gndC g)], fun _ st' => st' = st.setObj b (.cells (il g.T.length (wx (yi g l c))))⟩ ?_ ?_
 ·refine AWp.of_vc zc ?_
  refine qs g hg l hl hb c _ _ ?_
  refine AWp.loop (σ := Nat) ⟨fun i => [(3, .bx 3 0), (7, .av (blV b g.T.length)), (19, .av (opV g l c)), (20, .av (int (g.T.length : Nat))), (21, .av (int (i : Nat)))], fun _ => [(3, gndC g)],
   fun i st' => i ≤ g.T.length ∧ st' = st.setObj b (.cells (il g.T.length (kw (yi g l c) i))), fun i => g.T.length - i⟩ zc ?_ ?_
  ·refine ⟨0, trivial, ⟨Nat.zero_le _, ?_⟩, ⟨lr_ _, lr_ _, lr_ _, ?_, lr_ _, trivial⟩, ⟨rfl, trivial⟩⟩
   ·rw [show kw (yi g l c) 0 = fun _ => 0 from funext fun t => if_neg (Nat.not_lt_zero t)]
   ·show LV.le (.av (int ((rws zbe (blL g.T.length (yi g l c))).length : Nat))) (.av (int (g.T.length : Nat)))
    rw [zi, ko]; exact lr_ _
  rintro i st' ⟨hi, rfl⟩
  refine bcd (fun h1 => ?_) (fun h1 => ?_)
  rotate_left
  ·have : i = g.T.length := by omega
   subst this
   refine ⟨(), ?_, ⟨lr_ _, lr_ _, trivial⟩, ⟨rfl, trivial⟩⟩
   show st.setObj b (.cells (il g.T.length (kw (yi g l c) g.T.length))) = st.setObj b (.cells (il g.T.length (wx (yi g l c))))
   rw [za3 (f := kw (yi g l c) g.T.length) (g := wx (yi g l c)) fun t ht => if_pos ht]
  have hlt : i < g.T.length := by omega
  have ho : (st.setObj b (.cells (il g.T.length (kw (yi g l c) i)))).obj b = some (.cells (il g.T.length (kw (yi g l c) i))) := zb _ _ _
  have hlt2 : i < (blL g.T.length (yi g l c)).length := by rw [ko]; exact hlt
  have s2 : ∀ s, s ≠ i → kw (yi g l c) (i + 1) s = kw (yi g l c) i s := fun s hs => by
   unfold kw
   by_cases h3 : s < i
   ·rw [if_pos h3, if_pos (by omega)]
   ·rw [if_neg h3, if_neg (by omega)]
  have s1 : kw (yi g l c) (i + 1) i = wx (yi g l c) i := if_pos (by omega)
  refine ⟨i, rfl, za _ (zk hlt2) ?_⟩
  refine ze (fun c1 => ?_) (fun c1 => ?_)
  ·rw [zad hlt] at c1
   refine ⟨i, rfl, hlt, ?_⟩
   refine zn (i := ti3) (v := int 128) (b := b) (o := 0 + i * 1) (l := _) (st2 := st.setObj b (.cells (il g.T.length (kw (yi g l c) (i + 1))))) rfl rfl rfl ho (by rw [yq]; omega) ?_ ?_
   ·rw [zg, show 0 + i * 1 = i by omega, ← zqz hlt _ s2, s1]
    unfold wx
    rw [if_pos c1]
   refine in64 (by omega) ?_
   refine ⟨i + 1, ?_, ⟨by omega, rfl⟩, ⟨lr_ _, lr_ _, lr_ _, lr_ _, lr_ _, trivial⟩, ⟨rfl, trivial⟩⟩
   show g.T.length - (i + 1) < g.T.length - i
   omega
  ·rw [zad hlt] at c1
   refine in64 (by omega) ?_
   refine ⟨i + 1, ?_, ⟨by omega, ?_⟩, ⟨lr_ _, lr_ _, lr_ _, lr_ _, lr_ _, trivial⟩, ⟨rfl, trivial⟩⟩
   ·show g.T.length - (i + 1) < g.T.length - i
    omega
   ·refine congrArg (fun f => st.setObj b (.cells (il g.T.length f))) (funext fun s => ?_)
    by_cases h3 : s = i
    ·subst h3
     rw [s1]
     unfold wx kw
     rw [if_neg (by omega), if_neg (by rw [c1]; decide)]
    ·exact (s2 s h3).symm
 rintro _ _ rfl
 refine AWp.meetA (σ := Unit) ⟨fun _ => [(3, .bx 3 0), (7, .av (blV b g.T.length))], fun _ => [(3, gndC g)], fun _ st' => st' = st.setObj b (.cells (il g.T.length (xd g (wx (yi g l c)) g.T.length)))⟩ ?_ ?_
 ·refine AWp.of_vc zc ?_
  refine AWp.loop (σ := Nat) ⟨fun i => [(3, .bx 3 0), (7, .av (blV b g.T.length)), (32, .av (int (g.T.length : Nat))), (33, .av (int (i : Nat)))], fun _ => [(3, gndC g)],
   fun i st' => i ≤ g.T.length ∧ st' = st.setObj b (.cells (il g.T.length (xd g (wx (yi g l c)) i))), fun i => g.T.length - i⟩ zc ?_ ?_
  ·exact ⟨0, trivial, ⟨Nat.zero_le _, rfl⟩, ⟨lr_ _, lr_ _, lr_ _, lr_ _, trivial⟩, ⟨rfl, trivial⟩⟩
  rintro i st' ⟨hi, rfl⟩
  refine bcd (fun h1 => ?_) (fun h1 => ?_)
  rotate_left
  ·have : i = g.T.length := by omega
   subst this
   exact ⟨(), rfl, ⟨lr_ _, lr_ _, trivial⟩, ⟨rfl, trivial⟩⟩
  have hlt : i < g.T.length := by omega
  refine ⟨by decide, ?_⟩
  refine zh8 g hg (xd g (wx (yi g l c)) i) (zf7 hg (zqd _ _) i hi) i hlt fwdW fwd_ok (by decide) b _ _ ?_
  refine in64 (by omega) ?_
  refine ⟨i + 1, ?_, ⟨by omega, rfl⟩, ⟨lr_ _, lr_ _, lr_ _, lr_ _, trivial⟩, ⟨rfl, trivial⟩⟩
  show g.T.length - (i + 1) < g.T.length - i
  omega
 rintro _ _ rfl
 have hbA := zf7 hg (zqd (yi g l c) g.T.length) g.T.length (Nat.le_refl _)
 have hroom : zdk g (yi g l c) = jo g (xd g (wx (yi g l c)) g.T.length) g.T.length g.T.length := rfl
 generalize xd g (wx (yi g l c)) g.T.length = FA at *
 refine AWp.meetA (σ := Unit) ⟨fun _ => [(7, .av (blV b g.T.length))], fun _ => [], fun _ st' => st' = st.setObj b (.cells (il g.T.length (zdk g (yi g l c))))⟩ ?_ ?_
 ·refine AWp.of_vc zc ?_
  refine in64 (by omega) ?_
  refine AWp.loop (σ := Nat) ⟨fun j => [(3, .bx 3 0), (7, .av (blV b g.T.length)), (11, .av (int ((g.T.length : Int) - 1 - (j : Nat))))], fun _ => [(3, gndC g)],
   fun j st' => j ≤ g.T.length ∧ st' = st.setObj b (.cells (il g.T.length (jo g FA g.T.length j))), fun j => g.T.length - j⟩ zc ?_ ?_
  ·refine ⟨0, trivial, ⟨Nat.zero_le _, rfl⟩, ⟨lr_ _, lr_ _, ?_, trivial⟩, ⟨rfl, trivial⟩⟩
   rw [show (g.T.length : Int) - 1 - ((0 : Nat) : Int) = (g.T.length : Int) - 1 by omega]; exact lr_ _
  rintro j st' ⟨hj, rfl⟩
  refine bcd (fun h1 => ?_) (fun h1 => ?_)
  rotate_left
  ·have : j = g.T.length := by omega
   subst this
   exact ⟨(), by rw [hroom], ⟨lr_ _, trivial⟩, trivial⟩
  have hlt : j < g.T.length := by omega
  refine ⟨by decide, ?_⟩
  refine ACalls.le (ys := [.agg (gndC g), blV b g.T.length, int ((g.T.length - 1 - j : Nat) : Int), lst 2 wayC bwdW]) ⟨ar_ _, ar_ _, by rw [show (g.T.length : Int) - 1 - (j : Int) = ((g.T.length - 1 - j : Nat) : Int) by omega]; exact ar_ _, ar_ _, trivial⟩ ?_
  refine zh8 g hg (jo g FA g.T.length j) (zlp hg hbA j hj) (g.T.length - 1 - j) (by omega) bwdW bwd_ok (by decide) b _ _ ?_
  refine in64 (by omega) ?_
  refine ⟨j + 1, ?_, ⟨by omega, rfl⟩, ⟨lr_ _, lr_ _, ?_, trivial⟩, ⟨rfl, trivial⟩⟩
  ·show g.T.length - (j + 1) < g.T.length - j
   omega
  ·rw [show (g.T.length : Int) - 1 - ((j + 1 : Nat) : Int) = (g.T.length : Int) - 1 - (j : Nat) - 1 by omega]; exact lr_ _
 rintro _ _ rfl
 refine AWp.freeze (d := 7) (b := b) (k := 1) (n := g.T.length) (cap := g.T.length) (rows := rws intC (ilL g.T.length (zdk g (yi g l c)))) (pad := []) rfl ?_ ?_ ?_ (Nat.le_refl _) ?_ ?_ ?_
 ·rw [List.append_nil, ygq]; exact zb _ _ _
 ·exact hf.2
 ·rw [zi, zgn]
 ·intro row hr
  obtain ⟨x, _, rfl⟩ := List.mem_map.1 hr
  rfl
 ·intro row hr y hy
  obtain ⟨x, _, rfl⟩ := List.mem_map.1 hr
  simp [intC] at hy
  exact ⟨_, hy, rfl⟩
 rw [xj hf.1]
 refine AWp.of_vc zc ?_
 exact ret h
end Go.Proofs
namespace Go.Proofs
open Go Go.V
def zd3 (g : Gnd) (l : List Bld) (c s : Int) (i t : Nat) : Bool := if t < i then zt g l c s t else false
theorem ybt (g : Gnd) (hg : gndP g) (l : List Bld) (hl : l.length ≤ 1000000000000) (hb : ∀ b ∈ l, bldP b ∧ onP g b) (c s : Int) (hs : 0 ≤ s ∧ s ≤ 3) (st : Store) (R : AV → Store → Prop) (h : R (yij g l c s) st) :
  ACalls Tryz.prog 279 [.agg (gndC g), lst 6 bldC l, int c, int s] st R := by
 have ha := ya hg
 refine ACalls.of_awp (c := cfg 34) zc Tryz.func279 (by rfl) (by rfl) (by rfl) (by rfl) ?_
 refine AWp.seq (AWp.of_vc zc ?_)
 refine AWp.seq (AWp.of_vc zc ?_)
 refine xq rfl (it := ti60) (ie := ti4) rfl rfl rfl rfl rfl (n := (rws u8C g.T).length) ?_ ?_ (fun b hf => ?_)
 ·rw [zi]; show 1 * _ ≤ _; omega
 ·rw [zi]; omega
 rw [zi, zg6]
 refine AWp.meetA (σ := Unit) ⟨fun _ => [(9, .av (blV b g.T.length))], fun _ => [], fun _ st' => st' = st.setObj b (.cells (bl g.T.length (zt g l c s)))⟩ ?_ ?_
 ·refine AWp.of_vc zc ?_
  refine zpu g hg l hl hb c _ _ ?_
  refine AWp.loop (σ := Nat) ⟨fun i => [(3, .av (int s)), (9, .av (blV b g.T.length)), (19, .av (yh6 g l c)), (20, .av (int (g.T.length : Nat))), (21, .av (int (i : Nat)))], fun _ => [],
   fun i st' => i ≤ g.T.length ∧ st' = st.setObj b (.cells (bl g.T.length (zd3 g l c s i))), fun i => g.T.length - i⟩ zc ?_ ?_
  ·refine ⟨0, trivial, ⟨Nat.zero_le _, ?_⟩, ⟨lr_ _, lr_ _, lr_ _, ?_, lr_ _, trivial⟩, trivial⟩
   ·rw [show zd3 g l c s 0 = fun _ => false from funext fun t => if_neg (Nat.not_lt_zero t)]
   ·show LV.le (.av (int ((rws intC (ilL g.T.length (zdk g (yi g l c)))).length : Nat))) (.av (int (g.T.length : Nat)))
    rw [zi, zgn]; exact lr_ _
  rintro i st' ⟨hi, rfl⟩
  refine bcd (fun h1 => ?_) (fun h1 => ?_)
  rotate_left
  ·have : i = g.T.length := by omega
   subst this
   refine ⟨(), ?_, ⟨lr_ _, trivial⟩, trivial⟩
   show st.setObj b (.cells (bl g.T.length (zd3 g l c s g.T.length))) = st.setObj b (.cells (bl g.T.length (zt g l c s)))
   rw [yb4 (f := zd3 g l c s g.T.length) (g := zt g l c s) fun t ht => if_pos ht]
  have hlt : i < g.T.length := by omega
  have ho : (st.setObj b (.cells (bl g.T.length (zd3 g l c s i)))).obj b = some (.cells (bl g.T.length (zd3 g l c s i))) := zb _ _ _
  have hlt2 : i < (ilL g.T.length (zdk g (yi g l c))).length := by rw [zgn]; exact hlt
  have s2 : ∀ q, q ≠ i → zd3 g l c s (i + 1) q = zd3 g l c s i q := fun q hq => by
   unfold zd3
   by_cases h3 : q < i
   ·rw [if_pos h3, if_pos (by omega)]
   ·rw [if_neg h3, if_neg (by omega)]
  have s1 : zd3 g l c s (i + 1) i = zt g l c s i := if_pos (by omega)
  refine ⟨i, rfl, za _ (zk hlt2) ?_⟩
  refine ⟨i, rfl, hlt, ?_⟩
  refine zn (i := ti4) (v := V.bool (decide (s < (ilL g.T.length (zdk g (yi g l c)))[i]))) (b := b) (o := 0 + i * 1) (l := _) (st2 := st.setObj b (.cells (bl g.T.length (zd3 g l c s (i + 1))))) rfl rfl rfl ho (by rw [kh]; omega) ?_ ?_
  ·rw [zg, show 0 + i * 1 = i by omega, ← zfu hlt _ s2, s1, ygr hlt, zq8 hg l c hs hlt]
  refine in64 (by omega) ?_
  refine ⟨i + 1, ?_, ⟨by omega, rfl⟩, ⟨lr_ _, lr_ _, lr_ _, lr_ _, lr_ _, trivial⟩, trivial⟩
  show g.T.length - (i + 1) < g.T.length - i
  omega
 rintro _ _ rfl
 refine AWp.freeze (d := 9) (b := b) (k := 1) (n := g.T.length) (cap := g.T.length) (rows := rws zbe (blL g.T.length (zt g l c s))) (pad := []) rfl ?_ ?_ ?_ (Nat.le_refl _) ?_ ?_ ?_
 ·rw [zdr]; exact zb _ _ _
 ·exact hf.2
 ·rw [zi, ko]
 ·intro row hr
  obtain ⟨x, _, rfl⟩ := List.mem_map.1 hr
  rfl
 ·intro row hr y hy
  obtain ⟨x, _, rfl⟩ := List.mem_map.1 hr
  simp [zbe] at hy
  exact ⟨_, hy, rfl⟩
 rw [xj hf.1]
 refine AWp.of_vc zc ?_
 exact ret h
/-- A net, in an object. -/
def netC (g : Gnd) (l : List Bld) (c s : Int) : List AV := gndC g ++ [int c, yij g l c s]
theorem zfm (g : Gnd) (hg : gndP g) (l : List Bld) (hl : l.length ≤ 1000000000000) (hb : ∀ b ∈ l, bldP b ∧ onP g b) (c s : Int) (hs : 0 ≤ s ∧ s ≤ 3) (st : Store) (R : AV → Store → Prop) (h : ∀ b, Fresh st b → R (ptr b) (st.setObj b (.cells (netC g l c s)))) :
  ACalls Tryz.prog 269 [.agg (gndC g), lst 6 bldC l, int c, int s] st R := by
 refine ACalls.of_body (c := cfg 18 [17] []) zc Tryz.func269 (by rfl) (by rfl) (by rfl) (by rfl) ?_
 refine ADraw.of_sched zc (by rfl) (by rfl) zz4 (by rfl) ?_
 refine ⟨ybt g hg l hl hb c s hs _ _ ⟨(by repeat (first | exact trivial | refine ⟨rfl, ?_⟩ | refine ⟨optR (optR (optR (za _ (zb _ _ _) rfl))), ?_⟩)), ?_⟩, trivial⟩
 refine ⟨fun b hf => ⟨(by repeat (first | exact trivial | refine ⟨rfl, ?_⟩ | refine ⟨optR (optR (optR (za _ (zb _ _ _) rfl))), ?_⟩)), ?_⟩, trivial⟩
 refine ⟨⟨trivial, ?_⟩, trivial⟩
 exact ret (h b hf)
end Go.Proofs
namespace Go.Proofs
open Go Go.V
end Go.Proofs
namespace Go.Proofs
open Go Go.V
/-- A store into a box of the call's own. -/
theorem bleK {m n : Nat} {p : Prop} (h : m ≤ n) (k : p) : (bif Nat.ble m n then p else False) := by
 have : Nat.ble m n = true := Nat.ble_eq ▸ h
 rw [this]
 exact k
theorem zqn (x y : Int) (hx : 0 ≤ x) (hx2 : x < 18446744073709551616) (hy : 0 ≤ y) (hy2 : y < 18446744073709551616) (st : Store) (R : AV → Store → Prop) (h : R (.tup (k9 (x * y))) st) :
  ACalls Tryz.prog 301 [u64 x, u64 y] st R := by
 refine ACalls.of_body (c := cfg 30) zc Tryz.func301 (by rfl) (by rfl) (by rfl) (by rfl) ?_
 refine zbq x y hx hx2 hy hy2 _ _ ?_
 exact ret h
set_option maxHeartbeats 1000000 in
/-- A list that says the same all over. -/
theorem zdn (v : Int) (n : Nat) (h0 : 1 ≤ n) (hn : n ≤ 1000000) (st : Store) (R : AV → Store → Prop) (h : ∀ b, Fresh st b → R (.s (.slice (some ⟨b, 0, none⟩) n n)) (st.setObj b (.cells (il n fun _ => v)))) :
  ACalls Tryz.prog 286 [lst 1 intC [v], int (n : Nat)] st R := by
 refine ACalls.of_body (c := cfg 48) zc Tryz.func286 (by rfl) (by rfl) (by rfl) (by rfl) ?_
 have w2 : IntKind.u64.wrap (n : Int) = n := xz (by omega) (by omega)
 have w1 : IntKind.u64.wrap ((rws intC [v]).length : Nat) = 1 := rfl
 show ACalls _ _ [u64 (IntKind.u64.wrap _), u64 (IntKind.u64.wrap (n : Int))] _ _
 rw [w2, w1]
 refine zqn 1 n (by omega) (by omega) (by omega) (by omega) _ _ ?_
 have e1 : (1 * (n : Int)) = n := Int.one_mul _
 rw [e1]
 have e2 : k9 (n : Int) = [u64 0, u64 n] := by
  unfold k9
  rw [Int.ediv_eq_zero_of_lt (by omega) (by omega), Int.emod_eq_of_lt (by omega) (by omega)]
 rw [e2]
 refine bcd (fun c3 => absurd c3 (by omega)) (fun c3 => ?_)
 refine in64 (by omega) ?_
 refine xq rfl (it := ti29) (ie := ti3) rfl rfl rfl rfl rfl (n := n) ?_ ?_ (fun b hf => ?_)
 ·show 8 * _ ≤ _; omega
 ·omega
 rw [zqy]
 refine zjm rfl rfl rfl rfl (it := ti29) (ie := ti3) rfl rfl rfl (src := lst 1 intC [v]) (SrcN.rows (rows := rws intC [v]) rfl) (n := 1) (by show 1 = min 1 n; omega) (zb _ _ _) (by rw [yq]; show 0 + 1 * 1 ≤ n; omega) ?_
 rw [zg]
 have e3 : zm (il n fun _ => 0) 0 (rws intC [v]).flatten = il n (wh v 1) := by
  show zm (il n fun _ => 0) 0 [int v] = _
  rw [zca (t := 0) (by omega)]
  refine za3 fun t ht => ?_
  unfold setI wh
  by_cases h0 : t = 0
  ·rw [if_pos h0, if_pos (by omega)]
  ·rw [if_neg h0, if_neg (by omega)]
 rw [e3]
 refine AWp.loop (σ := Nat) ⟨fun k => [(7, .av (.s (.slice (some ⟨b, 0, none⟩) n n))), (8, .av (int (k : Nat)))], fun _ => [],
  fun k st' => 1 ≤ k ∧ k ≤ n ∧ st' = st.setObj b (.cells (il n (wh v k))), fun k => n - k⟩ zc ?_ ?_
 ·exact ⟨1, trivial, ⟨Nat.le_refl _, h0, rfl⟩, ⟨lr_ _, lr_ _, trivial⟩, trivial⟩
 rintro k st' ⟨hk1, hk, rfl⟩
 refine bcd (fun c4 => ?_) (fun c4 => ?_)
 rotate_left
 ·have : k = n := by omega
  subst this
  rw [yif]
  exact ret (h b hf)
 have hlt : k < n := by omega
 have hb : (st.setObj b (.cells (il n (wh v k)))).obj b = some (.cells (il n (wh v k))) := zb _ _ _
 obtain ⟨m, hm⟩ : ∃ m, m = min k (n - k) := ⟨_, rfl⟩
 refine ADraw.of_sched zc (by rfl) (by rfl) zz3 (by rfl) ?_
 refine ⟨k, n, rfl, rfl, by omega, Nat.le_refl _, .inl ⟨hlt, ?_⟩⟩
 refine ⟨0, k, rfl, rfl, Nat.zero_le _, by omega, .inl ⟨by omega, ?_⟩⟩
 refine ⟨zjm rfl rfl rfl rfl (it := ti29) (ie := ti3) rfl rfl rfl (SrcN.obj (n := m) hb (by rw [yq]; show 0 + 0 * 1 + m * 1 ≤ n; omega) (fun y hy => by
   have := List.mem_of_mem_drop (List.mem_of_mem_take hy)
   obtain ⟨t, _, rfl⟩ := List.mem_map.1 this
   rfl)) (hm.trans (by rw [Nat.sub_zero])) hb (by rw [yq]; show 0 + k * 1 + m * 1 ≤ n; omega) ⟨trivial, ?_⟩, trivial⟩
 rw [zg]
 refine in64 (by omega) ?_
 refine ⟨⟨trivial, ?_⟩, trivial⟩
 refine ⟨k + m, ?_, ⟨by omega, by omega, ?_⟩, ⟨lr_ _, lr_ _, trivial⟩, trivial⟩
 ·show n - (k + m) < n - k
  omega
 ·exact congrArg (fun l => st.setObj b (.cells l)) (zm7 (by omega) (by omega))
theorem zbw (u : Int) (st : Store) (R : AV → Store → Prop) (h : R (V.bool true) st) : ACalls Tryz.prog 285 [int u] st R := by
 refine ACalls.of_body (c := cfg 3) zc Tryz.func285 (by rfl) (by rfl) (by rfl) (by rfl) ?_
 exact ret h
theorem zkt (w : Nat) (h1 : 4 ≤ w) (h2 : w < 8) (st : Store) (R : AV → Store → Prop) (h : R (.tup [int (zj5 w : Nat), int (zj4 w : Nat)]) st) : ACalls Tryz.prog 302 [int (w : Nat)] st R := by
 have hw : w = 4 ∨ w = 5 ∨ w = 6 ∨ w = 7 := by omega
 rcases hw with rfl | rfl | rfl | rfl
 all_goals
  refine ACalls.of_body (c := cfg 10) zc Tryz.func302 (by rfl) (by rfl) (by rfl) (by rfl) ?_
  refine ADraw.of_sched zc (by rfl) (by rfl) zzx (by rfl) ?_
  refine ⟨_, rfl, by decide, ?_⟩
  refine ⟨_, rfl, by decide, ?_⟩
  refine ⟨⟨(by repeat (first | exact trivial | refine ⟨rfl, ?_⟩ | refine ⟨optR (optR (optR (za _ (zb _ _ _) rfl))), ?_⟩)), ⟨⟨trivial, ?_⟩, trivial⟩⟩, trivial⟩
  exact ret h
theorem zow (st : Store) (R : AV → Store → Prop) (h : R (.agg dirC) st) : ACalls Tryz.prog 217 [] st R := by
 refine ACalls.of_body (c := cfg 10) zc Tryz.func217 (by rfl) (by rfl) (by rfl) (by rfl) ?_
 exact ret h
set_option maxRecDepth 10000 in
set_option maxHeartbeats 1000000 in
theorem kp (g : Gnd) (hg : gndP g) (t : Nat) (ht : t < g.T.length) (st : Store) (R : AV → Store → Prop) (h : R (besV g t) st) : ACalls Tryz.prog 186 [.agg (gndC g), int (t : Nat)] st R := by
 have hm := ya hg
 have htb := zb2 hg (t := t) (by omega)
 have hq := trem (t := t) hg.1.1
 have hq2 := tquo (t := t) hg.1.1
 have hg1 := hg.1
 have hg2 := hg.2.1
 have hbes := fun (i : Nat) (hi : i < 8) => yhc g t hi
 obtain ⟨x, hx⟩ : ∃ x, x = (t : Int) % g.W := ⟨_, rfl⟩
 obtain ⟨y, hy⟩ : ∃ y, y = (t : Int) / g.W := ⟨_, rfl⟩
 rw [← hx, ← hy] at htb hbes
 rw [← hx] at hq
 rw [← hy] at hq2
 refine ACalls.of_body (c := cfg 50) zc Tryz.func186 (by rfl) (by rfl) (by rfl) (by rfl) ?_
 refine ADraw.of_sched zc (by rfl) (by rfl) yab (by rfl) ?_
 refine ⟨by omega, ?_⟩
 refine ⟨by omega, ?_⟩
 refine in64 (by rw [hq2]; omega) ?_
 refine ⟨⟨?_, ⟨⟨trivial, ?_⟩, trivial⟩⟩, trivial⟩
 ·exact ⟨rfl, trivial⟩
 rw [hq, hq2]
 refine zow _ _ ?_
 refine AWp.loop (σ := Nat) ⟨fun i => [(2, .bx 2 0), (4, .bx 4 0), (5, .av (int x)), (6, .av (int y)), (17, .av (.agg dirC)), (18, .av (int (i : Nat)))], fun i => [(2, gndC g), (4, il 8 (zee g t i))],
  fun i st' => i ≤ 8 ∧ st' = st, fun i => 8 - i⟩ zc ?_ ?_
 ·exact ⟨0, trivial, ⟨Nat.zero_le _, rfl⟩, ⟨lr_ _, lr_ _, lr_ _, lr_ _, lr_ _, lr_ _, trivial⟩, ⟨rfl, rfl, trivial⟩⟩
 rintro i st' ⟨hi, rfl⟩
 refine bcd (fun c1 => ?_) (fun c1 => ?_)
 rotate_left
 ·have : i = 8 := by omega
  subst this
  refine ret ?_
  have e : AV.agg (il 8 (zee g t 8)) = besV g t := congrArg AV.agg (zr6 g t)
  rw [← e] at h
  exact h
 have hlt : i < 8 := by omega
 have hr := ybx hlt
 have hd := yja hlt
 have hbe := hbes i hlt
 have hst := zr5 g t (i := i)
 generalize dirL.getD i (0, 0) = d at *
 refine ⟨i, rfl, hlt, ?_⟩
 refine zu (i := ti244) (row := wayC d) rfl rfl hr ?_
 refine ⟨i, rfl, hlt, ?_⟩
 refine bleK (by rw [yq]; show 0 + i * 1 + 1 ≤ 8; omega) ?_
 refine qb ?_
 refine ⟨0, rfl, by decide, ?_⟩
 refine in64 (by omega) ?_
 refine ⟨1, rfl, by decide, ?_⟩
 refine in64 (by omega) ?_
 refine zqe _ _ _ _ _ (fun z hz => ?_)
 refine ze (fun c2 => ?_) (fun c2 => ?_)
 ·have hon := hz.1 c2
  obtain ⟨e1, e2, _, _⟩ := xl hg hon
  have hpos : 0 ≤ g.W * (y + d.2) := Int.mul_nonneg (by omega) (by have := hon.2.1; omega)
  refine ⟨0, rfl, by decide, ?_⟩
  refine in64 (by omega) ?_
  refine ⟨1, rfl, by decide, ?_⟩
  refine in64 (by omega) ?_
  refine in64 (by omega) ?_
  refine in64 (by omega) ?_
  refine ⟨i, rfl, hlt, ?_⟩
  refine bleK (by
   show 0 + i * 1 + 1 ≤ (zm (il 8 (zee g t i)) (0 + i * 1) [int (-1)]).length
   rw [show 0 + i * 1 = i by omega, zca hlt, yq]; omega) ?_
  refine qb ?_
  refine in64 (by omega) ?_
  refine ⟨i + 1, ?_, ⟨by omega, rfl⟩, ⟨lr_ _, lr_ _, lr_ _, lr_ _, lr_ _, lr_ _, trivial⟩, ⟨rfl, ?_, trivial⟩⟩
  ·show 8 - (i + 1) < 8 - i
   omega
  ·show some (zm (zm (il 8 (zee g t i)) (0 + i * 1) [int (-1)]) (0 + i * 1) [int (x + d.1 + g.W * (y + d.2))]) = some (il 8 (zee g t (i + 1)))
   rw [show 0 + i * 1 = i by omega, zca hlt, zca hlt, zdg, hst]
   rw [hbe]
   unfold zds
   rw [if_pos hon]
 ·have hon : ¬ onG g (x + d.1) (y + d.2) := fun hh => by rw [hz.2 hh] at c2; cases c2
  refine in64 (by omega) ?_
  refine ⟨i + 1, ?_, ⟨by omega, rfl⟩, ⟨lr_ _, lr_ _, lr_ _, lr_ _, lr_ _, lr_ _, trivial⟩, ⟨rfl, ?_, trivial⟩⟩
  ·show 8 - (i + 1) < 8 - i
   omega
  ·show some (zm (il 8 (zee g t i)) (0 + i * 1) [int (-1)]) = some (il 8 (zee g t (i + 1)))
   rw [show 0 + i * 1 = i by omega, zca hlt, hst]
   rw [hbe]
   unfold zds
   rw [if_neg hon]
end Go.Proofs
namespace Go.Proofs
open Go Go.V
theorem zrx {g : Gnd} (hg : gndP g) {t : Nat} (ht : t < g.T.length) : g.T[t].toNat ≤ 5 := hg.2.2.2 _ (List.getElem_mem ht)
theorem zmd (g : Gnd) (c : Int) {t : Nat} (ht : t < g.T.length) : zea g c t = zcl c g.T[t].toNat := by
 unfold zea
 rw [List.getD_eq_getElem?_getD, List.getElem?_eq_getElem ht]
 rfl
theorem zr4 {g : Gnd} (hg : gndP g) (t : Nat) {w : Nat} (hw : w < 8) : besN g t w < 0 ∨ ∃ u : Nat, besN g t w = (u : Int) ∧ u < g.T.length := by
 rcases zmg hg (t := t) hw with h | h
 ·exact .inl (by omega)
 ·exact .inr h
theorem zzl {g : Gnd} {ok : Nat → Bool} {c : Int} {t w : Nat} (h : kg ok (besN g t w) = false) : yx g ok c t w = 0 := by
 unfold yx
 rw [h]
 simp
theorem zzm {g : Gnd} {ok : Nat → Bool} {c : Int} {t w : Nat} (h : kg ok (besN g t w) = true) (hw : w < 4) : yx g ok c t w = 5 * (zea g c t + zea g c (besN g t w).toNat) := by
 unfold yx
 rw [if_pos h, if_pos hw]
theorem zzn {g : Gnd} {ok : Nat → Bool} {c : Int} {t w : Nat} (h : kg ok (besN g t w) = true) (hw : ¬ w < 4) (ha : kg ok (besN g t (zj5 w)) = true) (hb : kg ok (besN g t (zj4 w)) = true) : yx g ok c t w = 7 * (zea g c t + zea g c (besN g t w).toNat) := by
 unfold yx
 rw [if_pos h, if_neg hw, if_pos ⟨ha, hb⟩]
theorem zpd {g : Gnd} {ok : Nat → Bool} {c : Int} {t w : Nat} (hw : ¬ w < 4) (ha : kg ok (besN g t (zj5 w)) = false ∨ kg ok (besN g t (zj4 w)) = false) : yx g ok c t w = 0 := by
 unfold yx
 rw [if_neg hw]
 split
 ·rw [if_neg]
  rintro ⟨h1, h2⟩
  rcases ha with ha | ha
  ·rw [ha] at h1; cases h1
  ·rw [ha] at h2; cases h2
 ·rfl
theorem zd1 {ok : Nat → Bool} {u : Int} (h : u < 0) : kg ok u = false := by
 unfold kg
 rw [decide_eq_false (by omega)]; rfl
theorem kf (ok : Nat → Bool) (u : Nat) : kg ok (u : Int) = ok u := by
 unfold kg
 rw [decide_eq_true (by omega), Int.toNat_natCast]; rfl
set_option maxHeartbeats 2000000 in
set_option maxRecDepth 20000 in
theorem zhs {S : Store} {nb : Nat} {g : Gnd} (hg : gndP g) {l : List Bld} {c s : Int} (hn : S.obj nb = some (.cells (netC g l c s))) (t : Nat) (ht : t < g.T.length) (way : Nat) (hw : way < 8) (R : AV → Store → Prop)
  (h : R (int (yx g (zt g l c s) c t way)) S) : ACalls Tryz.prog 287 [ptr nb, int (t : Nat), besV g t, int (way : Nat), .clos 285 []] S R := by
 have hgl : ∀ u, u < g.T.length → u < (blL g.T.length (zt g l c s)).length := fun u hu => by rw [ko]; exact hu
 have p1 := jr c (g.T[t]).toNat
 refine ACalls.of_body (c := cfg 124) zc Tryz.func287 (by rfl) (by rfl) (by rfl) (by rfl) ?_
 refine ⟨way, rfl, hw, ?_⟩
 refine za _ (xb hw) ?_
 have hor := zr4 hg t hw
 have hlo := fun h => zzm (g := g) (ok := zt g l c s) (c := c) (t := t) (w := way) h
 have hhi := fun h => zzn (g := g) (ok := zt g l c s) (c := c) (t := t) (w := way) h
 have hno := zzl (g := g) (ok := zt g l c s) (c := c) (t := t) (w := way)
 have hhn := fun h => zpd (g := g) (ok := zt g l c s) (c := c) (t := t) (w := way) h
 generalize yx g (zt g l c s) c t way = E at *
 generalize hU : besN g t way = U at *
 refine bcd (fun c1 => ?_) (fun c1 => ?_)
 ·rw [hno (zd1 c1)] at h
  exact ret h
 obtain ⟨u, rfl, hul⟩ : ∃ u : Nat, U = (u : Int) ∧ u < g.T.length := by
  rcases hor with h1 | h1
  ·exact absurd h1 c1
  ·exact h1
 refine za (o := S.obj nb) _ hn ?_
 refine ⟨u, rfl, za _ (zk (hgl u hul)) ?_⟩
 rw [zad hul]
 refine qm ?_
 refine ze (fun c2 => ?_) (fun c2 => ?_)
 rotate_left
 ·rw [hno (by rw [kf, c2])] at h
  exact ret h
 refine zbw _ _ _ ?_
 have hfu : kg (zt g l c s) (u : Int) = true := by rw [kf, c2]
 rw [Int.toNat_natCast] at hlo hhi
 rw [zmd g c ht, zmd g c hul] at hlo hhi
 have p2 := jr c (g.T[u]).toNat
 refine ADraw.of_sched zc (by rfl) (by rfl) zz2 (by rfl) ?_
 refine za (o := S.obj nb) _ hn ?_
 refine za (o := S.obj nb) _ hn ?_
 refine ⟨t, rfl, za _ (zk ht) ?_⟩
 refine za (o := S.obj nb) _ hn ?_
 refine za (o := S.obj nb) _ hn ?_
 refine ⟨u, rfl, za _ (zk hul) ?_⟩
 refine ⟨zbn c g.T[t] (zrx hg ht) _ _ ⟨?_, ?_⟩, trivial⟩
 ·repeat (first | exact trivial | refine ⟨rfl, ?_⟩ | refine ⟨za (o := S.obj nb) _ hn rfl, ?_⟩)
 refine ⟨zbn c g.T[u] (zrx hg hul) _ _ ⟨(by repeat (first | exact trivial | refine ⟨rfl, ?_⟩ | refine ⟨optR (optR (optR (za _ (zb _ _ _) rfl))), ?_⟩)), ?_⟩, trivial⟩
 refine in64 (by omega) ?_
 refine ⟨⟨trivial, ?_⟩, trivial⟩
 generalize zcl c g.T[t].toNat = P1 at *
 generalize zcl c g.T[u].toNat = P2 at *
 refine bcd (fun c3 => ?_) (fun c3 => ?_)
 ·refine in64 (by omega) ?_
  rw [hlo hfu (by omega)] at h
  exact ret h
 have h4 : ¬ way < 4 := by omega
 have hsa : zj5 way < 8 := by unfold zj5; omega
 have hsb : zj4 way < 8 := by unfold zj4; omega
 refine zkt way (by omega) hw _ _ ?_
 have hora := zr4 hg t hsa
 have horb := zr4 hg t hsb
 have hhi := hhi hfu h4
 have hhn := hhn h4
 have ha1 := xb (n := 8) (f := besN g t) hsa
 have hb1 := xb (n := 8) (f := besN g t) hsb
 generalize hA : zj5 way = wa at *
 generalize hB : zj4 way = wb at *
 generalize hUA : besN g t wa = ua at *
 generalize hUB : besN g t wb = ub at *
 refine ADraw.of_sched zc (by rfl) (by rfl) zz1 (by rfl) ?_
 refine ⟨wa, rfl, hsa, ?_⟩
 refine za _ ha1 ?_
 have no : kg (zt g l c s) ua = false ∨ kg (zt g l c s) ub = false → R (int 0) S := fun hh => by
  rw [hhn hh] at h
  exact h
 refine bcd (fun ca => ?_) (fun ca => ?_)
 ·refine ⟨⟨trivial, ?_⟩, trivial⟩
  refine ⟨⟨trivial, ?_⟩, trivial⟩
  exact ret (no (.inl (zd1 ca)))
 obtain ⟨va, rfl, hva⟩ : ∃ u : Nat, ua = (u : Int) ∧ u < g.T.length := by
  rcases hora with h1 | h1
  ·exact absurd h1 ca
  ·exact h1
 refine ⟨wb, rfl, hsb, ?_⟩
 refine za _ hb1 ?_
 refine bcd (fun cb => ?_) (fun cb => ?_)
 ·refine ⟨⟨trivial, ?_⟩, trivial⟩
  refine ⟨⟨trivial, ?_⟩, trivial⟩
  exact ret (no (.inr (zd1 cb)))
 obtain ⟨vb, rfl, hvb⟩ : ∃ u : Nat, ub = (u : Int) ∧ u < g.T.length := by
  rcases horb with h1 | h1
  ·exact absurd h1 cb
  ·exact h1
 refine za (o := S.obj nb) _ hn ?_
 refine ⟨wa, rfl, hsa, ?_⟩
 refine za _ ha1 ?_
 refine ⟨va, rfl, za _ (zk (hgl va hva)) ?_⟩
 rw [zad hva]
 refine qm ?_
 refine ze (fun da => ?_) (fun da => ?_)
 rotate_left
 ·refine ⟨⟨trivial, ?_⟩, trivial⟩
  refine ⟨⟨trivial, ?_⟩, trivial⟩
  exact ret (no (.inl (by rw [kf, da])))
 refine za (o := S.obj nb) _ hn ?_
 refine ⟨wb, rfl, hsb, ?_⟩
 refine za _ hb1 ?_
 refine ⟨vb, rfl, za _ (zk (hgl vb hvb)) ?_⟩
 rw [zad hvb]
 refine qm ?_
 refine ze (fun db => ?_) (fun db => ?_)
 rotate_left
 ·refine ⟨⟨trivial, ?_⟩, trivial⟩
  refine ⟨⟨trivial, ?_⟩, trivial⟩
  exact ret (no (.inr (by rw [kf, db])))
 refine ⟨wa, rfl, hsa, ?_⟩
 refine za _ ha1 ?_
 refine ⟨zbw _ _ _ ⟨trivial, ?_⟩, trivial⟩
 refine ⟨wb, rfl, hsb, ?_⟩
 refine za _ hb1 ?_
 refine ⟨zbw _ _ _ ⟨trivial, ?_⟩, trivial⟩
 refine in64 (by omega) ?_
 rw [hhi (by rw [kf, da]) (by rw [kf, db])] at h
 exact ret h
end Go.Proofs
namespace Go.Proofs
open Go Go.V
theorem yi3 {G : Store} (R : AV → Store → Prop) (h : ∀ F p, QOf F p [] → Disj F G → R (ptr p) (F.un G)) : ACalls Tryz.prog 298 [] G R := by
 have := ACalls.frame (a := Store.empty) (g := G) (fun i h1 => by rcases h1 with h1 | h1 <;> exact absurd rfl h1) (zp4 Store.empty (fun r a' => ∃ p, r = ptr p ∧ QOf a' p []) (fun p hp => ⟨p, rfl, .inl ⟨zb _ _ _, rfl⟩⟩)) (R' := R) (fun r a' ⟨p, e, hc⟩ hd => e ▸ h a' p hc hd)
 rwa [jy] at this
theorem zpz {F G : Store} {p : Nat} {l : List (Int × Int)} (hq : QOf F p l) (hl : l.length ≤ 1000000) (hh : ki l) (hd : Disj F G) (x : Int × Int) (R : AV → Store → Prop)
  (h : ∀ F' l', QOf F' p l' → ki l' → l'.Perm (x :: l) → Disj F' G → R (.tup []) (F'.un G)) : ACalls Tryz.prog 299 [ptr p, int x.1, int x.2] (F.un G) R :=
 ACalls.frame hd (zm9 hq hl hh x (fun r a' => r = .tup [] ∧ ∃ l', QOf a' p l' ∧ ki l' ∧ l'.Perm (x :: l)) (fun F' l' g1 g2 g3 => ⟨rfl, l', g1, g2, g3⟩)) (R' := R) (fun r a' ⟨e, l', g1, g2, g3⟩ hd => e ▸ h a' l' g1 g2 g3 hd)
theorem yf8 {F G : Store} {p : Nat} {l : List (Int × Int)} (hq : QOf F p l) (hl : l.length ≤ 1000000) (hh : ki l) (hd : Disj F G) (R : AV → Store → Prop)
  (h : ∀ F' o l', QOf F' p l' → ki l' → Disj F' G → l.Perm (o.toList ++ l') → (∀ x, o = some x → ∀ e ∈ x :: l', ¬ qlt e x) → (o = none → l' = []) → R (.tup [int (keyO o), int (valO o), V.bool o.isSome]) (F'.un G)) : ACalls Tryz.prog 300 [ptr p] (F.un G) R :=
 ACalls.frame hd (zp0 hq hl hh (fun r a' => ∃ o l', r = .tup [int (keyO o), int (valO o), V.bool o.isSome] ∧ QOf a' p l' ∧ ki l' ∧ l.Perm (o.toList ++ l') ∧ (∀ x, o = some x → ∀ e ∈ x :: l', ¬ qlt e x) ∧ (o = none → l' = []))
  (fun e => ⟨none, [], rfl, e ▸ hq, e ▸ hh, by rw [e]; exact List.Perm.refl _, fun x h => (by cases h), fun _ => rfl⟩)
  (fun h0 F' l' g1 g2 g3 => ⟨some (qat l 0), l', rfl, g1, g2, g3, fun x e => by
   cases e
   exact fun e he => ya6 hh e (g3.mem_iff.2 he), fun h => (by cases h)⟩)) (R' := R) (fun r a' ⟨o, l', e, g1, g2, g3, g4, g5⟩ hd => e ▸ h a' o l' g1 g2 hd g3 g4 g5)
set_option maxHeartbeats 4000000 in
set_option maxRecDepth 20000 in
theorem zrf {S : Store} {nb : Nat} {g : Gnd} (hg : gndP g) {l : List Bld} {c s : Int} (hn : S.obj nb = some (.cells (netC g l c s))) (goal : Nat) (hgo : goal < g.T.length) (R : AV → Store → Prop)
  (h : ∀ b, Fresh S b → (∀ u, -1 ≤ farF g (zt g l c s) c goal u ∧ farF g (zt g l c s) c goal u ≤ 2000000) → R (.s (.slice (some ⟨b, 0, none⟩) g.T.length g.T.length)) (S.setObj b (.cells (il g.T.length (farF g (zt g l c s) c goal))))) :
  ACalls Tryz.prog 284 [ptr nb, int (goal : Nat), .clos 285 []] S R := by
 have ha := ya hg
 have hT : g.T.length ≤ 16384 := by omega
 have hgl : ∀ u, u < g.T.length → u < (blL g.T.length (zt g l c s)).length := fun u hu => by rw [ko]; exact hu
 refine ACalls.of_body (c := cfg 121) zc Tryz.func284 (by rfl) (by rfl) (by rfl) (by rfl) ?_
 refine ⟨by decide, ?_⟩
 refine za (o := S.obj nb) _ hn ?_
 show ACalls _ _ [_, int ((rws u8C g.T).length : Nat)] _ _
 rw [zi]
 refine zdn (-1) g.T.length (by omega) (by omega) _ _ (fun b hf => ?_)
 have hnb : nb ≠ b := fun e => by rw [e, hf.1] at hn; cases hn
 have hn1 : (S.setObj b (.cells (il g.T.length fun _ => -1))).obj nb = some (.cells (netC g l c s)) := (zf hnb).trans hn
 refine za (o := (S.setObj b _).obj nb) _ hn1 ?_
 refine ⟨goal, rfl, za _ (zk (hgl goal hgo)) ?_⟩
 rw [zad hgo]
 refine qm ?_
 refine ze (fun c1 => ?_) (fun c1 => ?_)
 rotate_left
 ·rw [yg0 c1] at h
  exact ret (h b hf fun u => ⟨Int.le_refl (-1), show (-1 : Int) ≤ 2000000 by decide⟩)
 refine xq rfl (it := ti60) (ie := ti4) rfl rfl rfl rfl rfl (n := g.T.length) ?_ ?_ (fun b2 hf2 => ?_)
 ·show 1 * _ ≤ _; omega
 ·omega
 rw [zg6]
 have hbb : b ≠ b2 := fun e => by
  have := hf2.1
  rw [← e, zb] at this; cases this
 have hst0 : (S.setObj b (.cells (il g.T.length fun _ => -1))).setObj b2 (.cells (bl g.T.length fun _ => false)) = fldS S b b2 g.T.length (fun _ => -1) (fun _ => false) := rfl
 rw [hst0]
 refine ⟨goal, rfl, hgo, ?_⟩
 refine zn (i := ti3) (v := int 0) (b := b) (o := 0 + goal * 1) (l := il g.T.length fun _ => -1) (st2 := fldS S b b2 g.T.length (updN (fun _ => -1) goal 0) (fun _ => false)) rfl rfl rfl (yin hbb _ _) (by rw [yq]; omega) ?_ ?_
 ·rw [zl6 _ _ _ _ hgo, zma hbb]
 refine yi3 _ (fun F p hQ hdis => ?_)
 refine zpz hQ (by simp) (fun j h0 hj => by simp at hj) hdis (0, (goal : Int)) _ (fun F l1 hQ hH hP hdis => ?_)
 have hd0 : ∀ u, updN (fun _ => (-1 : Int)) goal 0 u = if u = goal then 0 else -1 := fun u => rfl
 have hDJ := yg3 (vw g (zt g l c s) c) hgo hd0
 have hcb := zoe hgo hd0
 have hback : ∀ F d dn, (Store.un F (fldS S b b2 g.T.length d dn)).Has (S.setObj b (.cells (il g.T.length d))) := fun F d dn => ybp hf hf2 hbb
 have hlen : l1.length ≤ 1000000 := by rw [hP.length_eq]; simp
 have hlen1 : l1.length = 1 := by rw [hP.length_eq]; simp
 have hfo := fun d dn => yi8 (n := g.T.length) hf hf2 hn d dn
 have hfd := fun d dn => yin (S := S) (n := g.T.length) hbb d dn
 have hfn := fun d dn => yim (S := S) (b := b) (b2 := b2) (n := g.T.length) d dn
 have hsd := fun d d' dn => zma (S := S) (n := g.T.length) hbb d d' dn
 have hsn := fun d dn dn' => ybn (S := S) (b := b) (b2 := b2) (n := g.T.length) d dn dn'
 have hdd := fun (F : Store) d d' dn dn' (h : Disj F (fldS S b b2 g.T.length d dn)) => ybo (d' := d') (dn' := dn') h
 generalize hd1 : updN (fun _ => (-1 : Int)) goal 0 = d at *
 refine yf8 hQ hlen hH hdis _ (fun F' o l' g1 g2 g3 g4 g5 g6 => ?_)
 refine AWp.loop (σ := (Nat → Int) × (Nat → Bool) × Store × Option (Int × Int) × List (Int × Int) × Int) ⟨fun q => [(0, .av (ptr nb)), (2, .av (.clos 285 [])), (7, .av (.s (.slice (some ⟨b, 0, none⟩) g.T.length g.T.length))), (8, .av (.s (.slice (some ⟨b2, 0, none⟩) g.T.length g.T.length))), (9, .av (ptr p)), (10, .av (int (keyO q.2.2.2.1))), (11, .av (int (valO q.2.2.2.1))), (12, .av (V.bool q.2.2.2.1.isSome))], fun _ => [],
  fun q st' => st' = q.2.2.1.un (fldS S b b2 g.T.length q.1 q.2.1) ∧ QOf q.2.2.1 p q.2.2.2.2.1 ∧ ki q.2.2.2.2.1 ∧ Disj q.2.2.1 (fldS S b b2 g.T.length q.1 q.2.1) ∧ DJ (vw g (zt g l c s) c) g.T.length goal q.1 q.2.1 (q.2.2.2.1.toList ++ q.2.2.2.2.1) q.2.2.2.2.2 zki ∧
   (∀ x, q.2.2.2.1 = some x → ∀ e ∈ x :: q.2.2.2.2.1, ¬ qlt e x) ∧ (q.2.2.2.1 = none → q.2.2.2.2.1 = []) ∧ zk5 g.T.length q.1 ∧ 9 * zdq g.T.length q.2.1 + (q.2.2.2.1.toList ++ q.2.2.2.2.1).length ≤ 9 * g.T.length + 1, fun q => 9 * zdq g.T.length q.2.1 + (q.2.2.2.1.toList ++ q.2.2.2.2.1).length⟩ zc ?_ ?_
 ·refine ⟨(d, fun _ => false, F', o, l', 0), trivial, ⟨rfl, g1, g2, g3, zk0 hDJ (hP.symm.trans g4), g5, g6, hcb, ?_⟩, ⟨lr_ _, lr_ _, lr_ _, lr_ _, lr_ _, lr_ _, lr_ _, lr_ _, trivial⟩, trivial⟩
  have := yba g.T.length fun _ => false
  dsimp only
  rw [← g4.length_eq]
  omega
 clear hdis
 clear g1 g2 g3 g4 g5 g6 hDJ hcb hQ hH hP hlen hlen1 hd0 hd1
 rintro ⟨d, dn, F, o, q, cur⟩ st' ⟨rfl, hQ, hH, hdis, hDJ, hmin, hnil, hcb, hmu⟩
 dsimp only at hQ hH hdis hDJ hmin hnil hcb hmu ⊢
 cases o with
 | none =>
  have : q = [] := hnil rfl
  subst this
  have e := zrm c1 (yiq hDJ)
  refine xw (ar_ _) (hback F d dn) ?_
  have := h b hf
  rw [e] at this
  exact this fun u => by
   have h1 := hDJ.lab u
   have h2 := zg0 hcb u
   omega
 | some x =>
 obtain ⟨t, ht, htn, hd0, hdx, hcx⟩ := hDJ.ent x (by simp)
 have hmin := hmin x rfl
 have hlen : q.length ≤ 1000000 := by
  simp only [Option.toList, List.length_append, List.length_singleton] at hmu
  omega
 have hxt : valO (some x) = (t : Int) := ht
 have hq9 : (Option.toList (some x) ++ q).length = q.length + 1 := by simp
 rw [hq9] at hmu
 rw [hxt]
 refine ⟨t, rfl, htn, ?_⟩
 refine za (o := (F.un (fldS S b b2 g.T.length d dn)).obj b2) _ (un_r (hfn d dn)) ?_
 refine za _ (zr3 htn) ?_
 cases hdt : dn t with
 | true =>
  have hDJ2 := yg2 (q' := q) hDJ ht (List.Perm.refl _) hdt
  refine yf8 hQ hlen hH hdis _ (fun F' o l' g1 g2 g3 g4 g5 g6 => ?_)
  refine ⟨(d, dn, F', o, l', cur), ?_, ⟨rfl, g1, g2, g3, zk0 (hDJ2) g4, g5, g6, hcb, ?_⟩, ⟨lr_ _, lr_ _, lr_ _, lr_ _, lr_ _, lr_ _, lr_ _, lr_ _, trivial⟩, trivial⟩
  ·show 9 * zdq g.T.length (dn) + (o.toList ++ l').length < 9 * zdq g.T.length dn + (Option.toList (some x) ++ q).length
   rw [← g4.length_eq, hq9]
   omega
  ·dsimp only
   rw [← g4.length_eq]
   omega
 | false =>
 obtain ⟨hk, hDJ1⟩ := yg1 (q' := q) hDJ ht (List.Perm.refl _) hmin hdt
 have hopen := zqc htn hdt
 have hokt := yi9 hDJ c1 hd0
 refine ⟨t, rfl, htn, ?_⟩
 refine zn (i := ti4) (v := V.bool true) (b := b2) (o := 0 + t * 1) (l := bl g.T.length dn) (st2 := F.un (fldS S b b2 g.T.length d (updN dn t true))) rfl rfl rfl (un_r (hfn d dn)) (by rw [kh]; omega) ?_ ?_
 ·rw [yis _ _ _ _ htn, zo, hsn]
 refine za (o := (F.un (fldS S b b2 g.T.length d (updN dn t true))).obj nb) _ (un_r (hfo _ _)) ?_
 refine kp g hg t htn _ _ ?_
 have hdis := hdd F d d dn (updN dn t true) hdis
 have hDJ := zmq hDJ1
 have hdn1 : updN dn t true t = true := yj _ _ _
 have hbig := zg0 hcb t
 have hbn := fun (w : Nat) (hw : w < 8) => zmg hg (t := t) hw
 refine AWp.loop (σ := Nat × (Nat → Int) × Store × List (Int × Int)) ⟨fun y => [(0, .av (ptr nb)), (2, .av (.clos 285 [])), (7, .av (.s (.slice (some ⟨b, 0, none⟩) g.T.length g.T.length))), (8, .av (.s (.slice (some ⟨b2, 0, none⟩) g.T.length g.T.length))), (9, .av (ptr p)), (10, .av (int x.1)), (11, .av (int (t : Nat))), (13, .bx 13 0), (70, .av (besV g t)), (71, .av (int (y.1 : Nat)))], fun _ => [(13, il 8 (besN g t))],
  fun y st' => y.1 ≤ 8 ∧ st' = y.2.2.1.un (fldS S b b2 g.T.length y.2.1 (updN dn t true)) ∧ QOf y.2.2.1 p y.2.2.2 ∧ ki y.2.2.2 ∧ Disj y.2.2.1 (fldS S b b2 g.T.length y.2.1 (updN dn t true)) ∧ DJ (vw g (zt g l c s) c) g.T.length goal y.2.1 (updN dn t true) y.2.2.2 x.1 (wayO g (zt g l c s) c t y.1) ∧ y.2.1 t = x.1 ∧ zk5 g.T.length y.2.1 ∧ y.2.2.2.length ≤ q.length + y.1, fun y => 8 - y.1⟩ zc ?_ ?_
 ·exact ⟨(0, d, F, q), trivial, ⟨Nat.zero_le _, rfl, hQ, hH, hdis, hDJ, hk.symm, hcb, Nat.le_refl _⟩, ⟨lr_ _, lr_ _, lr_ _, lr_ _, lr_ _, lr_ _, lr_ _, lr_ _, lr_ _, lr_ _, trivial⟩, ⟨rfl, trivial⟩⟩
 have hx0 : 0 ≤ x.1 := by omega
 have hx1 : x.1 ≤ 84 * (g.T.length : Int) := by omega
 clear hQ hH hdis hDJ hDJ1 hcb hbig hmin hnil hd0 hdx
 rintro ⟨i, d, F, m⟩ st' ⟨hi, rfl, hQ, hH, hdis, hDJ, hdt1, hcb, hml⟩
 dsimp only at hi hQ hH hdis hDJ hdt1 hcb hml ⊢
 refine bcd (fun c2 => ?_) (fun c2 => ?_)
 rotate_left
 ·have : i = 8 := by omega
  subst this
  have hlen : m.length ≤ 1000000 := by omega
  have hDJ2 := zsj hDJ
  refine yf8 hQ hlen hH hdis _ (fun F' o l' g1 g2 g3 g4 g5 g6 => ?_)
  refine ⟨(d, updN dn t true, F', o, l', x.1), ?_, ⟨rfl, g1, g2, g3, zk0 (hDJ2) g4, g5, g6, hcb, ?_⟩, ⟨lr_ _, lr_ _, lr_ _, lr_ _, lr_ _, lr_ _, lr_ _, lr_ _, trivial⟩, trivial⟩
  ·show 9 * zdq g.T.length (updN dn t true) + (o.toList ++ l').length < 9 * zdq g.T.length dn + (Option.toList (some x) ++ q).length
   rw [← g4.length_eq, hq9]
   omega
  ·dsimp only
   rw [← g4.length_eq]
   omega
 have hlt : i < 8 := by omega
 refine ⟨i, rfl, hlt, ?_⟩
 refine za _ (zgm hlt) ?_
 refine zhs hg (un_r (hfo _ _)) t htn i hlt _ ?_
 have hsb := zpe g (zt g l c s) c t i
 have hskip := zc2 hDJ
 have hedge := ybv (g := g) (ok := zt g l c s) (c := c) (t := t) (way := i) hokt htn hlt
 have hor := hbn i hlt
 have hfr : 0 < yx g (zt g l c s) c t i → 0 ≤ besN g t i := fun hp => (zgr (zbk (g := g) (ok := zt g l c s) (c := c) (t := t) (way := i) (by omega))).1
 generalize hC : yx g (zt g l c s) c t i = C at *
 generalize hU : besN g t i = U at *
 -- nothing to note: on with the next way
 have next : (0 < C → ∀ u : Nat, U = u → 0 ≤ d u ∧ d u ≤ d t + C) → ∃ y : Nat × (Nat → Int) × Store × List (Int × Int), 8 - y.1 < 8 - i ∧ (y.1 ≤ 8 ∧ F.un (fldS S b b2 g.T.length d (updN dn t true)) = y.2.2.1.un (fldS S b b2 g.T.length y.2.1 (updN dn t true)) ∧ QOf y.2.2.1 p y.2.2.2 ∧ ki y.2.2.2 ∧ Disj y.2.2.1 (fldS S b b2 g.T.length y.2.1 (updN dn t true)) ∧ DJ (vw g (zt g l c s) c) g.T.length goal y.2.1 (updN dn t true) y.2.2.2 x.1 (wayO g (zt g l c s) c t y.1) ∧ y.2.1 t = x.1 ∧ zk5 g.T.length y.2.1 ∧ y.2.2.2.length ≤ q.length + y.1) ∧ y = (i + 1, d, F, m) := fun hp =>
  ⟨(i + 1, d, F, m), by dsimp only; omega, ⟨by dsimp only; omega, rfl, hQ, hH, hdis, hskip (fun u hu hc => hp hc u hu), hdt1, hcb, by dsimp only; omega⟩, rfl⟩
 refine bcd (fun c3 => ?_) (fun c3 => ?_)
 rotate_left
 ·obtain ⟨y, f1, f2, rfl⟩ := next (fun hc => absurd hc c3)
  refine in64 (by omega) ?_
  exact ⟨(i + 1, d, F, m), f1, f2, ⟨lr_ _, lr_ _, lr_ _, lr_ _, lr_ _, lr_ _, lr_ _, lr_ _, lr_ _, lr_ _, trivial⟩, ⟨rfl, trivial⟩⟩
 have hU0 := hfr c3
 obtain ⟨u, rfl, hul⟩ : ∃ u : Nat, U = (u : Int) ∧ u < g.T.length := by
  rcases hor with h1 | h1
  ·omega
  ·exact h1
 rw [Int.toNat_natCast] at hedge
 have hedge := hedge c3
 refine ⟨u, rfl, hul, ?_⟩
 refine za (o := (F.un (fldS S b b2 g.T.length d (updN dn t true))).obj b2) _ (un_r (hfn d _)) ?_
 refine za _ (zr3 hul) ?_
 refine qm ?_
 refine ze (fun c4 => ?_) (fun c4 => ?_)
 ·obtain ⟨y, f1, f2, rfl⟩ := next (fun hc v hv => by
   have : v = u := by omega
   subst this
   have := hDJ.mono v c4
   omega)
  refine in64 (by omega) ?_
  exact ⟨(i + 1, d, F, m), f1, f2, ⟨lr_ _, lr_ _, lr_ _, lr_ _, lr_ _, lr_ _, lr_ _, lr_ _, lr_ _, lr_ _, trivial⟩, ⟨rfl, trivial⟩⟩
 refine ⟨u, rfl, hul, ?_⟩
 refine za (o := (F.un (fldS S b b2 g.T.length d (updN dn t true))).obj b) _ (un_r (hfd d _)) ?_
 refine za _ (xb hul) ?_
 refine bcd (fun c5 => ?_) (fun c5 => ?_)
 ·skip
  have hlow : d u < 0 ∨ d t + C < d u := Or.inl c5
  have hcb2 := zfp hcb hul (t := t) (u := u) (c := C) (by omega) (by omega) hlow
  rw [hdt1] at hcb2 hlow
  refine in64 (by omega) ?_
  refine ⟨u, rfl, hul, ?_⟩
  refine zn (i := ti3) (v := int (x.1 + C)) (b := b) (o := 0 + u * 1) (l := il g.T.length d) (st2 := F.un (fldS S b b2 g.T.length (updN d u (x.1 + C)) (updN dn t true))) rfl rfl rfl (un_r (hfd d _)) (by rw [yq]; omega) ?_ ?_
  ·rw [zl6 _ _ _ _ hul, zo, hsd]
  refine in64 (by omega) ?_
  refine zpz hQ (by omega) hH (hdd F d (updN d u (x.1 + C)) _ _ hdis) (x.1 + C, (u : Int)) _ (fun F' m' e1 e2 e3 e4 => ?_)
  have hnote := zru zcz hDJ hdn1 hdt1 hul hedge c4 hlow e3
  have htu : t ≠ u := fun e => by subst e; rw [hdn1] at c4; cases c4
  have hC := hC.symm
  refine in64 (by omega) ?_
  refine ⟨(i + 1, updN d u (x.1 + C), F', m'), ?_, ⟨by dsimp only; omega, rfl, e1, e2, e4, ?_, ?_, hcb2, ?_⟩, ⟨lr_ _, lr_ _, lr_ _, lr_ _, lr_ _, lr_ _, lr_ _, lr_ _, lr_ _, lr_ _, trivial⟩, ⟨rfl, trivial⟩⟩
  ·show 8 - (i + 1) < 8 - i
   omega
  ·refine zc2 hnote (fun v hv hc => ?_)
   have hvu : v = u := by
    rw [hU] at hv
    omega
   subst hvu
   dsimp only
   rw [yj, yn htu, hdt1, ← hC]
   omega
  ·dsimp only
   rw [yn htu]
   exact hdt1
  ·dsimp only
   rw [e3.length_eq, List.length_cons]
   omega
 have hbig := zg0 hcb u
 refine in64 (by omega) ?_
 refine ⟨u, rfl, hul, ?_⟩
 refine za (o := (F.un (fldS S b b2 g.T.length d (updN dn t true))).obj b) _ (un_r (hfd d _)) ?_
 refine za _ (xb hul) ?_
 refine bcd (fun c6 => ?_) (fun c6 => ?_)
 ·skip
  have hlow : d u < 0 ∨ d t + C < d u := Or.inr (show d t + C < d u by omega)
  have hcb2 := zfp hcb hul (t := t) (u := u) (c := C) (by omega) (by omega) hlow
  rw [hdt1] at hcb2 hlow
  refine in64 (by omega) ?_
  refine ⟨u, rfl, hul, ?_⟩
  refine zn (i := ti3) (v := int (x.1 + C)) (b := b) (o := 0 + u * 1) (l := il g.T.length d) (st2 := F.un (fldS S b b2 g.T.length (updN d u (x.1 + C)) (updN dn t true))) rfl rfl rfl (un_r (hfd d _)) (by rw [yq]; omega) ?_ ?_
  ·rw [zl6 _ _ _ _ hul, zo, hsd]
  refine in64 (by omega) ?_
  refine zpz hQ (by omega) hH (hdd F d (updN d u (x.1 + C)) _ _ hdis) (x.1 + C, (u : Int)) _ (fun F' m' e1 e2 e3 e4 => ?_)
  have hnote := zru zcz hDJ hdn1 hdt1 hul hedge c4 hlow e3
  have htu : t ≠ u := fun e => by subst e; rw [hdn1] at c4; cases c4
  have hC := hC.symm
  refine in64 (by omega) ?_
  refine ⟨(i + 1, updN d u (x.1 + C), F', m'), ?_, ⟨by dsimp only; omega, rfl, e1, e2, e4, ?_, ?_, hcb2, ?_⟩, ⟨lr_ _, lr_ _, lr_ _, lr_ _, lr_ _, lr_ _, lr_ _, lr_ _, lr_ _, lr_ _, trivial⟩, ⟨rfl, trivial⟩⟩
  ·show 8 - (i + 1) < 8 - i
   omega
  ·refine zc2 hnote (fun v hv hc => ?_)
   have hvu : v = u := by
    rw [hU] at hv
    omega
   subst hvu
   dsimp only
   rw [yj, yn htu, hdt1, ← hC]
   omega
  ·dsimp only
   rw [yn htu]
   exact hdt1
  ·dsimp only
   rw [e3.length_eq, List.length_cons]
   omega
 obtain ⟨y, f1, f2, rfl⟩ := next (fun hc v hv => by
  have : v = u := by omega
  subst this
  omega)
 refine in64 (by omega) ?_
 exact ⟨(i + 1, d, F, m), f1, f2, ⟨lr_ _, lr_ _, lr_ _, lr_ _, lr_ _, lr_ _, lr_ _, lr_ _, lr_ _, lr_ _, trivial⟩, ⟨rfl, trivial⟩⟩
end Go.Proofs
namespace Go.Proofs
open Go Go.V
set_option maxHeartbeats 4000000 in
set_option maxRecDepth 20000 in
theorem zjw {S : Store} {nb : Nat} {g : Gnd} (hg : gndP g) {l : List Bld} {c s : Int} (hn : S.obj nb = some (.cells (netC g l c s))) (goal : Nat) (hgo : goal < g.T.length) (R : AV → Store → Prop)
  (h : ∀ b, Fresh S b → R (.s (.slice (some ⟨b, 0, none⟩) g.T.length g.T.length)) (S.setObj b (.cells (il g.T.length (wayF g (zt g l c s) c (farF g (zt g l c s) c goal)))))) :
  ACalls Tryz.prog 275 [ptr nb, int (goal : Nat)] S R := by
 have ha := ya hg
 have hT : g.T.length ≤ 16384 := by omega
 refine ACalls.of_body (c := cfg 71) zc Tryz.func275 (by rfl) (by rfl) (by rfl) (by rfl) ?_
 refine zrf hg hn goal hgo _ (fun b hf hdb => ?_)
 generalize farF g (zt g l c s) c goal = d at *
 refine ⟨by decide, ?_⟩
 refine zdn (-1) g.T.length (by omega) (by omega) _ _ (fun b2 hf2 => ?_)
 have hbb : b ≠ b2 := fun e => by
  have := hf2.1
  rw [← e, zb] at this; cases this
 rw [← zmp g (zt g l c s) c d]
 have hfo := fun f => yiv (n := g.T.length) hf hf2 hn d f
 have hfd := fun f => yix (S := S) (n := g.T.length) hbb d f
 have hsf := fun f f' => zsp (S := S) (b := b) (b2 := b2) (n := g.T.length) d f f'
 have hff := fun f => yiw (S := S) (b := b) (b2 := b2) (n := g.T.length) d f
 refine AWp.loop (σ := Nat) ⟨fun i => [(0, .av (ptr nb)), (5, .av (.s (.slice (some ⟨b, 0, none⟩) g.T.length g.T.length))), (6, .av (.s (.slice (some ⟨b2, 0, none⟩) g.T.length g.T.length))), (20, .av (.s (.slice (some ⟨b, 0, none⟩) g.T.length g.T.length))), (21, .av (int (g.T.length : Nat))), (22, .av (int (i : Nat)))], fun _ => [],
  fun i st' => i ≤ g.T.length ∧ st' = twoS S b b2 g.T.length d (wg g (zt g l c s) c d i), fun i => g.T.length - i⟩ zc ?_ ?_
 ·exact ⟨0, trivial, ⟨Nat.zero_le _, rfl⟩, ⟨lr_ _, lr_ _, lr_ _, lr_ _, lr_ _, lr_ _, trivial⟩, trivial⟩
 rintro i st' ⟨hi, rfl⟩
 refine bcd (fun c1 => ?_) (fun c1 => ?_)
 rotate_left
 ·have : i = g.T.length := by omega
  subst this
  refine xw (ar_ _) (zsq hf hbb _ _) ?_
  rw [zox]
  exact h b2 (zo8 hbb hf2)
 have hlt : i < g.T.length := by omega
 -- on with the next tile
 have next : ∀ f, f = wg g (zt g l c s) c d (i + 1) → ∃ k : Nat, g.T.length - k < g.T.length - i ∧ (k ≤ g.T.length ∧ twoS S b b2 g.T.length d f = twoS S b b2 g.T.length d (wg g (zt g l c s) c d k)) ∧ k = i + 1 := fun f e => ⟨i + 1, by omega, ⟨by omega, by rw [e]⟩, rfl⟩
 refine ⟨i, rfl, hlt, ?_⟩
 refine za (o := (twoS S b b2 g.T.length d _).obj b) _ (hfd _) ?_
 refine za _ (xb hlt) ?_
 refine bcd (fun c2 => ?_) (fun c2 => ?_)
 ·obtain ⟨k, f1, f2, rfl⟩ := next _ (zev (zsk c2)).symm
  refine in64 (by omega) ?_
  exact ⟨i + 1, f1, f2, ⟨lr_ _, lr_ _, lr_ _, lr_ _, lr_ _, lr_ _, trivial⟩, trivial⟩
 refine za (o := (twoS S b b2 g.T.length d _).obj nb) _ (hfo _) ?_
 refine kp g hg i hlt _ _ ?_
 refine AWp.loop (σ := Nat) ⟨fun j => [(0, .av (ptr nb)), (5, .av (.s (.slice (some ⟨b, 0, none⟩) g.T.length g.T.length))), (6, .av (.s (.slice (some ⟨b2, 0, none⟩) g.T.length g.T.length))), (7, .av (int (i : Nat))), (8, .av (int (d i))), (9, .bx 9 0), (20, .av (.s (.slice (some ⟨b, 0, none⟩) g.T.length g.T.length))), (21, .av (int (g.T.length : Nat))), (22, .av (int (i : Nat))), (35, .av (besV g i)), (36, .av (int (j : Nat)))], fun _ => [(9, il 8 (besN g i))],
  fun j st' => j ≤ 8 ∧ st' = twoS S b b2 g.T.length d (wg g (zt g l c s) c d i) ∧ ∀ w, w < j → ¬ za5 g (zt g l c s) c d i w, fun j => 8 - j⟩ zc ?_ ?_
 ·exact ⟨0, trivial, ⟨Nat.zero_le _, rfl, fun w hw => absurd hw (Nat.not_lt_zero w)⟩, ⟨lr_ _, lr_ _, lr_ _, lr_ _, lr_ _, lr_ _, lr_ _, lr_ _, lr_ _, lr_ _, lr_ _, trivial⟩, ⟨rfl, trivial⟩⟩
 rintro j st' ⟨hj, rfl, hno⟩
 refine bcd (fun c3 => ?_) (fun c3 => ?_)
 rotate_left
 ·have : j = 8 := by omega
  subst this
  obtain ⟨k, f1, f2, rfl⟩ := next _ (zev (zoz c2 hno)).symm
  refine in64 (by omega) ?_
  exact ⟨i + 1, f1, f2, ⟨lr_ _, lr_ _, lr_ _, lr_ _, lr_ _, lr_ _, trivial⟩, trivial⟩
 have hj8 : j < 8 := by omega
 have hskip : ¬ za5 g (zt g l c s) c d i j → ∃ k : Nat, 8 - k < 8 - j ∧ (k ≤ 8 ∧ twoS S b b2 g.T.length d (wg g (zt g l c s) c d i) = twoS S b b2 g.T.length d (wg g (zt g l c s) c d i) ∧ ∀ w, w < k → ¬ za5 g (zt g l c s) c d i w) ∧ k = j + 1 := fun hh => ⟨j + 1, by omega, ⟨by omega, rfl, fun w hw => by
  by_cases e : w = j
  ·subst e; exact hh
  ·exact hno w (by omega)⟩, rfl⟩
 have hyes : za5 g (zt g l c s) c d i j → wayF g (zt g l c s) c d i = (j : Int) := fun hh => zoy c2 hj8 hh hno
 refine ⟨j, rfl, hj8, ?_⟩
 refine za _ (zgm hj8) ?_
 refine zhs hg (hfo _) i hlt j hj8 _ ?_
 have hsb := zpe g (zt g l c s) c i j
 have hor := zmg hg (t := i) hj8
 have hfr : 0 < yx g (zt g l c s) c i j → 0 ≤ besN g i j := fun hp => (zgr (zbk (g := g) (ok := zt g l c s) (c := c) (t := i) (way := j) (by omega))).1
 unfold za5 at hskip hyes
 generalize yx g (zt g l c s) c i j = C at *
 generalize besN g i j = U at *
 refine bcd (fun c4 => ?_) (fun c4 => ?_)
 rotate_left
 ·obtain ⟨k, f1, f2, rfl⟩ := hskip (fun hh => c4 hh.1)
  refine in64 (by omega) ?_
  exact ⟨j + 1, f1, f2, ⟨lr_ _, lr_ _, lr_ _, lr_ _, lr_ _, lr_ _, lr_ _, lr_ _, lr_ _, lr_ _, lr_ _, trivial⟩, ⟨rfl, trivial⟩⟩
 have hU0 := hfr c4
 obtain ⟨u, rfl, hul⟩ : ∃ u : Nat, U = (u : Int) ∧ u < g.T.length := by
  rcases hor with h1 | h1
  ·omega
  ·exact h1
 rw [Int.toNat_natCast] at hskip hyes
 have hdu := hdb u
 refine ⟨u, rfl, hul, ?_⟩
 refine za (o := (twoS S b b2 g.T.length d _).obj b) _ (hfd _) ?_
 refine za _ (xb hul) ?_
 refine bcd (fun c5 => ?_) (fun c5 => ?_)
 rotate_left
 ·obtain ⟨k, f1, f2, rfl⟩ := hskip (fun hh => c5 hh.2.1)
  refine in64 (by omega) ?_
  exact ⟨j + 1, f1, f2, ⟨lr_ _, lr_ _, lr_ _, lr_ _, lr_ _, lr_ _, lr_ _, lr_ _, lr_ _, lr_ _, lr_ _, trivial⟩, ⟨rfl, trivial⟩⟩
 refine ⟨u, rfl, hul, ?_⟩
 refine za (o := (twoS S b b2 g.T.length d _).obj b) _ (hfd _) ?_
 refine za _ (xb hul) ?_
 refine in64 (by omega) ?_
 refine bceq (fun c6 => ?_) (fun c6 => ?_)
 rotate_left
 ·obtain ⟨k, f1, f2, rfl⟩ := hskip (fun hh => c6 hh.2.2)
  refine in64 (by omega) ?_
  exact ⟨j + 1, f1, f2, ⟨lr_ _, lr_ _, lr_ _, lr_ _, lr_ _, lr_ _, lr_ _, lr_ _, lr_ _, lr_ _, lr_ _, trivial⟩, ⟨rfl, trivial⟩⟩
 have hw := hyes ⟨c4, c5, c6⟩
 refine ⟨i, rfl, hlt, ?_⟩
 refine zn (i := ti3) (v := int (j : Nat)) (b := b2) (o := 0 + i * 1) (l := il g.T.length (wg g (zt g l c s) c d i)) (st2 := twoS S b b2 g.T.length d (wg g (zt g l c s) c d (i + 1))) rfl rfl rfl (hff _) (by rw [yq]; omega) ?_ ?_
 ·rw [zl6 _ _ _ _ hlt, hsf, zew, hw]
 obtain ⟨k, f1, f2, rfl⟩ := next _ rfl
 refine in64 (by omega) ?_
 exact ⟨i + 1, f1, f2, ⟨lr_ _, lr_ _, lr_ _, lr_ _, lr_ _, lr_ _, trivial⟩, trivial⟩
end Go.Proofs
