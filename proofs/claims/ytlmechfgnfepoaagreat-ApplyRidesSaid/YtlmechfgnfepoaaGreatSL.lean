/- The ground on which laws of thronglaw23 are proved: contracts of functions and plain lemmas; no condition beyond the row's own. -/
import Derived.Test.YtlmechfgnfepoaaGreatSK
import Derived.Test.YtlmechfgnfepoaaGreatSF
set_option linter.unusedSimpArgs false
set_option linter.unusedVariables false
namespace Go.Proofs
open Go Go.V
set_option maxRecDepth 20000 in
theorem zpd (g : Gnd) (x y : Int) (st : Store) (R : AV → Store → Prop) (h : ∀ z : Bool, (z = true ↔ onG g x y) → R (bool z) st) : ACalls Tryz.prog 208 [.agg (gndC g), int x, int y] st R := by
 refine ACalls.of_body (c := cfg 25) zd Tryz.func208 (by rfl) (by rfl) (by rfl) (by rfl) ?_
 repeat' (first | refine bcd (fun _ => ?_) (fun _ => ?_) | refine ze (fun _ => ?_) (fun _ => ?_) | refine in64 (by omega) ?_ | fail)
 all_goals
  refine ret (h _ ?_)
  unfold onG
  simp only [decide_eq_true_eq, decide_eq_false_iff_not, Bool.false_eq_true, false_iff, true_iff, beq_iff_eq, bne_iff_ne, beq_eq_false_iff_ne, ne_eq, reduceCtorEq] at *
  omega
theorem min2_eq (a b : Int) : min2 a b = min a b := by
 unfold min2
 by_cases h : b < a
 ·rw [decide_eq_true h]; show b = _; omega
 ·rw [decide_eq_false h]; show a = _; omega
theorem zhu (g : Gnd) (hg : gndP g) (f : Nat → Int) (hf : ∀ t, t < g.T.length → 0 ≤ f t ∧ f t ≤ 128) (t : Nat) (ht : t < g.T.length) (ws : List (Int × Int)) (hw : ∀ d ∈ ws, (d.1 ≠ 0 ∨ d.2 ≠ 0) ∧ (-1 ≤ d.1 ∧ d.1 ≤ 1) ∧ (-1 ≤ d.2 ∧ d.2 ≤ 1)) (hwl : ws.length ≤ 100) (b : Nat) (st : Store) (R : AV → Store → Prop)
  (h : R (.tup []) (st.setObj b (.cells (il g.T.length (zev g f ws t))))) : ACalls Tryz.prog 176 [.agg (gndC g), blV b g.T.length, int t, lst 2 wayC ws] (st.setObj b (.cells (il g.T.length f))) R := by
 have hm := zq hg
 have htb := w7 hg (t := t) (by omega)
 have hq := trem (t := t) hg.1.1
 have hq2 := tquo (t := t) hg.1.1
 have hg1 := hg.1
 have hg2 := hg.2.1
 unfold zev at h
 have hx : ∃ x, x = (t : Int) % g.W := ⟨_, rfl⟩
 have hy : ∃ y, y = (t : Int) / g.W := ⟨_, rfl⟩
 obtain ⟨x, hx⟩ := hx
 obtain ⟨y, hy⟩ := hy
 rw [← hx, ← hy] at h htb
 rw [← hx] at hq
 rw [← hy] at hq2
 refine ACalls.of_body (c := cfg 63) zd Tryz.func176 (by rfl) (by rfl) (by rfl) (by rfl) ?_
 refine ADraw.of_sched zd (by rfl) (by rfl) zwb (by rfl) ?_
 refine ⟨by omega, ?_⟩
 refine ⟨by omega, ?_⟩
 refine in64 (by omega) ?_
 refine ⟨⟨(by repeat (first | exact trivial | refine ⟨rfl, ?_⟩ | refine ⟨optR (optR (optR (za _ (zb _ _ _) rfl))), ?_⟩)), ?_⟩, trivial⟩
 refine ⟨⟨trivial, ?_⟩, trivial⟩
 refine AWp.loop (σ := Nat) ⟨fun i => [(1, .av (blV b g.T.length)), (2, .av (int (t : Nat))), (4, .bx 4 0), (8, .av (int x)), (9, .av (int y)), (21, .av (lst 2 wayC ws)), (22, .av (int (ws.length : Nat))), (23, .av (int (i : Nat)))], fun _ => [(4, gndC g)],
  fun i st' => i ≤ ws.length ∧ st' = st.setObj b (.cells (il g.T.length (setI f t (vh g f x y (f t) (ws.take i))))), fun i => ws.length - i⟩ zd ?_ ?_
 ·refine ⟨0, trivial, ⟨Nat.zero_le _, ?_⟩, ⟨lr_ _, lr_ _, lr_ _, ?_, ?_, lr_ _, ?_, lr_ _, trivial⟩, ⟨rfl, trivial⟩⟩
  ·rw [List.take_zero]
   show _ = st.setObj b (.cells (il g.T.length (setI f t (f t))))
   rw [ybx]
  ·rw [← hq]; exact lr_ _
  ·rw [← hq2]; exact lr_ _
  ·rw [← zh (f := wayC) ws]; exact lr_ _
 rintro i st' ⟨hi, rfl⟩
 refine bcd (fun h1 => ?_) (fun h1 => ?_)
 rotate_left
 ·have : i = ws.length := by omega
  subst this
  rw [List.take_length]
  exact ret h
 have hlt : i < ws.length := by omega
 have hd := hw _ (List.getElem_mem hlt)
 have hv := zju hg hf x y (ws.take i) (f t) (hf t ht)
 have hsn := zmv g f x y (f t) ws hlt
 have hgs := ycp hg f (t := t) (vh g f x y (f t) (ws.take i)) hd.1
 rw [← hx, ← hy] at hgs
 generalize hV : vh g f x y (f t) (ws.take i) = V0 at *
 have ho : (st.setObj b (.cells (il g.T.length (setI f t V0)))).obj b = some (.cells (il g.T.length (setI f t V0))) := zb _ _ _
 refine ⟨i, rfl, za _ (zj hlt) ?_⟩
 refine ⟨0, rfl, by decide, ?_⟩
 refine in64 (by omega) ?_
 refine ⟨1, rfl, by decide, ?_⟩
 refine in64 (by omega) ?_
 refine zpd g (x + ws[i].1) (y + ws[i].2) _ _ (fun z hz => ?_)
 have hgv := gv_b hg hf (x + ws[i].1) (y + ws[i].2)
 have fin : min V0 (gv g f (x + ws[i].1) (y + ws[i].2) + 1) = vh g f x y (f t) (ws.take (i + 1)) := hsn.symm
 refine ze (fun c1 => ?_) (fun c1 => ?_)
 ·have hon := hz.1 c1
  obtain ⟨e1, e2, e3, e4⟩ := x9 hg hon
  have hpos : 0 ≤ g.W * (y + ws[i].2) := Int.mul_nonneg (by omega) (by have := hon.2.1; omega)
  have hval : setI f t V0 (tl g (x + ws[i].1) (y + ws[i].2)) = gv g f (x + ws[i].1) (y + ws[i].2) := by
   rw [← hgs]; unfold gv; rw [if_pos hon]
  refine ⟨0, rfl, by decide, ?_⟩
  refine in64 (by omega) ?_
  refine ⟨1, rfl, by decide, ?_⟩
  refine in64 (by omega) ?_
  refine in64 (by omega) ?_
  refine in64 (by omega) ?_
  refine ⟨tl g (x + ws[i].1) (y + ws[i].2), e1.symm, e2, ?_⟩
  refine za _ ho (za _ (zj5 e2) ?_)
  rw [hval]
  refine ⟨t, rfl, ht, ?_⟩
  refine za _ ho (za _ (zj5 ht) ?_)
  rw [vq]
  refine in64 (by omega) ?_
  refine ⟨t, rfl, ht, ?_⟩
  refine zv (i := ti3) (v := int (min2 V0 (gv g f (x + ws[i].1) (y + ws[i].2) + 1))) (b := b) (o := 0 + t * 1) (l := il g.T.length (setI f t V0)) (st2 := st.setObj b (.cells (il g.T.length (setI f t (vh g f x y (f t) (ws.take (i + 1))))))) rfl rfl rfl ho (by rw [zae]; omega) ?_ ?_
  ·rw [zk, show 0 + t * 1 = t by omega, zy7 ht, zhh, min2_eq, fin]
  refine in64 (by omega) ?_
  refine ⟨i + 1, ?_, ⟨by omega, rfl⟩, ⟨lr_ _, lr_ _, lr_ _, lr_ _, lr_ _, lr_ _, lr_ _, lr_ _, trivial⟩, ⟨rfl, trivial⟩⟩
  show ws.length - (i + 1) < ws.length - i
  omega
 ·have hoff : ¬ onG g (x + ws[i].1) (y + ws[i].2) := fun hh => by have := hz.2 hh; rw [this] at c1; cases c1
  have hz0 : gv g f (x + ws[i].1) (y + ws[i].2) = 0 := if_neg hoff
  rw [hz0] at fin
  refine ⟨t, rfl, ht, ?_⟩
  refine za _ ho (za _ (zj5 ht) ?_)
  rw [vq]
  refine in64 (by omega) ?_
  refine ⟨t, rfl, ht, ?_⟩
  refine zv (i := ti3) (v := int (min2 V0 (0 + 1))) (b := b) (o := 0 + t * 1) (l := il g.T.length (setI f t V0)) (st2 := st.setObj b (.cells (il g.T.length (setI f t (vh g f x y (f t) (ws.take (i + 1))))))) rfl rfl rfl ho (by rw [zae]; omega) ?_ ?_
  ·rw [zk, show 0 + t * 1 = t by omega, zy7 ht, zhh, min2_eq, fin]
  refine in64 (by omega) ?_
  refine ⟨i + 1, ?_, ⟨by omega, rfl⟩, ⟨lr_ _, lr_ _, lr_ _, lr_ _, lr_ _, lr_ _, lr_ _, lr_ _, trivial⟩, ⟨rfl, trivial⟩⟩
  show ws.length - (i + 1) < ws.length - i
  omega
end Go.Proofs
namespace Go.Proofs
open Go Go.V
def zao (o : Nat → Bool) (t : Nat) : Int := if o t then 128 else 0
def va (o : Nat → Bool) (i t : Nat) : Int := if t < i then zao o t else 0
theorem zpc (o : Nat → Bool) (n : Nat) : ∀ t, t < n → 0 ≤ zao o t ∧ zao o t ≤ 128 := fun t _ => by unfold zao; split <;> decide
def ydc (g : Gnd) (l : List Bld) (c : Int) : AV := lst 1 intC (ilL g.T.length (zdj g (ye g l c)))
theorem zou (g : Gnd) (hg : gndP g) (l : List Bld) (hl : l.length ≤ 1000000000000) (hb : ∀ b ∈ l, bldP b ∧ onP g b) (c : Int) (st : Store) (R : AV → Store → Prop) (h : R (ydc g l c) st) :
  ACalls Tryz.prog 125 [.agg (gndC g), lst 6 bldC l, int c] st R := by
 have ha := zq hg
 have fwd_ok : ∀ d ∈ fwdW, (d.1 ≠ 0 ∨ d.2 ≠ 0) ∧ (-1 ≤ d.1 ∧ d.1 ≤ 1) ∧ (-1 ≤ d.2 ∧ d.2 ≤ 1) := by decide
 have bwd_ok : ∀ d ∈ bwdW, (d.1 ≠ 0 ∨ d.2 ≠ 0) ∧ (-1 ≤ d.1 ∧ d.1 ≤ 1) ∧ (-1 ≤ d.2 ∧ d.2 ≤ 1) := by decide
 refine ACalls.of_awp (c := cfg 63) zd Tryz.func125 (by rfl) (by rfl) (by rfl) (by rfl) ?_
 refine AWp.seq (AWp.of_vc zd ?_)
 refine AWp.seq (AWp.of_vc zd ?_)
 refine kh rfl (it := ti36) (ie := ti3) rfl rfl rfl rfl rfl (n := (rws u8C g.T).length) ?_ ?_ (fun b hf => ?_)
 ·rw [zh]; show 8 * _ ≤ _; omega
 ·rw [zh]; omega
 rw [zh, ycl]
 refine AWp.meetA (σ := Unit) ⟨fun _ => [(3, .bx 3 0), (7, .av (blV b g.T.length))], fun _ => [(3, gndC g)], fun _ st' => st' = st.setObj b (.cells (il g.T.length (zao (ye g l c))))⟩ ?_ ?_
 ·refine AWp.of_vc zd ?_
  refine qy g hg l hl hb c _ _ ?_
  refine AWp.loop (σ := Nat) ⟨fun i => [(3, .bx 3 0), (7, .av (blV b g.T.length)), (19, .av (opV g l c)), (20, .av (int (g.T.length : Nat))), (21, .av (int (i : Nat)))], fun _ => [(3, gndC g)],
   fun i st' => i ≤ g.T.length ∧ st' = st.setObj b (.cells (il g.T.length (va (ye g l c) i))), fun i => g.T.length - i⟩ zd ?_ ?_
  ·refine ⟨0, trivial, ⟨Nat.zero_le _, ?_⟩, ⟨lr_ _, lr_ _, lr_ _, ?_, lr_ _, trivial⟩, ⟨rfl, trivial⟩⟩
   ·rw [show va (ye g l c) 0 = fun _ => 0 from funext fun t => if_neg (Nat.not_lt_zero t)]
   ·show LV.le (.av (int ((rws kg (blL g.T.length (ye g l c))).length : Nat))) (.av (int (g.T.length : Nat)))
    rw [zh, ju]; exact lr_ _
  rintro i st' ⟨hi, rfl⟩
  refine bcd (fun h1 => ?_) (fun h1 => ?_)
  rotate_left
  ·have : i = g.T.length := by omega
   subst this
   refine ⟨(), ?_, ⟨lr_ _, lr_ _, trivial⟩, ⟨rfl, trivial⟩⟩
   show st.setObj b (.cells (il g.T.length (va (ye g l c) g.T.length))) = st.setObj b (.cells (il g.T.length (zao (ye g l c))))
   rw [zx5 (f := va (ye g l c) g.T.length) (g := zao (ye g l c)) fun t ht => if_pos ht]
  have hlt : i < g.T.length := by omega
  have ho : (st.setObj b (.cells (il g.T.length (va (ye g l c) i)))).obj b = some (.cells (il g.T.length (va (ye g l c) i))) := zb _ _ _
  have hlt2 : i < (blL g.T.length (ye g l c)).length := by rw [ju]; exact hlt
  have s2 : ∀ s, s ≠ i → va (ye g l c) (i + 1) s = va (ye g l c) i s := fun s hs => by
   unfold va
   by_cases h3 : s < i
   ·rw [if_pos h3, if_pos (by omega)]
   ·rw [if_neg h3, if_neg (by omega)]
  have s1 : va (ye g l c) (i + 1) i = zao (ye g l c) i := if_pos (by omega)
  refine ⟨i, rfl, za _ (zj hlt2) ?_⟩
  refine ze (fun c1 => ?_) (fun c1 => ?_)
  ·rw [zkp hlt] at c1
   refine ⟨i, rfl, hlt, ?_⟩
   refine zv (i := ti3) (v := int 128) (b := b) (o := 0 + i * 1) (l := _) (st2 := st.setObj b (.cells (il g.T.length (va (ye g l c) (i + 1))))) rfl rfl rfl ho (by rw [zae]; omega) ?_ ?_
   ·rw [zk, show 0 + i * 1 = i by omega, ← zp8 hlt _ s2, s1]
    unfold zao
    rw [if_pos c1]
   refine in64 (by omega) ?_
   refine ⟨i + 1, ?_, ⟨by omega, rfl⟩, ⟨lr_ _, lr_ _, lr_ _, lr_ _, lr_ _, trivial⟩, ⟨rfl, trivial⟩⟩
   show g.T.length - (i + 1) < g.T.length - i
   omega
  ·rw [zkp hlt] at c1
   refine in64 (by omega) ?_
   refine ⟨i + 1, ?_, ⟨by omega, ?_⟩, ⟨lr_ _, lr_ _, lr_ _, lr_ _, lr_ _, trivial⟩, ⟨rfl, trivial⟩⟩
   ·show g.T.length - (i + 1) < g.T.length - i
    omega
   ·refine congrArg (fun f => st.setObj b (.cells (il g.T.length f))) (funext fun s => ?_)
    by_cases h3 : s = i
    ·subst h3
     rw [s1]
     unfold zao va
     rw [if_neg (by omega), if_neg (by rw [c1]; decide)]
    ·exact (s2 s h3).symm
 rintro _ _ rfl
 refine AWp.meetA (σ := Unit) ⟨fun _ => [(3, .bx 3 0), (7, .av (blV b g.T.length))], fun _ => [(3, gndC g)], fun _ st' => st' = st.setObj b (.cells (il g.T.length (xh g (zao (ye g l c)) g.T.length)))⟩ ?_ ?_
 ·refine AWp.of_vc zd ?_
  refine AWp.loop (σ := Nat) ⟨fun i => [(3, .bx 3 0), (7, .av (blV b g.T.length)), (32, .av (int (g.T.length : Nat))), (33, .av (int (i : Nat)))], fun _ => [(3, gndC g)],
   fun i st' => i ≤ g.T.length ∧ st' = st.setObj b (.cells (il g.T.length (xh g (zao (ye g l c)) i))), fun i => g.T.length - i⟩ zd ?_ ?_
  ·exact ⟨0, trivial, ⟨Nat.zero_le _, rfl⟩, ⟨lr_ _, lr_ _, lr_ _, lr_ _, trivial⟩, ⟨rfl, trivial⟩⟩
  rintro i st' ⟨hi, rfl⟩
  refine bcd (fun h1 => ?_) (fun h1 => ?_)
  rotate_left
  ·have : i = g.T.length := by omega
   subst this
   exact ⟨(), rfl, ⟨lr_ _, lr_ _, trivial⟩, ⟨rfl, trivial⟩⟩
  have hlt : i < g.T.length := by omega
  refine ⟨by decide, ?_⟩
  refine zhu g hg (xh g (zao (ye g l c)) i) (zfv hg (zpc _ _) i hi) i hlt fwdW fwd_ok (by decide) b _ _ ?_
  refine in64 (by omega) ?_
  refine ⟨i + 1, ?_, ⟨by omega, rfl⟩, ⟨lr_ _, lr_ _, lr_ _, lr_ _, trivial⟩, ⟨rfl, trivial⟩⟩
  show g.T.length - (i + 1) < g.T.length - i
  omega
 rintro _ _ rfl
 have hbA := zfv hg (zpc (ye g l c) g.T.length) g.T.length (Nat.le_refl _)
 have hroom : zdj g (ye g l c) = jz g (xh g (zao (ye g l c)) g.T.length) g.T.length g.T.length := rfl
 generalize xh g (zao (ye g l c)) g.T.length = FA at *
 refine AWp.meetA (σ := Unit) ⟨fun _ => [(7, .av (blV b g.T.length))], fun _ => [], fun _ st' => st' = st.setObj b (.cells (il g.T.length (zdj g (ye g l c))))⟩ ?_ ?_
 ·refine AWp.of_vc zd ?_
  refine in64 (by omega) ?_
  refine AWp.loop (σ := Nat) ⟨fun j => [(3, .bx 3 0), (7, .av (blV b g.T.length)), (11, .av (int ((g.T.length : Int) - 1 - (j : Nat))))], fun _ => [(3, gndC g)],
   fun j st' => j ≤ g.T.length ∧ st' = st.setObj b (.cells (il g.T.length (jz g FA g.T.length j))), fun j => g.T.length - j⟩ zd ?_ ?_
  ·refine ⟨0, trivial, ⟨Nat.zero_le _, rfl⟩, ⟨lr_ _, lr_ _, ?_, trivial⟩, ⟨rfl, trivial⟩⟩
   rw [show (g.T.length : Int) - 1 - ((0 : Nat) : Int) = (g.T.length : Int) - 1 by omega]; exact lr_ _
  rintro j st' ⟨hj, rfl⟩
  refine bcd (fun h1 => ?_) (fun h1 => ?_)
  rotate_left
  ·have : j = g.T.length := by omega
   subst this
   exact ⟨(), by rw [hroom], ⟨lr_ _, trivial⟩, trivial⟩
  have hlt : j < g.T.length := by omega
  refine ⟨by decide, ?_⟩
  refine ACalls.le (ys := [.agg (gndC g), blV b g.T.length, int ((g.T.length - 1 - j : Nat) : Int), lst 2 wayC bwdW]) ⟨ar_ _, ar_ _, by rw [show (g.T.length : Int) - 1 - (j : Int) = ((g.T.length - 1 - j : Nat) : Int) by omega]; exact ar_ _, ar_ _, trivial⟩ ?_
  refine zhu g hg (jz g FA g.T.length j) (zk0 hg hbA j hj) (g.T.length - 1 - j) (by omega) bwdW bwd_ok (by decide) b _ _ ?_
  refine in64 (by omega) ?_
  refine ⟨j + 1, ?_, ⟨by omega, rfl⟩, ⟨lr_ _, lr_ _, ?_, trivial⟩, ⟨rfl, trivial⟩⟩
  ·show g.T.length - (j + 1) < g.T.length - j
   omega
  ·rw [show (g.T.length : Int) - 1 - ((j + 1 : Nat) : Int) = (g.T.length : Int) - 1 - (j : Nat) - 1 by omega]; exact lr_ _
 rintro _ _ rfl
 refine AWp.freeze (d := 7) (b := b) (k := 1) (n := g.T.length) (cap := g.T.length) (rows := rws intC (ilL g.T.length (zdj g (ye g l c)))) (pad := []) rfl ?_ ?_ ?_ (Nat.le_refl _) ?_ ?_ ?_
 ·rw [List.append_nil, ycm]; exact zb _ _ _
 ·exact hf.2
 ·rw [zh, zgb]
 ·intro row hr
  obtain ⟨x, _, rfl⟩ := List.mem_map.1 hr
  rfl
 ·intro row hr y hy
  obtain ⟨x, _, rfl⟩ := List.mem_map.1 hr
  simp [intC] at hy
  exact ⟨_, hy, rfl⟩
 rw [jr hf.1]
 refine AWp.of_vc zd ?_
 exact ret h
end Go.Proofs
namespace Go.Proofs
open Go Go.V
def zdy (g : Gnd) (l : List Bld) (c s : Int) (i t : Nat) : Bool := if t < i then zcr g l c s t else false
theorem zyc (g : Gnd) (hg : gndP g) (l : List Bld) (hl : l.length ≤ 1000000000000) (hb : ∀ b ∈ l, bldP b ∧ onP g b) (c s : Int) (hs : 0 ≤ s ∧ s ≤ 3) (st : Store) (R : AV → Store → Prop) (h : R (ydp g l c s) st) :
  ACalls Tryz.prog 80 [.agg (gndC g), lst 6 bldC l, int c, int s] st R := by
 have ha := zq hg
 refine ACalls.of_awp (c := cfg 34) zd Tryz.func80 (by rfl) (by rfl) (by rfl) (by rfl) ?_
 refine AWp.seq (AWp.of_vc zd ?_)
 refine AWp.seq (AWp.of_vc zd ?_)
 refine kh rfl (it := ti108) (ie := ti4) rfl rfl rfl rfl rfl (n := (rws u8C g.T).length) ?_ ?_ (fun b hf => ?_)
 ·rw [zh]; show 1 * _ ≤ _; omega
 ·rw [zh]; omega
 rw [zh, zgu]
 refine AWp.meetA (σ := Unit) ⟨fun _ => [(9, .av (blV b g.T.length))], fun _ => [], fun _ st' => st' = st.setObj b (.cells (bl g.T.length (zcr g l c s)))⟩ ?_ ?_
 ·refine AWp.of_vc zd ?_
  refine zou g hg l hl hb c _ _ ?_
  refine AWp.loop (σ := Nat) ⟨fun i => [(3, .av (int s)), (9, .av (blV b g.T.length)), (19, .av (ydc g l c)), (20, .av (int (g.T.length : Nat))), (21, .av (int (i : Nat)))], fun _ => [],
   fun i st' => i ≤ g.T.length ∧ st' = st.setObj b (.cells (bl g.T.length (zdy g l c s i))), fun i => g.T.length - i⟩ zd ?_ ?_
  ·refine ⟨0, trivial, ⟨Nat.zero_le _, ?_⟩, ⟨lr_ _, lr_ _, lr_ _, ?_, lr_ _, trivial⟩, trivial⟩
   ·rw [show zdy g l c s 0 = fun _ => false from funext fun t => if_neg (Nat.not_lt_zero t)]
   ·show LV.le (.av (int ((rws intC (ilL g.T.length (zdj g (ye g l c)))).length : Nat))) (.av (int (g.T.length : Nat)))
    rw [zh, zgb]; exact lr_ _
  rintro i st' ⟨hi, rfl⟩
  refine bcd (fun h1 => ?_) (fun h1 => ?_)
  rotate_left
  ·have : i = g.T.length := by omega
   subst this
   refine ⟨(), ?_, ⟨lr_ _, trivial⟩, trivial⟩
   show st.setObj b (.cells (bl g.T.length (zdy g l c s g.T.length))) = st.setObj b (.cells (bl g.T.length (zcr g l c s)))
   rw [zyr (f := zdy g l c s g.T.length) (g := zcr g l c s) fun t ht => if_pos ht]
  have hlt : i < g.T.length := by omega
  have ho : (st.setObj b (.cells (bl g.T.length (zdy g l c s i)))).obj b = some (.cells (bl g.T.length (zdy g l c s i))) := zb _ _ _
  have hlt2 : i < (ilL g.T.length (zdj g (ye g l c))).length := by rw [zgb]; exact hlt
  have s2 : ∀ q, q ≠ i → zdy g l c s (i + 1) q = zdy g l c s i q := fun q hq => by
   unfold zdy
   by_cases h3 : q < i
   ·rw [if_pos h3, if_pos (by omega)]
   ·rw [if_neg h3, if_neg (by omega)]
  have s1 : zdy g l c s (i + 1) i = zcr g l c s i := if_pos (by omega)
  refine ⟨i, rfl, za _ (zj hlt2) ?_⟩
  refine ⟨i, rfl, hlt, ?_⟩
  refine zv (i := ti4) (v := V.bool (decide (s < (ilL g.T.length (zdj g (ye g l c)))[i]))) (b := b) (o := 0 + i * 1) (l := _) (st2 := st.setObj b (.cells (bl g.T.length (zdy g l c s (i + 1))))) rfl rfl rfl ho (by rw [jt]; omega) ?_ ?_
  ·rw [zk, show 0 + i * 1 = i by omega, ← zcm hlt _ s2, s1, ycn hlt, zqe hg l c hs hlt]
  refine in64 (by omega) ?_
  refine ⟨i + 1, ?_, ⟨by omega, rfl⟩, ⟨lr_ _, lr_ _, lr_ _, lr_ _, lr_ _, trivial⟩, trivial⟩
  show g.T.length - (i + 1) < g.T.length - i
  omega
 rintro _ _ rfl
 refine AWp.freeze (d := 9) (b := b) (k := 1) (n := g.T.length) (cap := g.T.length) (rows := rws kg (blL g.T.length (zcr g l c s))) (pad := []) rfl ?_ ?_ ?_ (Nat.le_refl _) ?_ ?_ ?_
 ·rw [zap]; exact zb _ _ _
 ·exact hf.2
 ·rw [zh, ju]
 ·intro row hr
  obtain ⟨x, _, rfl⟩ := List.mem_map.1 hr
  rfl
 ·intro row hr y hy
  obtain ⟨x, _, rfl⟩ := List.mem_map.1 hr
  simp [kg] at hy
  exact ⟨_, hy, rfl⟩
 rw [jr hf.1]
 refine AWp.of_vc zd ?_
 exact ret h
/-- A net, in an object. -/
def netC (g : Gnd) (l : List Bld) (c s : Int) : List AV := gndC g ++ [int c, ydp g l c s]
theorem znc (g : Gnd) (hg : gndP g) (l : List Bld) (hl : l.length ≤ 1000000000000) (hb : ∀ b ∈ l, bldP b ∧ onP g b) (c s : Int) (hs : 0 ≤ s ∧ s ≤ 3) (st : Store) (R : AV → Store → Prop) (h : ∀ b, Fresh st b → R (ptr b) (st.setObj b (.cells (netC g l c s)))) :
  ACalls Tryz.prog 45 [.agg (gndC g), lst 6 bldC l, int c, int s] st R := by
 refine ACalls.of_body (c := cfg 18 [17] []) zd Tryz.func45 (by rfl) (by rfl) (by rfl) (by rfl) ?_
 refine ADraw.of_sched zd (by rfl) (by rfl) yb3 (by rfl) ?_
 refine ⟨zyc g hg l hl hb c s hs _ _ ⟨(by repeat (first | exact trivial | refine ⟨rfl, ?_⟩ | refine ⟨optR (optR (optR (za _ (zb _ _ _) rfl))), ?_⟩)), ?_⟩, trivial⟩
 refine ⟨fun b hf => ⟨(by repeat (first | exact trivial | refine ⟨rfl, ?_⟩ | refine ⟨optR (optR (optR (za _ (zb _ _ _) rfl))), ?_⟩)), ?_⟩, trivial⟩
 refine ⟨⟨trivial, ?_⟩, trivial⟩
 exact ret (h b hf)
end Go.Proofs
namespace Go.Proofs
open Go Go.V
end Go.Proofs
namespace Go.Proofs
open Go Go.V
theorem zps (i j : Int) : max2 (max2 (max2 i (0 - i)) j) (0 - j) = absM i j := by
 have e : ∀ a b : Int, max2 a b = max a b := fun a b => by
  unfold max2
  by_cases h : b > a
  ·rw [decide_eq_true h]; show b = _; omega
  ·rw [decide_eq_false h]; show a = _; omega
 rw [e, e, e]
 unfold absM
 omega
theorem zmk (g : Gnd) (x y k d j i : Int) : (jn g x y k d j i).length ≤ g.T.length := by
 have := List.length_filter_le (fun t => zoz g x y k d t && zra g x y j i t) (List.range g.T.length)
 rw [List.length_range] at this
 exact this
theorem ja (l : List Nat) : (natI l).length = l.length := List.length_map ..
set_option maxHeartbeats 1000000 in
theorem zox (g : Gnd) (hg : gndP g) (t : Nat) (ht : t < g.T.length) (d k : Int) (hd : 0 ≤ d ∧ d ≤ 300) (hk : 1 ≤ k ∧ k ≤ 7) (st : Store) (R : AV → Store → Prop) (h : R (ints (natI (zeh g ((t : Int) % g.W) ((t : Int) / g.W) k d))) st) :
  ACalls Tryz.prog 221 [.agg (gndC g), int t, int d, int k] st R := by
 have hm := zq hg
 have htb := w7 hg (t := t) (by omega)
 have hq := trem (t := t) hg.1.1
 have hq2 := tquo (t := t) hg.1.1
 have hg1 := hg.1
 have hg2 := hg.2.1
 generalize (t : Int) % g.W = x at *
 generalize (t : Int) / g.W = y at *
 refine ACalls.of_body (c := cfg 80) zd Tryz.func221 (by rfl) (by rfl) (by rfl) (by rfl) ?_
 refine ADraw.of_sched zd (by rfl) (by rfl) zv7 (by rfl) ?_
 refine ⟨by omega, ?_⟩
 refine ⟨by omega, ?_⟩
 refine in64 (by omega) ?_
 refine ⟨⟨(by repeat (first | exact trivial | refine ⟨rfl, ?_⟩ | refine ⟨optR (optR (optR (za _ (zb _ _ _) rfl))), ?_⟩)), ?_⟩, trivial⟩
 refine ⟨⟨trivial, ?_⟩, trivial⟩
 refine in64 (by omega) ?_
 refine AWp.loop (σ := Nat × AV) ⟨fun s => [(2, .av (int d)), (3, .av (int k)), (4, .bx 4 0), (8, .av s.2), (9, .av (int x)), (10, .av (int y)), (11, .av (int ((s.1 : Nat) - d)))], fun _ => [(4, gndC g)],
  fun s st' => (s.1 : Int) ≤ 2 * d + 1 ∧ App 1 st s.2 (rws intC (natI (jn g x y k d ((s.1 : Nat) - d) (-d)))) st', fun s => 700 - s.1⟩ zd ?_ ?_
 ·refine ⟨(0, _), trivial, ⟨by dsimp only; omega, ?_⟩, ⟨lr_ _, lr_ _, lr_ _, lr_ _, ?_, ?_, ?_, trivial⟩, ⟨rfl, trivial⟩⟩
  ·dsimp only
   rw [show ((0 : Nat) : Int) - d = -d by omega, zho]
   exact App.start 1 st
  ·rw [← hq]; exact lr_ _
  ·rw [← hq2]; exact lr_ _
  ·dsimp only
   rw [show ((0 : Nat) : Int) - d = 0 - d by omega]; exact lr_ _
 rintro ⟨a, v⟩ st' ⟨ha, hap⟩
 dsimp only at ha hap ⊢
 refine bcd (fun h1 => ?_) (fun h1 => ?_)
 rotate_left
 ·rw [show (a : Int) - d = d + 1 by omega, zml] at hap
  exact ⟨_, st, AV.le_trans hap.le (ar_ _), hap.has, h⟩
 refine in64 (by omega) ?_
 have hj : ∃ j : Int, (a : Int) - d = j := ⟨_, rfl⟩
 obtain ⟨j, hj⟩ := hj
 rw [hj] at hap h1 ⊢
 refine AWp.loop (σ := Nat × AV) ⟨fun s => [(2, .av (int d)), (3, .av (int k)), (4, .bx 4 0), (8, .av s.2), (9, .av (int x)), (10, .av (int y)), (11, .av (int j)), (12, .av (int ((s.1 : Nat) - d)))], fun _ => [(4, gndC g)],
  fun s st' => (s.1 : Int) ≤ 2 * d + 1 ∧ App 1 st s.2 (rws intC (natI (jn g x y k d j ((s.1 : Nat) - d)))) st', fun s => 700 - s.1⟩ zd ?_ ?_
 ·refine ⟨(0, v), trivial, ⟨by dsimp only; omega, ?_⟩, ⟨lr_ _, lr_ _, lr_ _, lr_ _, lr_ _, lr_ _, lr_ _, ?_, trivial⟩, ⟨rfl, trivial⟩⟩
  ·dsimp only
   rw [show ((0 : Nat) : Int) - d = -d by omega]
   exact hap
  ·dsimp only
   rw [show ((0 : Nat) : Int) - d = 0 - d by omega]; exact lr_ _
 rintro ⟨b, v2⟩ st2 ⟨hb, hap2⟩
 dsimp only at hb hap2 ⊢
 have hi : ∃ i : Int, (b : Int) - d = i := ⟨_, rfl⟩
 obtain ⟨i, hi⟩ := hi
 rw [hi] at hap2 ⊢
 refine bcd (fun h2 => ?_) (fun h2 => ?_)
 rotate_left
 ·rw [show i = d + 1 by omega, zmj] at hap2
  refine in64 (by omega) ?_
  refine ⟨(a + 1, v2), ?_, ⟨by dsimp only; omega, ?_⟩, ⟨lr_ _, lr_ _, lr_ _, lr_ _, lr_ _, lr_ _, ?_, trivial⟩, ⟨rfl, trivial⟩⟩
  ·show 700 - (a + 1) < 700 - a
   omega
  ·dsimp only
   rw [show ((a + 1 : Nat) : Int) - d = j + 1 by omega]
   exact hap2
  ·dsimp only
   rw [show ((a + 1 : Nat) : Int) - d = j + 1 by omega]; exact lr_ _
 have next : ∀ v3 st3, App 1 st v3 (rws intC (natI (jn g x y k d j (i + 1)))) st3 → ∃ s : Nat × AV, 700 - s.1 < 700 - b ∧ ((s.1 : Int) ≤ 2 * d + 1 ∧ App 1 st s.2 (rws intC (natI (jn g x y k d j ((s.1 : Nat) - d)))) st3) ∧ s = (b + 1, v3) ∧ ((s.1 : Nat) : Int) - d = i + 1 := fun v3 st3 h3 =>
  ⟨(b + 1, v3), by dsimp only; omega, ⟨by dsimp only; omega, by dsimp only; rw [show ((b + 1 : Nat) : Int) - d = i + 1 by omega]; exact h3⟩, rfl, by dsimp only; omega⟩
 have no : ¬ (absM i j = d ∧ i.tmod k = 0 ∧ j.tmod k = 0 ∧ onG g (x + i) (y + j)) → App 1 st v2 (rws intC (natI (jn g x y k d j (i + 1)))) st2 := fun hn => by
  rw [zoy hg hn]; exact hap2
 refine in64 (by omega) ?_
 refine in64 (by omega) ?_
 refine bceq (fun c1 => ?_) (fun c1 => ?_)
 rotate_left
 ·have c1 : ¬ absM i j = d := fun e => c1 ((zps i j).trans e)
  obtain ⟨s, f1, f2, rfl, f3⟩ := next v2 st2 (no fun hh => c1 hh.1)
  refine in64 (by omega) ?_
  exact ⟨(b + 1, v2), f1, f2, ⟨lr_ _, lr_ _, lr_ _, lr_ _, lr_ _, lr_ _, lr_ _, by dsimp only at f3 ⊢; rw [f3]; exact lr_ _, trivial⟩, ⟨rfl, trivial⟩⟩
 have c1 : absM i j = d := (zps i j).symm.trans c1
 refine ⟨by omega, ?_⟩
 refine bceq (fun c2 => ?_) (fun c2 => ?_)
 rotate_left
 ·obtain ⟨s, f1, f2, rfl, f3⟩ := next v2 st2 (no fun hh => c2 hh.2.1)
  refine in64 (by omega) ?_
  exact ⟨(b + 1, v2), f1, f2, ⟨lr_ _, lr_ _, lr_ _, lr_ _, lr_ _, lr_ _, lr_ _, by dsimp only at f3 ⊢; rw [f3]; exact lr_ _, trivial⟩, ⟨rfl, trivial⟩⟩
 refine ⟨by omega, ?_⟩
 refine bceq (fun c3 => ?_) (fun c3 => ?_)
 rotate_left
 ·obtain ⟨s, f1, f2, rfl, f3⟩ := next v2 st2 (no fun hh => c3 hh.2.2.1)
  refine in64 (by omega) ?_
  exact ⟨(b + 1, v2), f1, f2, ⟨lr_ _, lr_ _, lr_ _, lr_ _, lr_ _, lr_ _, lr_ _, by dsimp only at f3 ⊢; rw [f3]; exact lr_ _, trivial⟩, ⟨rfl, trivial⟩⟩
 refine in64 (by omega) ?_
 refine in64 (by omega) ?_
 refine zpd g (x + i) (y + j) _ _ (fun z hz => ?_)
 refine ze (fun c4 => ?_) (fun c4 => ?_)
 rotate_left
 ·obtain ⟨s, f1, f2, rfl, f3⟩ := next v2 st2 (no fun hh => by have := hz.2 hh.2.2.2; rw [this] at c4; cases c4)
  refine in64 (by omega) ?_
  exact ⟨(b + 1, v2), f1, f2, ⟨lr_ _, lr_ _, lr_ _, lr_ _, lr_ _, lr_ _, lr_ _, by dsimp only at f3 ⊢; rw [f3]; exact lr_ _, trivial⟩, ⟨rfl, trivial⟩⟩
 have hon := hz.1 c4
 obtain ⟨e1, e2, _, _⟩ := x9 hg hon
 have hon2 := hon
 unfold onG at hon2
 have hpos : 0 ≤ g.W * (y + j) := Int.mul_nonneg (by omega) (by omega)
 have hrl := zmk g x y k d j i
 refine in64 (by omega) ?_
 refine in64 (by omega) ?_
 refine in64 (by omega) ?_
 refine in64 (by omega) ?_
 refine ⟨by decide, ?_⟩
 refine qh (ie := ti3) (rows' := [intC (x + i + g.W * (y + j))]) hap2 ?_ ?_ ⟨?_, ?_⟩ (fun v3 st3 h3 => ?_)
 ·rfl
 ·rfl
 ·simp only [zh, ja, List.length_singleton, ti3]; omega
 ·simp only [zh, ja, List.length_singleton]; omega
 obtain ⟨s, f1, f2, rfl, f3⟩ := next v3 st3 (by
  rw [zmi hg hon c1 c2 c3, zlc, ← zoq, show natI [tl g (x + i) (y + j)] = [x + i + g.W * (y + j)] by unfold natI; rw [List.map_cons, e1]; rfl]
  exact h3)
 refine in64 (by omega) ?_
 exact ⟨(b + 1, v3), f1, f2, ⟨lr_ _, lr_ _, lr_ _, lr_ _, lr_ _, lr_ _, lr_ _, by dsimp only at f3 ⊢; rw [f3]; exact lr_ _, trivial⟩, ⟨rfl, trivial⟩⟩
end Go.Proofs
