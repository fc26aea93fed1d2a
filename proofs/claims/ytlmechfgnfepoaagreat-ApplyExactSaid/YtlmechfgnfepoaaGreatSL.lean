/- The ground on which laws of thronglaw23 are proved: contracts of functions and plain lemmas; no condition beyond the row's own. -/
import Derived.Test.YtlmechfgnfepoaaGreatSK
import Derived.Test.YtlmechfgnfepoaaGreatSF
set_option linter.unusedSimpArgs false
set_option linter.unusedVariables false
namespace Go.Proofs
open Go Go.V
set_option maxRecDepth 20000 in
theorem zsu (g : Gnd) (x y : Int) (st : Store) (R : AV → Store → Prop) (h : ∀ z : Bool, (z = true ↔ onG g x y) → R (bool z) st) : ACalls Tryz.prog 208 [.agg (gndC g), int x, int y] st R := by
 refine ACalls.of_body (c := cfg 25) ze Tryz.func208 (by rfl) (by rfl) (by rfl) (by rfl) ?_
 repeat' (first | refine bcd (fun _ => ?_) (fun _ => ?_) | refine zd (fun _ => ?_) (fun _ => ?_) | refine in64 (by omega) ?_ | fail)
 all_goals
  refine ret (h _ ?_)
  unfold onG
  simp only [decide_eq_true_eq, decide_eq_false_iff_not, Bool.false_eq_true, false_iff, true_iff, beq_iff_eq, bne_iff_ne, beq_eq_false_iff_ne, ne_eq, reduceCtorEq] at *
  omega
theorem min2_eq (a b : Int) : min2 a b = min a b := by
 unfold min2
 by_cases h : b < a
 ·rw [decide_eq_true h]; show b = _; omega
 ·rw [decide_eq_false h]; show a = _; omega
theorem zkc (g : Gnd) (hg : gndP g) (f : Nat → Int) (hf : ∀ t, t < g.T.length → 0 ≤ f t ∧ f t ≤ 128) (t : Nat) (ht : t < g.T.length) (ws : List (Int × Int)) (hw : ∀ d ∈ ws, (d.1 ≠ 0 ∨ d.2 ≠ 0) ∧ (-1 ≤ d.1 ∧ d.1 ≤ 1) ∧ (-1 ≤ d.2 ∧ d.2 ≤ 1)) (hwl : ws.length ≤ 100) (b : Nat) (st : Store) (R : AV → Store → Prop)
  (h : R (.tup []) (st.setObj b (.cells (il g.T.length (zgr g f ws t))))) : ACalls Tryz.prog 176 [.agg (gndC g), blV b g.T.length, int t, lst 2 wayC ws] (st.setObj b (.cells (il g.T.length f))) R := by
 have hm := zt hg
 have htb := vp hg (t := t) (by omega)
 have hq := trem (t := t) hg.1.1
 have hq2 := tquo (t := t) hg.1.1
 have hg1 := hg.1
 have hg2 := hg.2.1
 unfold zgr at h
 have hx : ∃ x, x = (t : Int) % g.W := ⟨_, rfl⟩
 have hy : ∃ y, y = (t : Int) / g.W := ⟨_, rfl⟩
 obtain ⟨x, hx⟩ := hx
 obtain ⟨y, hy⟩ := hy
 rw [← hx, ← hy] at h htb
 rw [← hx] at hq
 rw [← hy] at hq2
 refine ACalls.of_body (c := cfg 63) ze Tryz.func176 (by rfl) (by rfl) (by rfl) (by rfl) ?_
 refine ADraw.of_sched ze (by rfl) (by rfl) yaa (by rfl) ?_
 refine ⟨by omega, ?_⟩
 refine ⟨by omega, ?_⟩
 refine in64 (by omega) ?_
 refine ⟨⟨(by repeat (first | exact trivial | refine ⟨rfl, ?_⟩ | refine ⟨optR (optR (optR (za _ (zb _ _ _) rfl))), ?_⟩)), ?_⟩, trivial⟩
 refine ⟨⟨trivial, ?_⟩, trivial⟩
 refine AWp.loop (σ := Nat) ⟨fun i => [(1, .av (blV b g.T.length)), (2, .av (int (t : Nat))), (4, .bx 4 0), (8, .av (int x)), (9, .av (int y)), (21, .av (lst 2 wayC ws)), (22, .av (int (ws.length : Nat))), (23, .av (int (i : Nat)))], fun _ => [(4, gndC g)],
  fun i st' => i ≤ ws.length ∧ st' = st.setObj b (.cells (il g.T.length (setI f t (wt g f x y (f t) (ws.take i))))), fun i => ws.length - i⟩ ze ?_ ?_
 ·refine ⟨0, trivial, ⟨Nat.zero_le _, ?_⟩, ⟨lr_ _, lr_ _, lr_ _, ?_, ?_, lr_ _, ?_, lr_ _, trivial⟩, ⟨rfl, trivial⟩⟩
  ·rw [List.take_zero]
   show _ = st.setObj b (.cells (il g.T.length (setI f t (f t))))
   rw [yfy]
  ·rw [← hq]; exact lr_ _
  ·rw [← hq2]; exact lr_ _
  ·rw [← zf (f := wayC) ws]; exact lr_ _
 rintro i st' ⟨hi, rfl⟩
 refine bcd (fun h1 => ?_) (fun h1 => ?_)
 rotate_left
 ·have : i = ws.length := by omega
  subst this
  rw [List.take_length]
  exact ret h
 have hlt : i < ws.length := by omega
 have hd := hw _ (List.getElem_mem hlt)
 have hv := zmv hg hf x y (ws.take i) (f t) (hf t ht)
 have hsn := zp7 g f x y (f t) ws hlt
 have hgs := yhd hg f (t := t) (wt g f x y (f t) (ws.take i)) hd.1
 rw [← hx, ← hy] at hgs
 generalize hV : wt g f x y (f t) (ws.take i) = V0 at *
 have ho : (st.setObj b (.cells (il g.T.length (setI f t V0)))).obj b = some (.cells (il g.T.length (setI f t V0))) := zb _ _ _
 refine ⟨i, rfl, za _ (zi hlt) ?_⟩
 refine ⟨0, rfl, by decide, ?_⟩
 refine in64 (by omega) ?_
 refine ⟨1, rfl, by decide, ?_⟩
 refine in64 (by omega) ?_
 refine zsu g (x + ws[i].1) (y + ws[i].2) _ _ (fun z hz => ?_)
 have hgv := gv_b hg hf (x + ws[i].1) (y + ws[i].2)
 have fin : min V0 (gv g f (x + ws[i].1) (y + ws[i].2) + 1) = wt g f x y (f t) (ws.take (i + 1)) := hsn.symm
 refine zd (fun c1 => ?_) (fun c1 => ?_)
 ·have hon := hz.1 c1
  obtain ⟨e1, e2, e3, e4⟩ := xg hg hon
  have hpos : 0 ≤ g.W * (y + ws[i].2) := Int.mul_nonneg (by omega) (by have := hon.2.1; omega)
  have hval : setI f t V0 (tl g (x + ws[i].1) (y + ws[i].2)) = gv g f (x + ws[i].1) (y + ws[i].2) := by
   rw [← hgs]; unfold gv; rw [if_pos hon]
  refine ⟨0, rfl, by decide, ?_⟩
  refine in64 (by omega) ?_
  refine ⟨1, rfl, by decide, ?_⟩
  refine in64 (by omega) ?_
  refine in64 (by omega) ?_
  refine in64 (by omega) ?_
  refine ⟨tl g (x + ws[i].1) (y + ws[i].2), e1.symm, e2, ?_⟩
  refine za _ ho (za _ (zim e2) ?_)
  rw [hval]
  refine ⟨t, rfl, ht, ?_⟩
  refine za _ ho (za _ (zim ht) ?_)
  rw [vt]
  refine in64 (by omega) ?_
  refine ⟨t, rfl, ht, ?_⟩
  refine zr (i := ti3) (v := int (min2 V0 (gv g f (x + ws[i].1) (y + ws[i].2) + 1))) (b := b) (o := 0 + t * 1) (l := il g.T.length (setI f t V0)) (st2 := st.setObj b (.cells (il g.T.length (setI f t (wt g f x y (f t) (ws.take (i + 1))))))) rfl rfl rfl ho (by rw [zaf]; omega) ?_ ?_
  ·rw [zl, show 0 + t * 1 = t by omega, ztk ht, zjw, min2_eq, fin]
  refine in64 (by omega) ?_
  refine ⟨i + 1, ?_, ⟨by omega, rfl⟩, ⟨lr_ _, lr_ _, lr_ _, lr_ _, lr_ _, lr_ _, lr_ _, lr_ _, trivial⟩, ⟨rfl, trivial⟩⟩
  show ws.length - (i + 1) < ws.length - i
  omega
 ·have hoff : ¬ onG g (x + ws[i].1) (y + ws[i].2) := fun hh => by have := hz.2 hh; rw [this] at c1; cases c1
  have hz0 : gv g f (x + ws[i].1) (y + ws[i].2) = 0 := if_neg hoff
  rw [hz0] at fin
  refine ⟨t, rfl, ht, ?_⟩
  refine za _ ho (za _ (zim ht) ?_)
  rw [vt]
  refine in64 (by omega) ?_
  refine ⟨t, rfl, ht, ?_⟩
  refine zr (i := ti3) (v := int (min2 V0 (0 + 1))) (b := b) (o := 0 + t * 1) (l := il g.T.length (setI f t V0)) (st2 := st.setObj b (.cells (il g.T.length (setI f t (wt g f x y (f t) (ws.take (i + 1))))))) rfl rfl rfl ho (by rw [zaf]; omega) ?_ ?_
  ·rw [zl, show 0 + t * 1 = t by omega, ztk ht, zjw, min2_eq, fin]
  refine in64 (by omega) ?_
  refine ⟨i + 1, ?_, ⟨by omega, rfl⟩, ⟨lr_ _, lr_ _, lr_ _, lr_ _, lr_ _, lr_ _, lr_ _, lr_ _, trivial⟩, ⟨rfl, trivial⟩⟩
  show ws.length - (i + 1) < ws.length - i
  omega
end Go.Proofs
namespace Go.Proofs
open Go Go.V
def zbn (o : Nat → Bool) (t : Nat) : Int := if o t then 128 else 0
def wl (o : Nat → Bool) (i t : Nat) : Int := if t < i then zbn o t else 0
theorem zss (o : Nat → Bool) (n : Nat) : ∀ t, t < n → 0 ≤ zbn o t ∧ zbn o t ≤ 128 := fun t _ => by unfold zbn; split <;> decide
def yh9 (g : Gnd) (l : List Bld) (c : Int) : AV := lst 1 intC (ilL g.T.length (ze7 g (yh g l c)))
theorem zsc (g : Gnd) (hg : gndP g) (l : List Bld) (hl : l.length ≤ 1000000000000) (hb : ∀ b ∈ l, bldP b ∧ onP g b) (c : Int) (st : Store) (R : AV → Store → Prop) (h : R (yh9 g l c) st) :
  ACalls Tryz.prog 125 [.agg (gndC g), lst 6 bldC l, int c] st R := by
 have ha := zt hg
 have fwd_ok : ∀ d ∈ fwdW, (d.1 ≠ 0 ∨ d.2 ≠ 0) ∧ (-1 ≤ d.1 ∧ d.1 ≤ 1) ∧ (-1 ≤ d.2 ∧ d.2 ≤ 1) := by decide
 have bwd_ok : ∀ d ∈ bwdW, (d.1 ≠ 0 ∨ d.2 ≠ 0) ∧ (-1 ≤ d.1 ∧ d.1 ≤ 1) ∧ (-1 ≤ d.2 ∧ d.2 ≤ 1) := by decide
 refine ACalls.of_awp (c := cfg 63) ze Tryz.func125 (by rfl) (by rfl) (by rfl) (by rfl) ?_
 refine AWp.seq (AWp.of_vc ze ?_)
 refine AWp.seq (AWp.of_vc ze ?_)
 refine j3 rfl (it := ti36) (ie := ti3) rfl rfl rfl rfl rfl (n := (rws u8C g.T).length) ?_ ?_ (fun b hf => ?_)
 ·rw [zf]; show 8 * _ ≤ _; omega
 ·rw [zf]; omega
 rw [zf, zti]
 refine AWp.meetA (σ := Unit) ⟨fun _ => [(3, .bx 3 0), (7, .av (blV b g.T.length))], fun _ => [(3, gndC g)], fun _ st' => st' = st.setObj b (.cells (il g.T.length (zbn (yh g l c))))⟩ ?_ ?_
 ·refine AWp.of_vc ze ?_
  refine x4 g hg l hl hb c _ _ ?_
  refine AWp.loop (σ := Nat) ⟨fun i => [(3, .bx 3 0), (7, .av (blV b g.T.length)), (19, .av (opV g l c)), (20, .av (int (g.T.length : Nat))), (21, .av (int (i : Nat)))], fun _ => [(3, gndC g)],
   fun i st' => i ≤ g.T.length ∧ st' = st.setObj b (.cells (il g.T.length (wl (yh g l c) i))), fun i => g.T.length - i⟩ ze ?_ ?_
  ·refine ⟨0, trivial, ⟨Nat.zero_le _, ?_⟩, ⟨lr_ _, lr_ _, lr_ _, ?_, lr_ _, trivial⟩, ⟨rfl, trivial⟩⟩
   ·rw [show wl (yh g l c) 0 = fun _ => 0 from funext fun t => if_neg (Nat.not_lt_zero t)]
   ·show LV.le (.av (int ((rws je (blL g.T.length (yh g l c))).length : Nat))) (.av (int (g.T.length : Nat)))
    rw [zf, yz]; exact lr_ _
  rintro i st' ⟨hi, rfl⟩
  refine bcd (fun h1 => ?_) (fun h1 => ?_)
  rotate_left
  ·have : i = g.T.length := by omega
   subst this
   refine ⟨(), ?_, ⟨lr_ _, lr_ _, trivial⟩, ⟨rfl, trivial⟩⟩
   show st.setObj b (.cells (il g.T.length (wl (yh g l c) g.T.length))) = st.setObj b (.cells (il g.T.length (zbn (yh g l c))))
   rw [yb3 (f := wl (yh g l c) g.T.length) (g := zbn (yh g l c)) fun t ht => if_pos ht]
  have hlt : i < g.T.length := by omega
  have ho : (st.setObj b (.cells (il g.T.length (wl (yh g l c) i)))).obj b = some (.cells (il g.T.length (wl (yh g l c) i))) := zb _ _ _
  have hlt2 : i < (blL g.T.length (yh g l c)).length := by rw [yz]; exact hlt
  have s2 : ∀ s, s ≠ i → wl (yh g l c) (i + 1) s = wl (yh g l c) i s := fun s hs => by
   unfold wl
   by_cases h3 : s < i
   ·rw [if_pos h3, if_pos (by omega)]
   ·rw [if_neg h3, if_neg (by omega)]
  have s1 : wl (yh g l c) (i + 1) i = zbn (yh g l c) i := if_pos (by omega)
  refine ⟨i, rfl, za _ (zi hlt2) ?_⟩
  refine zd (fun c1 => ?_) (fun c1 => ?_)
  ·rw [zdf hlt] at c1
   refine ⟨i, rfl, hlt, ?_⟩
   refine zr (i := ti3) (v := int 128) (b := b) (o := 0 + i * 1) (l := _) (st2 := st.setObj b (.cells (il g.T.length (wl (yh g l c) (i + 1))))) rfl rfl rfl ho (by rw [zaf]; omega) ?_ ?_
   ·rw [zl, show 0 + i * 1 = i by omega, ← ztj hlt _ s2, s1]
    unfold zbn
    rw [if_pos c1]
   refine in64 (by omega) ?_
   refine ⟨i + 1, ?_, ⟨by omega, rfl⟩, ⟨lr_ _, lr_ _, lr_ _, lr_ _, lr_ _, trivial⟩, ⟨rfl, trivial⟩⟩
   show g.T.length - (i + 1) < g.T.length - i
   omega
  ·rw [zdf hlt] at c1
   refine in64 (by omega) ?_
   refine ⟨i + 1, ?_, ⟨by omega, ?_⟩, ⟨lr_ _, lr_ _, lr_ _, lr_ _, lr_ _, trivial⟩, ⟨rfl, trivial⟩⟩
   ·show g.T.length - (i + 1) < g.T.length - i
    omega
   ·refine congrArg (fun f => st.setObj b (.cells (il g.T.length f))) (funext fun s => ?_)
    by_cases h3 : s = i
    ·subst h3
     rw [s1]
     unfold zbn wl
     rw [if_neg (by omega), if_neg (by rw [c1]; decide)]
    ·exact (s2 s h3).symm
 rintro _ _ rfl
 refine AWp.meetA (σ := Unit) ⟨fun _ => [(3, .bx 3 0), (7, .av (blV b g.T.length))], fun _ => [(3, gndC g)], fun _ st' => st' = st.setObj b (.cells (il g.T.length (jh g (zbn (yh g l c)) g.T.length)))⟩ ?_ ?_
 ·refine AWp.of_vc ze ?_
  refine AWp.loop (σ := Nat) ⟨fun i => [(3, .bx 3 0), (7, .av (blV b g.T.length)), (32, .av (int (g.T.length : Nat))), (33, .av (int (i : Nat)))], fun _ => [(3, gndC g)],
   fun i st' => i ≤ g.T.length ∧ st' = st.setObj b (.cells (il g.T.length (jh g (zbn (yh g l c)) i))), fun i => g.T.length - i⟩ ze ?_ ?_
  ·exact ⟨0, trivial, ⟨Nat.zero_le _, rfl⟩, ⟨lr_ _, lr_ _, lr_ _, lr_ _, trivial⟩, ⟨rfl, trivial⟩⟩
  rintro i st' ⟨hi, rfl⟩
  refine bcd (fun h1 => ?_) (fun h1 => ?_)
  rotate_left
  ·have : i = g.T.length := by omega
   subst this
   exact ⟨(), rfl, ⟨lr_ _, lr_ _, trivial⟩, ⟨rfl, trivial⟩⟩
  have hlt : i < g.T.length := by omega
  refine ⟨by decide, ?_⟩
  refine zkc g hg (jh g (zbn (yh g l c)) i) (zh3 hg (zss _ _) i hi) i hlt fwdW fwd_ok (by decide) b _ _ ?_
  refine in64 (by omega) ?_
  refine ⟨i + 1, ?_, ⟨by omega, rfl⟩, ⟨lr_ _, lr_ _, lr_ _, lr_ _, trivial⟩, ⟨rfl, trivial⟩⟩
  show g.T.length - (i + 1) < g.T.length - i
  omega
 rintro _ _ rfl
 have hbA := zh3 hg (zss (yh g l c) g.T.length) g.T.length (Nat.le_refl _)
 have hroom : ze7 g (yh g l c) = vh g (jh g (zbn (yh g l c)) g.T.length) g.T.length g.T.length := rfl
 generalize jh g (zbn (yh g l c)) g.T.length = FA at *
 refine AWp.meetA (σ := Unit) ⟨fun _ => [(7, .av (blV b g.T.length))], fun _ => [], fun _ st' => st' = st.setObj b (.cells (il g.T.length (ze7 g (yh g l c))))⟩ ?_ ?_
 ·refine AWp.of_vc ze ?_
  refine in64 (by omega) ?_
  refine AWp.loop (σ := Nat) ⟨fun j => [(3, .bx 3 0), (7, .av (blV b g.T.length)), (11, .av (int ((g.T.length : Int) - 1 - (j : Nat))))], fun _ => [(3, gndC g)],
   fun j st' => j ≤ g.T.length ∧ st' = st.setObj b (.cells (il g.T.length (vh g FA g.T.length j))), fun j => g.T.length - j⟩ ze ?_ ?_
  ·refine ⟨0, trivial, ⟨Nat.zero_le _, rfl⟩, ⟨lr_ _, lr_ _, ?_, trivial⟩, ⟨rfl, trivial⟩⟩
   rw [show (g.T.length : Int) - 1 - ((0 : Nat) : Int) = (g.T.length : Int) - 1 by omega]; exact lr_ _
  rintro j st' ⟨hj, rfl⟩
  refine bcd (fun h1 => ?_) (fun h1 => ?_)
  rotate_left
  ·have : j = g.T.length := by omega
   subst this
   exact ⟨(), by rw [hroom], ⟨lr_ _, trivial⟩, trivial⟩
  have hlt : j < g.T.length := by omega
  refine ⟨by decide, ?_⟩
  refine ACalls.le (ys := [.agg (gndC g), blV b g.T.length, int ((g.T.length - 1 - j : Nat) : Int), lst 2 wayC bwdW]) ⟨ar_ _, ar_ _, by rw [show (g.T.length : Int) - 1 - (j : Int) = ((g.T.length - 1 - j : Nat) : Int) by omega]; exact ar_ _, ar_ _, trivial⟩ ?_
  refine zkc g hg (vh g FA g.T.length j) (zn0 hg hbA j hj) (g.T.length - 1 - j) (by omega) bwdW bwd_ok (by decide) b _ _ ?_
  refine in64 (by omega) ?_
  refine ⟨j + 1, ?_, ⟨by omega, rfl⟩, ⟨lr_ _, lr_ _, ?_, trivial⟩, ⟨rfl, trivial⟩⟩
  ·show g.T.length - (j + 1) < g.T.length - j
   omega
  ·rw [show (g.T.length : Int) - 1 - ((j + 1 : Nat) : Int) = (g.T.length : Int) - 1 - (j : Nat) - 1 by omega]; exact lr_ _
 rintro _ _ rfl
 refine AWp.freeze (d := 7) (b := b) (k := 1) (n := g.T.length) (cap := g.T.length) (rows := rws intC (ilL g.T.length (ze7 g (yh g l c)))) (pad := []) rfl ?_ ?_ ?_ (Nat.le_refl _) ?_ ?_ ?_
 ·rw [List.append_nil, ztl]; exact zb _ _ _
 ·exact hf.2
 ·rw [zf, ku]
 ·intro row hr
  obtain ⟨x, _, rfl⟩ := List.mem_map.1 hr
  rfl
 ·intro row hr y hy
  obtain ⟨x, _, rfl⟩ := List.mem_map.1 hr
  simp [intC] at hy
  exact ⟨_, hy, rfl⟩
 rw [x3 hf.1]
 refine AWp.of_vc ze ?_
 exact ret h
end Go.Proofs
namespace Go.Proofs
open Go Go.V
def vd (g : Gnd) (l : List Bld) (c s : Int) (i t : Nat) : Bool := if t < i then jr g l c s t else false
theorem ycc (g : Gnd) (hg : gndP g) (l : List Bld) (hl : l.length ≤ 1000000000000) (hb : ∀ b ∈ l, bldP b ∧ onP g b) (c s : Int) (hs : 0 ≤ s ∧ s ≤ 3) (st : Store) (R : AV → Store → Prop) (h : R (yb7 g l c s) st) :
  ACalls Tryz.prog 80 [.agg (gndC g), lst 6 bldC l, int c, int s] st R := by
 have ha := zt hg
 refine ACalls.of_awp (c := cfg 34) ze Tryz.func80 (by rfl) (by rfl) (by rfl) (by rfl) ?_
 refine AWp.seq (AWp.of_vc ze ?_)
 refine AWp.seq (AWp.of_vc ze ?_)
 refine j3 rfl (it := ti108) (ie := ti4) rfl rfl rfl rfl rfl (n := (rws u8C g.T).length) ?_ ?_ (fun b hf => ?_)
 ·rw [zf]; show 1 * _ ≤ _; omega
 ·rw [zf]; omega
 rw [zf, zde]
 refine AWp.meetA (σ := Unit) ⟨fun _ => [(9, .av (blV b g.T.length))], fun _ => [], fun _ st' => st' = st.setObj b (.cells (bl g.T.length (jr g l c s)))⟩ ?_ ?_
 ·refine AWp.of_vc ze ?_
  refine zsc g hg l hl hb c _ _ ?_
  refine AWp.loop (σ := Nat) ⟨fun i => [(3, .av (int s)), (9, .av (blV b g.T.length)), (19, .av (yh9 g l c)), (20, .av (int (g.T.length : Nat))), (21, .av (int (i : Nat)))], fun _ => [],
   fun i st' => i ≤ g.T.length ∧ st' = st.setObj b (.cells (bl g.T.length (vd g l c s i))), fun i => g.T.length - i⟩ ze ?_ ?_
  ·refine ⟨0, trivial, ⟨Nat.zero_le _, ?_⟩, ⟨lr_ _, lr_ _, lr_ _, ?_, lr_ _, trivial⟩, trivial⟩
   ·rw [show vd g l c s 0 = fun _ => false from funext fun t => if_neg (Nat.not_lt_zero t)]
   ·show LV.le (.av (int ((rws intC (ilL g.T.length (ze7 g (yh g l c)))).length : Nat))) (.av (int (g.T.length : Nat)))
    rw [zf, ku]; exact lr_ _
  rintro i st' ⟨hi, rfl⟩
  refine bcd (fun h1 => ?_) (fun h1 => ?_)
  rotate_left
  ·have : i = g.T.length := by omega
   subst this
   refine ⟨(), ?_, ⟨lr_ _, trivial⟩, trivial⟩
   show st.setObj b (.cells (bl g.T.length (vd g l c s g.T.length))) = st.setObj b (.cells (bl g.T.length (jr g l c s)))
   rw [zi5 (f := vd g l c s g.T.length) (g := jr g l c s) fun t ht => if_pos ht]
  have hlt : i < g.T.length := by omega
  have ho : (st.setObj b (.cells (bl g.T.length (vd g l c s i)))).obj b = some (.cells (bl g.T.length (vd g l c s i))) := zb _ _ _
  have hlt2 : i < (ilL g.T.length (ze7 g (yh g l c))).length := by rw [ku]; exact hlt
  have s2 : ∀ q, q ≠ i → vd g l c s (i + 1) q = vd g l c s i q := fun q hq => by
   unfold vd
   by_cases h3 : q < i
   ·rw [if_pos h3, if_pos (by omega)]
   ·rw [if_neg h3, if_neg (by omega)]
  have s1 : vd g l c s (i + 1) i = jr g l c s i := if_pos (by omega)
  refine ⟨i, rfl, za _ (zi hlt2) ?_⟩
  refine ⟨i, rfl, hlt, ?_⟩
  refine zr (i := ti4) (v := V.bool (decide (s < (ilL g.T.length (ze7 g (yh g l c)))[i]))) (b := b) (o := 0 + i * 1) (l := _) (st2 := st.setObj b (.cells (bl g.T.length (vd g l c s (i + 1))))) rfl rfl rfl ho (by rw [jf]; omega) ?_ ?_
  ·rw [zl, show 0 + i * 1 = i by omega, ← zbf hlt _ s2, s1, ztm hlt, ztu hg l c hs hlt]
  refine in64 (by omega) ?_
  refine ⟨i + 1, ?_, ⟨by omega, rfl⟩, ⟨lr_ _, lr_ _, lr_ _, lr_ _, lr_ _, trivial⟩, trivial⟩
  show g.T.length - (i + 1) < g.T.length - i
  omega
 rintro _ _ rfl
 refine AWp.freeze (d := 9) (b := b) (k := 1) (n := g.T.length) (cap := g.T.length) (rows := rws je (blL g.T.length (jr g l c s))) (pad := []) rfl ?_ ?_ ?_ (Nat.le_refl _) ?_ ?_ ?_
 ·rw [kq]; exact zb _ _ _
 ·exact hf.2
 ·rw [zf, yz]
 ·intro row hr
  obtain ⟨x, _, rfl⟩ := List.mem_map.1 hr
  rfl
 ·intro row hr y hy
  obtain ⟨x, _, rfl⟩ := List.mem_map.1 hr
  simp [je] at hy
  exact ⟨_, hy, rfl⟩
 rw [x3 hf.1]
 refine AWp.of_vc ze ?_
 exact ret h
/-- A net, in an object. -/
def netC (g : Gnd) (l : List Bld) (c s : Int) : List AV := gndC g ++ [int c, yb7 g l c s]
theorem zqt (g : Gnd) (hg : gndP g) (l : List Bld) (hl : l.length ≤ 1000000000000) (hb : ∀ b ∈ l, bldP b ∧ onP g b) (c s : Int) (hs : 0 ≤ s ∧ s ≤ 3) (st : Store) (R : AV → Store → Prop) (h : ∀ b, Fresh st b → R (ptr b) (st.setObj b (.cells (netC g l c s)))) :
  ACalls Tryz.prog 45 [.agg (gndC g), lst 6 bldC l, int c, int s] st R := by
 refine ACalls.of_body (c := cfg 18 [17] []) ze Tryz.func45 (by rfl) (by rfl) (by rfl) (by rfl) ?_
 refine ADraw.of_sched ze (by rfl) (by rfl) ygu (by rfl) ?_
 refine ⟨ycc g hg l hl hb c s hs _ _ ⟨(by repeat (first | exact trivial | refine ⟨rfl, ?_⟩ | refine ⟨optR (optR (optR (za _ (zb _ _ _) rfl))), ?_⟩)), ?_⟩, trivial⟩
 refine ⟨fun b hf => ⟨(by repeat (first | exact trivial | refine ⟨rfl, ?_⟩ | refine ⟨optR (optR (optR (za _ (zb _ _ _) rfl))), ?_⟩)), ?_⟩, trivial⟩
 refine ⟨⟨trivial, ?_⟩, trivial⟩
 exact ret (h b hf)
set_option maxRecDepth 10000 in
theorem zpo (g : Gnd) (hg : gndP g) (t : Nat) (ht : t < g.T.length) (st : Store) (R : AV → Store → Prop) (h : R (ints (zd8 g t)) st) : ACalls Tryz.prog 209 [.agg (gndC g), int t] st R := by
 have hm := zt hg
 have htb := vp hg (t := t) (by omega)
 have hq := trem (t := t) hg.1.1
 have hq2 := tquo (t := t) hg.1.1
 have hg1 := hg.1
 have hg2 := hg.2.1
 unfold zd8 at h
 generalize (t : Int) % g.W = x at *
 generalize (t : Int) / g.W = y at *
 have hd : ∀ i, (hi : i < 8) → -1 ≤ (dirL[i]'hi).1 ∧ (dirL[i]'hi).1 ≤ 1 ∧ -1 ≤ (dirL[i]'hi).2 ∧ (dirL[i]'hi).2 ≤ 1 := by decide
 refine ACalls.of_body (c := cfg 64) ze Tryz.func209 (by rfl) (by rfl) (by rfl) (by rfl) ?_
 refine AWp.loop (σ := Nat × AV) ⟨fun s => [(1, .av (int (t : Nat))), (2, .bx 2 0), (5, .bx 5 0), (6, .bx 6 0), (7, .av s.2), (8, .av (int (s.1 : Nat)))], fun _ => [(2, gndC g), (5, dirL.map fun d => int d.1), (6, dirL.map fun d => int d.2)],
  fun s st' => s.1 ≤ 8 ∧ App 1 st s.2 (rws intC ((dirL.take s.1).map (ji g x y))) st', fun s => 8 - s.1⟩ ze ?_ ?_
 ·exact ⟨(0, _), trivial, ⟨Nat.zero_le _, App.start 1 st⟩, ⟨lr_ _, lr_ _, lr_ _, lr_ _, lr_ _, lr_ _, trivial⟩, ⟨rfl, rfl, rfl, trivial⟩⟩
 rintro ⟨i, v⟩ st' ⟨hi, ha⟩
 dsimp only at hi ha ⊢
 refine bcd (fun h1 => ?_) (fun h1 => ?_)
 rotate_left
 ·have : i = 8 := by omega
  subst this
  exact ⟨_, st, AV.le_trans ha.le (ar_ _), ha.has, h⟩
 have hlt : i < 8 := by omega
 have hdi := hd i hlt
 have hx5 : ((dirL.map fun d => int d.1).drop (0 + i * 1)).head? = some (int (dirL[i]'hlt).1) := by
  rw [List.head?_drop, show 0 + i * 1 = i by omega, List.getElem?_map, List.getElem?_eq_getElem hlt]; rfl
 have hx6 : ((dirL.map fun d => int d.2).drop (0 + i * 1)).head? = some (int (dirL[i]'hlt).2) := by
  rw [List.head?_drop, show 0 + i * 1 = i by omega, List.getElem?_map, List.getElem?_eq_getElem hlt]; rfl
 have hstep : (dirL.take (i + 1)).map (ji g x y) = (dirL.take i).map (ji g x y) ++ [ji g x y (dirL[i]'hlt)] := by
  rw [List.take_succ_eq_append_getElem hlt, List.map_append]; rfl
 have hlen : ((dirL.take i).map (ji g x y)).length ≤ 8 := by rw [List.length_map, List.length_take]; exact Nat.min_le_right _ _
 have hna : ji g x y (dirL[i]'hlt) = if onG g (x + (dirL[i]'hlt).1) (y + (dirL[i]'hlt).2) then x + (dirL[i]'hlt).1 + g.W * (y + (dirL[i]'hlt).2) else -1 := rfl
 generalize hD : dirL[i]'hlt = d at *
 refine ADraw.of_sched ze (by rfl) (by rfl) zz5 (by rfl) ?_
 refine ⟨by omega, ?_⟩
 refine ⟨i, rfl, hlt, ?_⟩
 refine za _ hx5 ?_
 refine in64 (by omega) ?_
 refine ⟨by omega, ?_⟩
 refine in64 (by omega) ?_
 refine ⟨i, rfl, hlt, ?_⟩
 refine za _ hx6 ?_
 refine in64 (by omega) ?_
 refine ⟨⟨(by repeat (first | exact trivial | refine ⟨rfl, ?_⟩ | refine ⟨⟨i, rfl, hlt, rfl⟩, ?_⟩ | refine ⟨za (o := List.head? _) _ hx5 rfl, ?_⟩ | refine ⟨za (o := List.head? _) _ hx6 rfl, ?_⟩ | refine ⟨in64 (by omega) rfl, ?_⟩ | refine ⟨⟨by omega, rfl⟩, ?_⟩)), ?_⟩, trivial⟩
 refine ⟨⟨(by repeat (first | exact trivial | refine ⟨rfl, ?_⟩ | refine ⟨⟨i, rfl, hlt, rfl⟩, ?_⟩ | refine ⟨za (o := List.head? _) _ hx5 rfl, ?_⟩ | refine ⟨za (o := List.head? _) _ hx6 rfl, ?_⟩ | refine ⟨in64 (by omega) rfl, ?_⟩ | refine ⟨⟨by omega, rfl⟩, ?_⟩)), ?_⟩, trivial⟩
 rw [hq, hq2]
 have app : ∀ z, z = ji g x y d → ∀ v2 st2, App 1 st v2 (rws intC ((dirL.take i).map (ji g x y)) ++ [intC z]) st2 → App 1 st v2 (rws intC ((dirL.take (i + 1)).map (ji g x y))) st2 := fun z hz v2 st2 h2 => by
  rw [hstep, ← zmd]
  subst hz
  exact h2
 have out : ¬ onG g (x + d.1) (y + d.2) → ji g x y d = -1 := fun hn => by rw [hna, if_neg hn]
 have rest : ∀ {Q : AV → Store → Prop}, (∀ v2 st2, App 1 st v2 (rws intC ((dirL.take (i + 1)).map (ji g x y))) st2 → Q v2 st2) → ¬ onG g (x + d.1) (y + d.2) → appendK Tryz.prog (cfg 64) st' 3 (.av v) (.av (.lst 1 [[int (-1)]] none)) Q := fun hQ hn =>
  yj (ie := ti3) (rows' := [intC (-1)]) ha rfl rfl ⟨by simp only [zf, List.length_singleton, ti3]; omega, by simp only [zf, List.length_singleton]; omega⟩ (fun v2 st2 h2 => hQ v2 st2 (app (-1) (out hn).symm v2 st2 h2))
 have next : ∀ v2 st2, App 1 st v2 (rws intC ((dirL.take (i + 1)).map (ji g x y))) st2 → ∃ s : Nat × AV, 8 - s.1 < 8 - i ∧ (s.1 ≤ 8 ∧ App 1 st s.2 (rws intC ((dirL.take s.1).map (ji g x y))) st2) ∧ s = (i + 1, v2) := fun v2 st2 h2 => ⟨(i + 1, v2), by dsimp only; omega, ⟨by dsimp only; omega, h2⟩, rfl⟩
 refine bcd (fun c1 => ?_) (fun c1 => ?_)
 ·refine ⟨by decide, ?_⟩
  refine rest (fun v2 st2 h2 => ?_) (fun hh => by have := hh.1.1; omega)
  obtain ⟨s, f1, f2, rfl⟩ := next v2 st2 h2
  refine in64 (by omega) ?_
  exact ⟨(i + 1, v2), f1, f2, ⟨lr_ _, lr_ _, lr_ _, lr_ _, lr_ _, lr_ _, trivial⟩, ⟨rfl, rfl, rfl, trivial⟩⟩
 refine bcd (fun c2 => ?_) (fun c2 => ?_)
 ·refine ⟨by decide, ?_⟩
  refine rest (fun v2 st2 h2 => ?_) (fun hh => by have := hh.1.2; omega)
  obtain ⟨s, f1, f2, rfl⟩ := next v2 st2 h2
  refine in64 (by omega) ?_
  exact ⟨(i + 1, v2), f1, f2, ⟨lr_ _, lr_ _, lr_ _, lr_ _, lr_ _, lr_ _, trivial⟩, ⟨rfl, rfl, rfl, trivial⟩⟩
 refine bcd (fun c3 => ?_) (fun c3 => ?_)
 ·refine ⟨by decide, ?_⟩
  refine rest (fun v2 st2 h2 => ?_) (fun hh => by have := hh.2.1; omega)
  obtain ⟨s, f1, f2, rfl⟩ := next v2 st2 h2
  refine in64 (by omega) ?_
  exact ⟨(i + 1, v2), f1, f2, ⟨lr_ _, lr_ _, lr_ _, lr_ _, lr_ _, lr_ _, trivial⟩, ⟨rfl, rfl, rfl, trivial⟩⟩
 refine bcd (fun c4 => ?_) (fun c4 => ?_)
 ·refine ⟨by decide, ?_⟩
  refine rest (fun v2 st2 h2 => ?_) (fun hh => by have := hh.2.2; omega)
  obtain ⟨s, f1, f2, rfl⟩ := next v2 st2 h2
  refine in64 (by omega) ?_
  exact ⟨(i + 1, v2), f1, f2, ⟨lr_ _, lr_ _, lr_ _, lr_ _, lr_ _, lr_ _, trivial⟩, ⟨rfl, rfl, rfl, trivial⟩⟩
 have hon : onG g (x + d.1) (y + d.2) := ⟨⟨by omega, by omega⟩, by omega, by omega⟩
 obtain ⟨e1, e2, _, _⟩ := xg hg hon
 have hpos : 0 ≤ g.W * (y + d.2) := Int.mul_nonneg (by omega) (by omega)
 refine in64 (by omega) ?_
 refine in64 (by omega) ?_
 refine ⟨by decide, ?_⟩
 refine yj (ie := ti3) (rows' := [intC (x + d.1 + g.W * (y + d.2))]) ha ?_ ?_ ⟨?_, ?_⟩ (fun v2 st2 h2 => ?_)
 ·rfl
 ·rfl
 ·simp only [zf, List.length_singleton, ti3]; omega
 ·simp only [zf, List.length_singleton]; omega
 obtain ⟨s, f1, f2, rfl⟩ := next v2 st2 (app _ (by rw [hna, if_pos hon]) v2 st2 h2)
 refine in64 (by omega) ?_
 exact ⟨(i + 1, v2), f1, f2, ⟨lr_ _, lr_ _, lr_ _, lr_ _, lr_ _, lr_ _, trivial⟩, ⟨rfl, rfl, rfl, trivial⟩⟩
end Go.Proofs
namespace Go.Proofs
open Go Go.V
def inV (g : Gnd) (o : Nat → Bool) (r : Nat) : AV := lst 1 je (blL g.T.length (sqT g o r))
def gS (st : Store) (g : Gnd) (bn bx : Nat) (f : Nat → Int) (nx : Nat → Bool) : Store := (st.setObj bn (.cells (il g.T.length f))).setObj bx (.cells (bl g.T.length nx))
set_option maxHeartbeats 1000000 in
theorem zpx (g : Gnd) (hg : gndP g) (l : List Bld) (hl : l.length ≤ 1000000000000) (hb : ∀ b ∈ l, bldP b ∧ onP g b) (c : Int) (hc : c = 0 ∨ c = 1 ∨ c = 2) (st : Store) (R : AV → Store → Prop)
  (h : ∀ f, yb5 g (yh g l c) f → R (lst 1 intC (ilL g.T.length f)) st) : ACalls Tryz.prog 177 [.agg (gndC g), lst 6 bldC l, int c] st R := by
 have ha := zt hg
 refine ACalls.of_awp (c := cfg 79) ze Tryz.func177 (by rfl) (by rfl) (by rfl) (by rfl) ?_
 refine AWp.seq (AWp.of_vc ze ?_)
 refine AWp.seq (AWp.of_vc ze ?_)
 refine zg3 g hg l hl hb c hc _ _ ?_
 generalize ho : yh g l c = o at *
 have hopV : opV g l c = inV g o 0 := by
  unfold opV inV
  rw [ho, zup fun t ht => (zzi hg o ht).symm]
 refine AWp.seq (AWp.of_vc ze ?_)
 refine j3 rfl (it := ti36) (ie := ti3) rfl rfl rfl rfl rfl (n := (rws je (blL g.T.length (yh g l c))).length) ?_ ?_ (fun bn hfn => ?_)
 ·rw [zf, yz]; show 8 * _ ≤ _; omega
 ·rw [zf, yz]; omega
 rw [zf, yz, zti]
 refine AWp.meetA (σ := Nat → Int) ⟨fun _ => [(8, .av (blV bn g.T.length))], fun _ => [], fun f st' => yb5 g o f ∧ st' = st.setObj bn (.cells (il g.T.length f))⟩ ?_ ?_
 ·refine AWp.seq (AWp.of_vc ze ?_)
  refine AWp.block ?_
  refine AWp.loopA (σ := Nat × Bool × (Nat → Int)) ⟨fun s => [(3, .bx 3 0), (7, .av (inV g o s.1)), (8, .av (blV bn g.T.length)), (9, .av (V.bool s.2.1))], fun _ => [(3, gndC g)],
   fun s st' => st' = st.setObj bn (.cells (il g.T.length s.2.2)) ∧ zea g o s.1 0 s.2.2 ∧ s.1 ≤ 64 ∧ (s.2.1 = true → s.1 ≤ 63) ∧ (s.2.1 = false → ∀ t, t < g.T.length → sqT g o s.1 t = false), fun s => 200 - s.1⟩ ?_ ?_
  ·refine ⟨(0, true, fun _ => 0), trivial, ⟨rfl, zqk g o, by decide, fun _ => by decide, fun hh => by cases hh⟩, ⟨lr_ _, ?_, lr_ _, lr_ _, trivial⟩, ⟨rfl, trivial⟩⟩
   dsimp only
   rw [← hopV]; exact lr_ _
  rintro ⟨r, left, f⟩ st' ⟨rfl, hgp, hr, hl1, hl2⟩
  dsimp only at hgp hr hl1 hl2 ⊢
  refine AWp.seq (AWp.of_vc ze ?_)
  refine zd (fun c1 => ?_) (fun c1 => ?_)
  rotate_left
  ·exact ⟨f, ⟨ztr hgp (hl2 c1), rfl⟩, ⟨lr_ _, trivial⟩, trivial⟩
  have hr63 := hl1 c1
  refine AWp.block ?_
  refine AWp.seq (AWp.of_vc ze ?_)
  refine AWp.seq (AWp.of_vc ze ?_)
  refine j3 rfl (it := ti108) (ie := ti4) rfl rfl rfl rfl rfl (n := (rws je (blL g.T.length (sqT g o r))).length) ?_ ?_ (fun bx hfx => ?_)
  ·rw [zf, yz]; show 1 * _ ≤ _; omega
  ·rw [zf, yz]; omega
  rw [zf, yz, zde]
  have hne : bx ≠ bn := fun e => by
   have := hfx.1
   rw [e, zb] at this
   cases this
  refine AWp.meetA (σ := Nat → Int) ⟨fun _ => [(3, .bx 3 0), (8, .av (blV bn g.T.length)), (9, .av (V.bool (zc3 g o r g.T.length))), (10, .av (blV bx g.T.length))], fun _ => [(3, gndC g)],
   fun f st' => zea g o (r + 1) 0 f ∧ st' = gS st g bn bx f (sqT g o (r + 1))⟩ ?_ ?_
  ·refine AWp.of_vc ze ?_
   refine AWp.loop (σ := Nat × (Nat → Int)) ⟨fun s => [(3, .bx 3 0), (7, .av (inV g o r)), (8, .av (blV bn g.T.length)), (9, .av (V.bool (zc3 g o r s.1))), (10, .av (blV bx g.T.length)), (11, .av (int (s.1 : Nat)))], fun _ => [(3, gndC g)],
    fun s st' => s.1 ≤ g.T.length ∧ zea g o r s.1 s.2 ∧ st' = gS st g bn bx s.2 (nxF g o r s.1 false), fun s => g.T.length - s.1⟩ ze ?_ ?_
   ·exact ⟨(0, f), trivial, ⟨Nat.zero_le _, hgp, by unfold gS; rw [ybs]⟩, ⟨lr_ _, lr_ _, lr_ _, lr_ _, lr_ _, lr_ _, trivial⟩, ⟨rfl, trivial⟩⟩
   rintro ⟨t, f1⟩ st' ⟨ht, hgp1, rfl⟩
   dsimp only at ht hgp1 ⊢
   refine bcd (fun h1 => ?_) (fun h1 => ?_)
   rotate_left
   ·rw [zf, yz] at h1
    have : t = g.T.length := by omega
    subst this
    refine ⟨f1, ⟨zql hgp1, ?_⟩, ⟨lr_ _, lr_ _, lr_ _, lr_ _, trivial⟩, ⟨rfl, trivial⟩⟩
    unfold gS
    rw [zi5 (yg5 g o r g.T.length)]
   rw [zf, yz] at h1
   have hlt : t < g.T.length := by omega
   have hlt2 : t < (blL g.T.length (sqT g o r)).length := by rw [yz]; exact hlt
   have hsn := zzj hg (o := o) (r := r) hlt
   have hls := zqc g o r t
   refine ⟨t, rfl, za _ (zi hlt2) ?_⟩
   rw [zdf hlt]
   refine yc ?_
   refine zd (fun c2 => ?_) (fun c2 => ?_)
   rotate_left
   ·rw [c2, Bool.false_and] at hsn
    refine in64 (by omega) ?_
    refine ⟨(t + 1, f1), ?_, ⟨by dsimp only; omega, yb6 hgp1 c2, ?_⟩, ⟨lr_ _, lr_ _, lr_ _, ?_, lr_ _, lr_ _, trivial⟩, ⟨rfl, trivial⟩⟩
    ·show g.T.length - (t + 1) < g.T.length - t
     omega
    ·show gS st g bn bx f1 (nxF g o r t false) = gS st g bn bx f1 (nxF g o r (t + 1) false)
     rw [← zod, hsn]
    ·show LV.le (.av (V.bool (zc3 g o r t))) (.av (V.bool (zc3 g o r (t + 1))))
     rw [hls, hsn, Bool.or_false]; exact lr_ _
   rw [c2, Bool.true_and] at hsn
   have hgp2 := ztq hgp1 hlt c2
   have hfb := yhe hgp1 hlt
   have hon : (gS st g bn bx f1 (nxF g o r t false)).obj bn = some (.cells (il g.T.length f1)) := (zh (Ne.symm hne)).trans (zb _ _ _)
   refine ⟨t, rfl, hlt, ?_⟩
   refine za _ hon (za _ (zim hlt) ?_)
   refine in64 (by omega) ?_
   refine ⟨t, rfl, hlt, ?_⟩
   refine zr (i := ti3) (v := int (f1 t + 1)) (b := bn) (o := 0 + t * 1) (l := il g.T.length f1) (st2 := gS st g bn bx (setI f1 t (f1 t + 1)) (nxF g o r t false)) rfl rfl rfl hon (by rw [zaf]; omega) ?_ ?_
   ·unfold gS
    rw [ko (Ne.symm hne), zl, show 0 + t * 1 = t by omega, ztk hlt]
   generalize setI f1 t (f1 t + 1) = f2 at *
   have hx : ∀ v, (gS st g bn bx f2 (nxF g o r t v)).obj bx = some (.cells (bl g.T.length (nxF g o r t v))) := fun v => zb _ _ _
   have hst : ∀ v u, (gS st g bn bx f2 (nxF g o r t v)).setObj bx (.cells (zn (bl g.T.length (nxF g o r t v)) (0 + t * 1) [V.bool u])) = gS st g bn bx f2 (nxF g o r t u) := fun v u => by
    have := zbf (f := nxF g o r t v) hlt (nxF g o r t u) (fun s hs => yid g o r t u v hs)
    rw [zoe] at this
    unfold gS
    rw [zl, show 0 + t * 1 = t by omega, this]
   refine ⟨t, rfl, hlt, ?_⟩
   refine zr (i := ti4) (v := V.bool true) (b := bx) (o := 0 + t * 1) (l := bl g.T.length (nxF g o r t false)) (st2 := gS st g bn bx f2 (nxF g o r t true)) rfl rfl rfl (hx _) (by rw [jf]; omega) (hst _ _) ?_
   refine zpo g hg t hlt _ _ ?_
   have hnb : ∀ i, (hi : i < (zd8 g t).length) → (zd8 g t)[i] = -1 ∨ ∃ m : Nat, (zd8 g t)[i] = m ∧ m < g.T.length := fun i hi => zs1 hg (List.getElem_mem hi)
   have hn8 := zs2 g t
   generalize hN : zd8 g t = N at *
   refine AWp.loop (σ := Nat) ⟨fun i => [(3, .bx 3 0), (7, .av (inV g o r)), (8, .av (blV bn g.T.length)), (9, .av (V.bool (zc3 g o r t))), (10, .av (blV bx g.T.length)), (11, .av (int (t : Nat))), (12, .av (ints N)), (13, .av (int (i : Nat)))], fun _ => [(3, gndC g)],
    fun i st' => i ≤ 8 ∧ st' = gS st g bn bx f2 (nxF g o r t ((N.take i).all (okB g o r))), fun i => 8 - i⟩ ze ?_ ?_
   ·exact ⟨0, trivial, ⟨Nat.zero_le _, by rw [List.take_zero]; rfl⟩, ⟨lr_ _, lr_ _, lr_ _, lr_ _, lr_ _, lr_ _, lr_ _, lr_ _, trivial⟩, ⟨rfl, trivial⟩⟩
   rintro i st' ⟨hi, rfl⟩
   refine bcd (fun h2 => ?_) (fun h2 => ?_)
   rotate_left
   ·have : i = 8 := by omega
    subst this
    have htk : N.take 8 = N := by rw [← hn8, List.take_length]
    rw [htk, ← hsn]
    have fin : ∀ b9 : AV, b9 = V.bool (zc3 g o r (t + 1)) → LV.le (.av b9) (.av (V.bool (zc3 g o r (t + 1)))) := fun b9 e => by rw [e]; exact lr_ _
    have eS : gS st g bn bx f2 (nxF g o r t (sqT g o (r + 1) t)) = gS st g bn bx f2 (nxF g o r (t + 1) false) := by rw [zod]
    have hx9 := hx (sqT g o (r + 1) t)
    have hdec : g.T.length - (t + 1) < g.T.length - t := by omega
    refine zd (fun c3 => ?_) (fun c3 => ?_)
    ·refine in64 (by omega) ?_
     exact ⟨(t + 1, f2), hdec, ⟨by dsimp only; omega, hgp2, eS⟩, ⟨lr_ _, lr_ _, lr_ _, fin _ (by rw [hls, c3, Bool.true_or]; rfl), lr_ _, lr_ _, trivial⟩, ⟨rfl, trivial⟩⟩
    ·refine ⟨t, rfl, hlt, ?_⟩
     refine za _ hx9 (za _ (yhn hlt) ?_)
     refine in64 (by omega) ?_
     exact ⟨(t + 1, f2), hdec, ⟨by dsimp only; omega, hgp2, eS⟩, ⟨lr_ _, lr_ _, lr_ _, fin _ (by rw [hls, c3, Bool.false_or, zoe]), lr_ _, lr_ _, trivial⟩, ⟨rfl, trivial⟩⟩
   have hi8 : i < N.length := by omega
   have hal : (N.take (i + 1)).all (okB g o r) = ((N.take i).all (okB g o r) && okB g o r N[i]) := by
    rw [List.take_succ_eq_append_getElem hi8, List.all_append]
    simp
   have hx9 := hx ((N.take i).all (okB g o r))
   have hst9 := hst ((N.take i).all (okB g o r)) false
   have hdec : 8 - (i + 1) < 8 - i := by omega
   refine ⟨i, rfl, za _ (zi hi8) ?_⟩
   refine bcd (fun c3 => ?_) (fun c3 => ?_)
   ·have hok : okB g o r N[i] = false := by
     unfold okB
     rw [decide_eq_false (by omega), Bool.false_and]
    rw [hok, Bool.and_false] at hal
    refine ⟨t, rfl, hlt, ?_⟩
    refine zr (i := ti4) (v := V.bool false) (b := bx) (o := 0 + t * 1) (l := _) (st2 := gS st g bn bx f2 (nxF g o r t false)) rfl rfl rfl hx9 (by rw [jf]; omega) hst9 ?_
    refine in64 (by omega) ?_
    exact ⟨i + 1, hdec, ⟨by omega, by rw [hal]⟩, ⟨lr_ _, lr_ _, lr_ _, lr_ _, lr_ _, lr_ _, lr_ _, lr_ _, trivial⟩, ⟨rfl, trivial⟩⟩
   rcases hnb i hi8 with q | ⟨m, q1, q2⟩
   ·omega
   have hm2 : m < (blL g.T.length (sqT g o r)).length := by rw [yz]; exact q2
   have hok : okB g o r N[i] = sqT g o r m := by
    unfold okB
    rw [decide_eq_true (by omega), Bool.true_and, q1, Int.toNat_natCast]
   refine ⟨i, rfl, za _ (zi hi8) ?_⟩
   refine ⟨m, q1, za _ (zi hm2) ?_⟩
   rw [zdf q2]
   refine yc ?_
   refine zd (fun c4 => ?_) (fun c4 => ?_)
   ·rw [hok, c4, Bool.and_true] at hal
    refine in64 (by omega) ?_
    exact ⟨i + 1, hdec, ⟨by omega, by rw [hal]⟩, ⟨lr_ _, lr_ _, lr_ _, lr_ _, lr_ _, lr_ _, lr_ _, lr_ _, trivial⟩, ⟨rfl, trivial⟩⟩
   ·rw [hok, c4, Bool.and_false] at hal
    refine ⟨t, rfl, hlt, ?_⟩
    refine zr (i := ti4) (v := V.bool false) (b := bx) (o := 0 + t * 1) (l := _) (st2 := gS st g bn bx f2 (nxF g o r t false)) rfl rfl rfl hx9 (by rw [jf]; omega) hst9 ?_
    refine in64 (by omega) ?_
    exact ⟨i + 1, hdec, ⟨by omega, by rw [hal]⟩, ⟨lr_ _, lr_ _, lr_ _, lr_ _, lr_ _, lr_ _, lr_ _, lr_ _, trivial⟩, ⟨rfl, trivial⟩⟩
  ·rintro f3 _ ⟨hq, rfl⟩
   have hb3 := hq
   have hfb : (st.setObj bn (.cells (il g.T.length f3))).obj bx = none := by rw [zh hne]; have := hfx.1; rwa [zh hne] at this
   refine AWp.freeze (d := 10) (b := bx) (k := 1) (n := g.T.length) (cap := g.T.length) (rows := rws je (blL g.T.length (sqT g o (r + 1)))) (pad := []) rfl ?_ ?_ ?_ (Nat.le_refl _) ?_ ?_ ?_
   ·rw [kq]; exact zb _ _ _
   ·exact hfx.2
   ·rw [zf, yz]
   ·intro row hr
    obtain ⟨x, _, rfl⟩ := List.mem_map.1 hr
    rfl
   ·intro row hr y hy
    obtain ⟨x, _, rfl⟩ := List.mem_map.1 hr
    simp [je] at hy
    exact ⟨_, hy, rfl⟩
   unfold gS
   rw [x3 hfb]
   refine AWp.of_vc ze ?_
   refine ⟨(r + 1, zc3 g o r g.T.length, f3), ?_, ⟨rfl, hq, by dsimp only; omega, fun hh => ?_, fun hh => ?_⟩, ⟨lr_ _, lr_ _, lr_ _, lr_ _, trivial⟩, ⟨rfl, trivial⟩⟩
   ·show 200 - (r + 1) < 200 - r
    omega
   ·dsimp only at hh ⊢
    unfold zc3 at hh
    obtain ⟨t, _, ht2⟩ := List.any_eq_true.1 hh
    exact yiz hg ht2
   ·dsimp only at hh ⊢
    unfold zc3 at hh
    rw [List.any_eq_false] at hh
    intro t ht
    exact Bool.eq_false_iff.2 (hh t (List.mem_range.2 ht))
 ·rintro f _ ⟨hq, rfl⟩
  refine AWp.freeze (d := 8) (b := bn) (k := 1) (n := g.T.length) (cap := g.T.length) (rows := rws intC (ilL g.T.length f)) (pad := []) rfl ?_ ?_ ?_ (Nat.le_refl _) ?_ ?_ ?_
  ·rw [List.append_nil, ztl]; exact zb _ _ _
  ·exact hfn.2
  ·rw [zf, ku]
  ·intro row hr
   obtain ⟨x, _, rfl⟩ := List.mem_map.1 hr
   rfl
  ·intro row hr y hy
   obtain ⟨x, _, rfl⟩ := List.mem_map.1 hr
   simp [intC] at hy
   exact ⟨_, hy, rfl⟩
  rw [x3 hfn.1]
  refine AWp.of_vc ze ?_
  exact ret (h f hq)
theorem zpy (g : Gnd) (hg : gndP g) (l : List Bld) (hl : l.length ≤ 1000000000000) (hb : ∀ b ∈ l, bldP b ∧ onP g b) (c : Int) (hc : c = 0 ∨ c = 1 ∨ c = 2) (s : Int) (hs : 0 ≤ s) (st : Store) (R : AV → Store → Prop) (h : R (yb7 g l c s) st) :
  ACalls Tryz.prog 128 [.agg (gndC g), lst 6 bldC l, int c, int s] st R := by
 have ha := zt hg
 refine ACalls.of_awp (c := cfg 35) ze Tryz.func128 (by rfl) (by rfl) (by rfl) (by rfl) ?_
 refine AWp.seq (AWp.of_vc ze ?_)
 refine AWp.seq (AWp.of_vc ze ?_)
 refine zpx g hg l hl hb c hc _ _ (fun f hq => ?_)
 refine AWp.seq (AWp.of_vc ze ?_)
 refine j3 rfl (it := ti108) (ie := ti4) rfl rfl rfl rfl rfl (n := (rws intC (ilL g.T.length f)).length) ?_ ?_ (fun b hf => ?_)
 ·rw [zf, ku]; show 1 * _ ≤ _; omega
 ·rw [zf, ku]; omega
 rw [zf, ku, zde]
 refine AWp.meetA (σ := Unit) ⟨fun _ => [(10, .av (blV b g.T.length))], fun _ => [], fun _ st' => st' = st.setObj b (.cells (bl g.T.length (jr g l c s)))⟩ ?_ ?_
 ·refine AWp.of_vc ze ?_
  refine AWp.loop (σ := Nat) ⟨fun i => [(3, .av (int s)), (9, .av (lst 1 intC (ilL g.T.length f))), (10, .av (blV b g.T.length)), (11, .av (int (i : Nat)))], fun _ => [],
   fun i st' => i ≤ g.T.length ∧ st' = st.setObj b (.cells (bl g.T.length (vd g l c s i))), fun i => g.T.length - i⟩ ze ?_ ?_
  ·refine ⟨0, trivial, ⟨Nat.zero_le _, ?_⟩, ⟨lr_ _, lr_ _, lr_ _, lr_ _, trivial⟩, trivial⟩
   rw [show vd g l c s 0 = fun _ => false from funext fun t => if_neg (Nat.not_lt_zero t)]
  rintro i st' ⟨hi, rfl⟩
  refine bcd (fun h1 => ?_) (fun h1 => ?_)
  rotate_left
  ·rw [zf, ku] at h1
   have : i = g.T.length := by omega
   subst this
   refine ⟨(), ?_, ⟨lr_ _, trivial⟩, trivial⟩
   show st.setObj b (.cells (bl g.T.length (vd g l c s g.T.length))) = st.setObj b (.cells (bl g.T.length (jr g l c s)))
   rw [zi5 (f := vd g l c s g.T.length) (g := jr g l c s) fun t ht => if_pos ht]
  rw [zf, ku] at h1
  have hlt : i < g.T.length := by omega
  have ho : (st.setObj b (.cells (bl g.T.length (vd g l c s i)))).obj b = some (.cells (bl g.T.length (vd g l c s i))) := zb _ _ _
  have hlt2 : i < (ilL g.T.length f).length := by rw [ku]; exact hlt
  have s2 : ∀ q, q ≠ i → vd g l c s (i + 1) q = vd g l c s i q := fun q hq => by
   unfold vd
   by_cases h3 : q < i
   ·rw [if_pos h3, if_pos (by omega)]
   ·rw [if_neg h3, if_neg (by omega)]
  have s1 : vd g l c s (i + 1) i = jr g l c s i := if_pos (by omega)
  refine ⟨i, rfl, za _ (zi hlt2) ?_⟩
  refine ⟨i, rfl, hlt, ?_⟩
  refine zr (i := ti4) (v := V.bool (decide (s < (ilL g.T.length f)[i]))) (b := b) (o := 0 + i * 1) (l := _) (st2 := st.setObj b (.cells (bl g.T.length (vd g l c s (i + 1))))) rfl rfl rfl ho (by rw [jf]; omega) ?_ ?_
  ·rw [zl, show 0 + i * 1 = i by omega, ← zbf hlt _ s2, s1, ztm hlt, zqj hq hs hlt]
  refine in64 (by omega) ?_
  refine ⟨i + 1, ?_, ⟨by omega, rfl⟩, ⟨lr_ _, lr_ _, lr_ _, lr_ _, trivial⟩, trivial⟩
  show g.T.length - (i + 1) < g.T.length - i
  omega
 rintro _ _ rfl
 refine AWp.freeze (d := 10) (b := b) (k := 1) (n := g.T.length) (cap := g.T.length) (rows := rws je (blL g.T.length (jr g l c s))) (pad := []) rfl ?_ ?_ ?_ (Nat.le_refl _) ?_ ?_ ?_
 ·rw [kq]; exact zb _ _ _
 ·exact hf.2
 ·rw [zf, yz]
 ·intro row hr
  obtain ⟨x, _, rfl⟩ := List.mem_map.1 hr
  rfl
 ·intro row hr y hy
  obtain ⟨x, _, rfl⟩ := List.mem_map.1 hr
  simp [je] at hy
  exact ⟨_, hy, rfl⟩
 rw [x3 hf.1]
 refine AWp.of_vc ze ?_
 exact ret h
end Go.Proofs
namespace Go.Proofs
open Go Go.V
theorem zs7 (i j : Int) : max2 (max2 (max2 i (0 - i)) j) (0 - j) = absM i j := by
 have e : ∀ a b : Int, max2 a b = max a b := fun a b => by
  unfold max2
  by_cases h : b > a
  ·rw [decide_eq_true h]; show b = _; omega
  ·rw [decide_eq_false h]; show a = _; omega
 rw [e, e, e]
 unfold absM
 omega
theorem zpt (g : Gnd) (x y k d j i : Int) : (kp g x y k d j i).length ≤ g.T.length := by
 have := List.length_filter_le (fun t => jv g x y k d t && zur g x y j i t) (List.range g.T.length)
 rw [List.length_range] at this
 exact this
theorem qq (l : List Nat) : (natI l).length = l.length := List.length_map ..
set_option maxHeartbeats 1000000 in
theorem zsg (g : Gnd) (hg : gndP g) (t : Nat) (ht : t < g.T.length) (d k : Int) (hd : 0 ≤ d ∧ d ≤ 300) (hk : 1 ≤ k ∧ k ≤ 7) (st : Store) (R : AV → Store → Prop) (h : R (ints (natI (ze9 g ((t : Int) % g.W) ((t : Int) / g.W) k d))) st) :
  ACalls Tryz.prog 221 [.agg (gndC g), int t, int d, int k] st R := by
 have hm := zt hg
 have htb := vp hg (t := t) (by omega)
 have hq := trem (t := t) hg.1.1
 have hq2 := tquo (t := t) hg.1.1
 have hg1 := hg.1
 have hg2 := hg.2.1
 generalize (t : Int) % g.W = x at *
 generalize (t : Int) / g.W = y at *
 refine ACalls.of_body (c := cfg 80) ze Tryz.func221 (by rfl) (by rfl) (by rfl) (by rfl) ?_
 refine ADraw.of_sched ze (by rfl) (by rfl) zz4 (by rfl) ?_
 refine ⟨by omega, ?_⟩
 refine ⟨by omega, ?_⟩
 refine in64 (by omega) ?_
 refine ⟨⟨(by repeat (first | exact trivial | refine ⟨rfl, ?_⟩ | refine ⟨optR (optR (optR (za _ (zb _ _ _) rfl))), ?_⟩)), ?_⟩, trivial⟩
 refine ⟨⟨trivial, ?_⟩, trivial⟩
 refine in64 (by omega) ?_
 refine AWp.loop (σ := Nat × AV) ⟨fun s => [(2, .av (int d)), (3, .av (int k)), (4, .bx 4 0), (8, .av s.2), (9, .av (int x)), (10, .av (int y)), (11, .av (int ((s.1 : Nat) - d)))], fun _ => [(4, gndC g)],
  fun s st' => (s.1 : Int) ≤ 2 * d + 1 ∧ App 1 st s.2 (rws intC (natI (kp g x y k d ((s.1 : Nat) - d) (-d)))) st', fun s => 700 - s.1⟩ ze ?_ ?_
 ·refine ⟨(0, _), trivial, ⟨by dsimp only; omega, ?_⟩, ⟨lr_ _, lr_ _, lr_ _, lr_ _, ?_, ?_, ?_, trivial⟩, ⟨rfl, trivial⟩⟩
  ·dsimp only
   rw [show ((0 : Nat) : Int) - d = -d by omega, zj6]
   exact App.start 1 st
  ·rw [← hq]; exact lr_ _
  ·rw [← hq2]; exact lr_ _
  ·dsimp only
   rw [show ((0 : Nat) : Int) - d = 0 - d by omega]; exact lr_ _
 rintro ⟨a, v⟩ st' ⟨ha, hap⟩
 dsimp only at ha hap ⊢
 refine bcd (fun h1 => ?_) (fun h1 => ?_)
 rotate_left
 ·rw [show (a : Int) - d = d + 1 by omega, zpu] at hap
  exact ⟨_, st, AV.le_trans hap.le (ar_ _), hap.has, h⟩
 refine in64 (by omega) ?_
 have hj : ∃ j : Int, (a : Int) - d = j := ⟨_, rfl⟩
 obtain ⟨j, hj⟩ := hj
 rw [hj] at hap h1 ⊢
 refine AWp.loop (σ := Nat × AV) ⟨fun s => [(2, .av (int d)), (3, .av (int k)), (4, .bx 4 0), (8, .av s.2), (9, .av (int x)), (10, .av (int y)), (11, .av (int j)), (12, .av (int ((s.1 : Nat) - d)))], fun _ => [(4, gndC g)],
  fun s st' => (s.1 : Int) ≤ 2 * d + 1 ∧ App 1 st s.2 (rws intC (natI (kp g x y k d j ((s.1 : Nat) - d)))) st', fun s => 700 - s.1⟩ ze ?_ ?_
 ·refine ⟨(0, v), trivial, ⟨by dsimp only; omega, ?_⟩, ⟨lr_ _, lr_ _, lr_ _, lr_ _, lr_ _, lr_ _, lr_ _, ?_, trivial⟩, ⟨rfl, trivial⟩⟩
  ·dsimp only
   rw [show ((0 : Nat) : Int) - d = -d by omega]
   exact hap
  ·dsimp only
   rw [show ((0 : Nat) : Int) - d = 0 - d by omega]; exact lr_ _
 rintro ⟨b, v2⟩ st2 ⟨hb, hap2⟩
 dsimp only at hb hap2 ⊢
 have hi : ∃ i : Int, (b : Int) - d = i := ⟨_, rfl⟩
 obtain ⟨i, hi⟩ := hi
 rw [hi] at hap2 ⊢
 refine bcd (fun h2 => ?_) (fun h2 => ?_)
 rotate_left
 ·rw [show i = d + 1 by omega, zps] at hap2
  refine in64 (by omega) ?_
  refine ⟨(a + 1, v2), ?_, ⟨by dsimp only; omega, ?_⟩, ⟨lr_ _, lr_ _, lr_ _, lr_ _, lr_ _, lr_ _, ?_, trivial⟩, ⟨rfl, trivial⟩⟩
  ·show 700 - (a + 1) < 700 - a
   omega
  ·dsimp only
   rw [show ((a + 1 : Nat) : Int) - d = j + 1 by omega]
   exact hap2
  ·dsimp only
   rw [show ((a + 1 : Nat) : Int) - d = j + 1 by omega]; exact lr_ _
 have next : ∀ v3 st3, App 1 st v3 (rws intC (natI (kp g x y k d j (i + 1)))) st3 → ∃ s : Nat × AV, 700 - s.1 < 700 - b ∧ ((s.1 : Int) ≤ 2 * d + 1 ∧ App 1 st s.2 (rws intC (natI (kp g x y k d j ((s.1 : Nat) - d)))) st3) ∧ s = (b + 1, v3) ∧ ((s.1 : Nat) : Int) - d = i + 1 := fun v3 st3 h3 =>
  ⟨(b + 1, v3), by dsimp only; omega, ⟨by dsimp only; omega, by dsimp only; rw [show ((b + 1 : Nat) : Int) - d = i + 1 by omega]; exact h3⟩, rfl, by dsimp only; omega⟩
 have no : ¬ (absM i j = d ∧ i.tmod k = 0 ∧ j.tmod k = 0 ∧ onG g (x + i) (y + j)) → App 1 st v2 (rws intC (natI (kp g x y k d j (i + 1)))) st2 := fun hn => by
  rw [zsh hg hn]; exact hap2
 refine in64 (by omega) ?_
 refine in64 (by omega) ?_
 refine bceq (fun c1 => ?_) (fun c1 => ?_)
 rotate_left
 ·have c1 : ¬ absM i j = d := fun e => c1 ((zs7 i j).trans e)
  obtain ⟨s, f1, f2, rfl, f3⟩ := next v2 st2 (no fun hh => c1 hh.1)
  refine in64 (by omega) ?_
  exact ⟨(b + 1, v2), f1, f2, ⟨lr_ _, lr_ _, lr_ _, lr_ _, lr_ _, lr_ _, lr_ _, by dsimp only at f3 ⊢; rw [f3]; exact lr_ _, trivial⟩, ⟨rfl, trivial⟩⟩
 have c1 : absM i j = d := (zs7 i j).symm.trans c1
 refine ⟨by omega, ?_⟩
 refine bceq (fun c2 => ?_) (fun c2 => ?_)
 rotate_left
 ·obtain ⟨s, f1, f2, rfl, f3⟩ := next v2 st2 (no fun hh => c2 hh.2.1)
  refine in64 (by omega) ?_
  exact ⟨(b + 1, v2), f1, f2, ⟨lr_ _, lr_ _, lr_ _, lr_ _, lr_ _, lr_ _, lr_ _, by dsimp only at f3 ⊢; rw [f3]; exact lr_ _, trivial⟩, ⟨rfl, trivial⟩⟩
 refine ⟨by omega, ?_⟩
 refine bceq (fun c3 => ?_) (fun c3 => ?_)
 rotate_left
 ·obtain ⟨s, f1, f2, rfl, f3⟩ := next v2 st2 (no fun hh => c3 hh.2.2.1)
  refine in64 (by omega) ?_
  exact ⟨(b + 1, v2), f1, f2, ⟨lr_ _, lr_ _, lr_ _, lr_ _, lr_ _, lr_ _, lr_ _, by dsimp only at f3 ⊢; rw [f3]; exact lr_ _, trivial⟩, ⟨rfl, trivial⟩⟩
 refine in64 (by omega) ?_
 refine in64 (by omega) ?_
 refine zsu g (x + i) (y + j) _ _ (fun z hz => ?_)
 refine zd (fun c4 => ?_) (fun c4 => ?_)
 rotate_left
 ·obtain ⟨s, f1, f2, rfl, f3⟩ := next v2 st2 (no fun hh => by have := hz.2 hh.2.2.2; rw [this] at c4; cases c4)
  refine in64 (by omega) ?_
  exact ⟨(b + 1, v2), f1, f2, ⟨lr_ _, lr_ _, lr_ _, lr_ _, lr_ _, lr_ _, lr_ _, by dsimp only at f3 ⊢; rw [f3]; exact lr_ _, trivial⟩, ⟨rfl, trivial⟩⟩
 have hon := hz.1 c4
 obtain ⟨e1, e2, _, _⟩ := xg hg hon
 have hon2 := hon
 unfold onG at hon2
 have hpos : 0 ≤ g.W * (y + j) := Int.mul_nonneg (by omega) (by omega)
 have hrl := zpt g x y k d j i
 refine in64 (by omega) ?_
 refine in64 (by omega) ?_
 refine in64 (by omega) ?_
 refine in64 (by omega) ?_
 refine ⟨by decide, ?_⟩
 refine yj (ie := ti3) (rows' := [intC (x + i + g.W * (y + j))]) hap2 ?_ ?_ ⟨?_, ?_⟩ (fun v3 st3 h3 => ?_)
 ·rfl
 ·rfl
 ·simp only [zf, qq, List.length_singleton, ti3]; omega
 ·simp only [zf, qq, List.length_singleton]; omega
 obtain ⟨s, f1, f2, rfl, f3⟩ := next v3 st3 (by
  rw [zpr hg hon c1 c2 c3, zid, ← zmd, show natI [tl g (x + i) (y + j)] = [x + i + g.W * (y + j)] by unfold natI; rw [List.map_cons, e1]; rfl]
  exact h3)
 refine in64 (by omega) ?_
 exact ⟨(b + 1, v3), f1, f2, ⟨lr_ _, lr_ _, lr_ _, lr_ _, lr_ _, lr_ _, lr_ _, by dsimp only at f3 ⊢; rw [f3]; exact lr_ _, trivial⟩, ⟨rfl, trivial⟩⟩
end Go.Proofs
