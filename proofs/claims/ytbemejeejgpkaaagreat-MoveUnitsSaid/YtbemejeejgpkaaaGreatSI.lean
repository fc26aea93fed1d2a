/- The ground on which laws of thronglaw24 are proved: contracts of functions and plain lemmas; no condition beyond the row's own. -/
import Derived.Test.YtbemejeejgpkaaaGreatVI
import Derived.Test.YtbemejeejgpkaaaGreatSF
import Derived.Test.YtbemejeejgpkaaaGreatVJ
import Derived.Test.YtbemejeejgpkaaaGreatVK
import Derived.Test.YtbemejeejgpkaaaGreatSH
set_option linter.unusedSimpArgs false
set_option linter.unusedVariables false
namespace Go.Proofs
open Go Go.V
set_option maxRecDepth 4000
set_option maxRecDepth 20000 in
theorem zvx (g : Gnd) (x y : Int) (st : Store) (R : AV -> Store -> Prop) (h : ∀ z : Bool, (z = true ↔ onG g x y) -> R (bool z) st) : ACalls Tryz.prog 218 [.agg (gndC g), int x, int y] st R := by
 refine ACalls.of_body (c := cfg 25) zc Tryz.func218 (by rfl) (by rfl) (by rfl) (by rfl) ?_
 repeat' (first | refine bcd (fun _ => ?_) (fun _ => ?_) | refine zd (fun _ => ?_) (fun _ => ?_) | refine in64 (by omega) ?_ | fail)
 all_goals
  refine ret (h _ ?_)
  unfold onG
  simp only [decide_eq_true_eq, decide_eq_false_iff_not, Bool.false_eq_true, false_iff, true_iff, beq_iff_eq, bne_iff_ne, beq_eq_false_iff_ne, ne_eq, reduceCtorEq] at *
  omega
theorem min2_eq (a b : Int) : min2 a b = min a b := by
 unfold min2
 by_cases h : b < a
 ·rw [decide_eq_true h]; show b = _; omega
 ·rw [decide_eq_false h]; show a = _; omega
theorem zl3 (g : Gnd) (hg : gndP g) (f : Nat -> Int) (hf : ∀ t, t < g.T.length -> 0 <= f t /\ f t <= 128) (t : Nat) (ht : t < g.T.length) (ws : List (Int × Int)) (hw : ∀ d ∈ ws, (d.1 ≠ 0 \/ d.2 ≠ 0) /\ (-1 <= d.1 /\ d.1 <= 1) /\ (-1 <= d.2 /\ d.2 <= 1)) (hwl : ws.length <= 100) (b : Nat) (st : Store) (R : AV -> Store -> Prop)
  (h : R (.tup []) (st.setObj b (.cells (il g.T.length (zh5 g f ws t))))) : ACalls Tryz.prog 307 [.agg (gndC g), blV b g.T.length, int t, lst 2 wayC ws] (st.setObj b (.cells (il g.T.length f))) R := by
 have hm := zr hg
 have htb := za0 hg (t := t) (by omega)
 have hq := trem (t := t) hg.1.1
 have hq2 := tquo (t := t) hg.1.1
 have hg1 := hg.1
 have hg2 := hg.2.1
 unfold zh5 at h
 have hx : ∃ x, x = (t : Int) % g.W := ⟨_, rfl⟩
 have hy : ∃ y, y = (t : Int) / g.W := ⟨_, rfl⟩
 obtain ⟨x, hx⟩ := hx
 obtain ⟨y, hy⟩ := hy
 rw [<- hx, <- hy] at h htb
 rw [<- hx] at hq
 rw [<- hy] at hq2
 refine ACalls.of_body (c := cfg 63) zc Tryz.func307 (by rfl) (by rfl) (by rfl) (by rfl) ?_
 refine ADraw.of_sched zc (by rfl) (by rfl) yf8 (by rfl) ?_
 refine ⟨by omega, ?_⟩
 refine ⟨by omega, ?_⟩
 refine in64 (by omega) ?_
 refine ⟨⟨(by repeat (first | exact Tv | refine ⟨rfl, ?_⟩ | refine ⟨optR (optR (optR (za _ (zb _ _ _) rfl))), ?_⟩)), ?_⟩, Tv⟩
 refine ⟨⟨Tv, ?_⟩, Tv⟩
 refine AWp.loop (σ := Nat) ⟨fun i => [(1, .av (blV b g.T.length)), (2, .av (int (t : Nat))), (4, .bx 4 0), (8, .av (int x)), (9, .av (int y)), (21, .av (lst 2 wayC ws)), (22, .av (int (ws.length : Nat))), (23, .av (int (i : Nat)))], fun _ => [(4, gndC g)],
  fun i st' => i <= ws.length /\ st' = st.setObj b (.cells (il g.T.length (setI f t (zas g f x y (f t) (ws.take i))))), fun i => ws.length - i⟩ zc ?_ ?_
 ·refine ⟨0, Tv, ⟨Nat.zero_le _, ?_⟩, ⟨Tq, Tq, Tq, ?_, ?_, Tq, ?_, Tq, Tv⟩, ⟨rfl, Tv⟩⟩
  ·rw [List.take_zero]
   show _ = st.setObj b (.cells (il g.T.length (setI f t (f t))))
   rw [ymu]
  ·rw [<- hq]; exact Tq
  ·rw [<- hq2]; exact Tq
  ·rw [<- zi (f := wayC) ws]; exact Tq
 rintro i st' ⟨hi, rfl⟩
 refine bcd (fun h1 => ?_) (fun h1 => ?_)
 rotate_left
 ·have : i = ws.length := by omega
  subst this
  rw [List.take_length]
  exact ret h
 have hlt : i < ws.length := by omega
 have hd := hw _ (List.getElem_mem hlt)
 have hv := zoi hg hf x y (ws.take i) (f t) (hf t ht)
 have hsn := zsd g f x y (f t) ws hlt
 have hgs := yn8 hg f (t := t) (zas g f x y (f t) (ws.take i)) hd.1
 rw [<- hx, <- hy] at hgs
 generalize hV : zas g f x y (f t) (ws.take i) = V0 at *
 have ho : (st.setObj b (.cells (il g.T.length (setI f t V0)))).obj b = some (.cells (il g.T.length (setI f t V0))) := zb _ _ _
 refine ⟨i, rfl, za _ (zh hlt) ?_⟩
 refine ⟨0, rfl, by decide, ?_⟩
 refine in64 (by omega) ?_
 refine ⟨1, rfl, by decide, ?_⟩
 refine in64 (by omega) ?_
 refine zvx g (x + ws[i].1) (y + ws[i].2) _ _ (fun z hz => ?_)
 have hgv := gv_b hg hf (x + ws[i].1) (y + ws[i].2)
 have fin : min V0 (gv g f (x + ws[i].1) (y + ws[i].2) + 1) = zas g f x y (f t) (ws.take (i + 1)) := hsn.symm
 refine zd (fun c1 => ?_) (fun c1 => ?_)
 ·have hon := hz.1 c1
  obtain ⟨e1, e2, e3, e4⟩ := xq hg hon
  have hpos : 0 <= g.W * (y + ws[i].2) := Int.mul_nonneg (by omega) (by have := hon.2.1; omega)
  have hval : setI f t V0 (tl g (x + ws[i].1) (y + ws[i].2)) = gv g f (x + ws[i].1) (y + ws[i].2) := by
   rw [<- hgs]; unfold gv; rw [if_pos hon]
  refine ⟨0, rfl, by decide, ?_⟩
  refine in64 (by omega) ?_
  refine ⟨1, rfl, by decide, ?_⟩
  refine in64 (by omega) ?_
  refine in64 (by omega) ?_
  refine in64 (by omega) ?_
  refine ⟨tl g (x + ws[i].1) (y + ws[i].2), e1.symm, e2, ?_⟩
  refine za _ ho (za _ (yx e2) ?_)
  rw [hval]
  refine ⟨t, rfl, ht, ?_⟩
  refine za _ ho (za _ (yx ht) ?_)
  rw [wn]
  refine in64 (by omega) ?_
  refine ⟨t, rfl, ht, ?_⟩
  refine zj (i := ti3) (v := int (min2 V0 (gv g f (x + ws[i].1) (y + ws[i].2) + 1))) (b := b) (o := 0 + t * 1) (l := il g.T.length (setI f t V0)) (st2 := st.setObj b (.cells (il g.T.length (setI f t (zas g f x y (f t) (ws.take (i + 1))))))) rfl rfl rfl ho (by rw [yv]; omega) ?_ ?_
  ·rw [zg, show 0 + t * 1 = t by omega, zc8 ht, zf3, min2_eq, fin]
  refine in64 (by omega) ?_
  refine ⟨i + 1, ?_, ⟨by omega, rfl⟩, ⟨Tq, Tq, Tq, Tq, Tq, Tq, Tq, Tq, Tv⟩, ⟨rfl, Tv⟩⟩
  show ws.length - (i + 1) < ws.length - i
  omega
 ·have hoff : ¬ onG g (x + ws[i].1) (y + ws[i].2) := fun hh => by have := hz.2 hh; rw [this] at c1; cases c1
  have hz0 : gv g f (x + ws[i].1) (y + ws[i].2) = 0 := if_neg hoff
  rw [hz0] at fin
  refine ⟨t, rfl, ht, ?_⟩
  refine za _ ho (za _ (yx ht) ?_)
  rw [wn]
  refine in64 (by omega) ?_
  refine ⟨t, rfl, ht, ?_⟩
  refine zj (i := ti3) (v := int (min2 V0 (0 + 1))) (b := b) (o := 0 + t * 1) (l := il g.T.length (setI f t V0)) (st2 := st.setObj b (.cells (il g.T.length (setI f t (zas g f x y (f t) (ws.take (i + 1))))))) rfl rfl rfl ho (by rw [yv]; omega) ?_ ?_
  ·rw [zg, show 0 + t * 1 = t by omega, zc8 ht, zf3, min2_eq, fin]
  refine in64 (by omega) ?_
  refine ⟨i + 1, ?_, ⟨by omega, rfl⟩, ⟨Tq, Tq, Tq, Tq, Tq, Tq, Tq, Tq, Tv⟩, ⟨rfl, Tv⟩⟩
  show ws.length - (i + 1) < ws.length - i
  omega
end Go.Proofs
namespace Go.Proofs
open Go Go.V
set_option maxRecDepth 4000
def zcf (o : Nat -> Bool) (t : Nat) : Int := if o t then 128 else 0
def zam (o : Nat -> Bool) (i t : Nat) : Int := if t < i then zcf o t else 0
theorem zvw (o : Nat -> Bool) (n : Nat) : ∀ t, t < n -> 0 <= zcf o t /\ zcf o t <= 128 := fun t _ => by unfold zcf; split <;> decide
def ypd (g : Gnd) (l : List Bld) (c : Int) : AV := lst 1 intC (ilL g.T.length (zf9 g (yc g l c)))
theorem zu2 (g : Gnd) (hg : gndP g) (l : List Bld) (hl : l.length <= 1000000000000) (hb : ∀ b ∈ l, bldP b /\ onP g b) (c : Int) (st : Store) (R : AV -> Store -> Prop) (h : R (ypd g l c) st) :
  ACalls Tryz.prog 294 [.agg (gndC g), lst 6 bldC l, int c] st R := by
 have ha := zr hg
 have fwd_ok : ∀ d ∈ fwdW, (d.1 ≠ 0 \/ d.2 ≠ 0) /\ (-1 <= d.1 /\ d.1 <= 1) /\ (-1 <= d.2 /\ d.2 <= 1) := by decide
 have bwd_ok : ∀ d ∈ bwdW, (d.1 ≠ 0 \/ d.2 ≠ 0) /\ (-1 <= d.1 /\ d.1 <= 1) /\ (-1 <= d.2 /\ d.2 <= 1) := by decide
 refine ACalls.of_awp (c := cfg 63) zc Tryz.func294 (by rfl) (by rfl) (by rfl) (by rfl) ?_
 refine AWp.seq (AWp.of_vc zc ?_)
 refine AWp.seq (AWp.of_vc zc ?_)
 refine qa rfl (it := ti29) (ie := ti3) rfl rfl rfl rfl rfl (n := (rws u8C g.T).length) ?_ ?_ (fun b hf => ?_)
 ·rw [zi]; show 8 * _ <= _; omega
 ·rw [zi]; omega
 rw [zi, zgr]
 refine AWp.meetA (σ := Unit) ⟨fun _ => [(3, .bx 3 0), (7, .av (blV b g.T.length))], fun _ => [(3, gndC g)], fun _ st' => st' = st.setObj b (.cells (il g.T.length (zcf (yc g l c))))⟩ ?_ ?_
 ·refine AWp.of_vc zc ?_
  refine xt g hg l hl hb c _ _ ?_
  refine AWp.loop (σ := Nat) ⟨fun i => [(3, .bx 3 0), (7, .av (blV b g.T.length)), (19, .av (opV g l c)), (20, .av (int (g.T.length : Nat))), (21, .av (int (i : Nat)))], fun _ => [(3, gndC g)],
   fun i st' => i <= g.T.length /\ st' = st.setObj b (.cells (il g.T.length (zam (yc g l c) i))), fun i => g.T.length - i⟩ zc ?_ ?_
  ·refine ⟨0, Tv, ⟨Nat.zero_le _, ?_⟩, ⟨Tq, Tq, Tq, ?_, Tq, Tv⟩, ⟨rfl, Tv⟩⟩
   ·rw [show zam (yc g l c) 0 = fun _ => 0 from funext fun t => if_neg (Nat.not_lt_zero t)]
   ·show LV.le (.av (int ((rws vg (blL g.T.length (yc g l c))).length : Nat))) (.av (int (g.T.length : Nat)))
    rw [zi, yo]; exact Tq
  rintro i st' ⟨hi, rfl⟩
  refine bcd (fun h1 => ?_) (fun h1 => ?_)
  rotate_left
  ·have : i = g.T.length := by omega
   subst this
   refine ⟨(), ?_, ⟨Tq, Tq, Tv⟩, ⟨rfl, Tv⟩⟩
   show st.setObj b (.cells (il g.T.length (zam (yc g l c) g.T.length))) = st.setObj b (.cells (il g.T.length (zcf (yc g l c))))
   rw [kh (f := zam (yc g l c) g.T.length) (g := zcf (yc g l c)) fun t ht => if_pos ht]
  have hlt : i < g.T.length := by omega
  have ho : (st.setObj b (.cells (il g.T.length (zam (yc g l c) i)))).obj b = some (.cells (il g.T.length (zam (yc g l c) i))) := zb _ _ _
  have hlt2 : i < (blL g.T.length (yc g l c)).length := by rw [yo]; exact hlt
  have s2 : ∀ s, s ≠ i -> zam (yc g l c) (i + 1) s = zam (yc g l c) i s := fun s hs => by
   unfold zam
   by_cases h3 : s < i
   ·rw [if_pos h3, if_pos (by omega)]
   ·rw [if_neg h3, if_neg (by omega)]
  have s1 : zam (yc g l c) (i + 1) i = zcf (yc g l c) i := if_pos (by omega)
  refine ⟨i, rfl, za _ (zh hlt2) ?_⟩
  refine zd (fun c1 => ?_) (fun c1 => ?_)
  ·rw [je hlt] at c1
   refine ⟨i, rfl, hlt, ?_⟩
   refine zj (i := ti3) (v := int 128) (b := b) (o := 0 + i * 1) (l := _) (st2 := st.setObj b (.cells (il g.T.length (zam (yc g l c) (i + 1))))) rfl rfl rfl ho (by rw [yv]; omega) ?_ ?_
   ·rw [zg, show 0 + i * 1 = i by omega, <- zwp hlt _ s2, s1]
    unfold zcf
    rw [if_pos c1]
   refine in64 (by omega) ?_
   refine ⟨i + 1, ?_, ⟨by omega, rfl⟩, ⟨Tq, Tq, Tq, Tq, Tq, Tv⟩, ⟨rfl, Tv⟩⟩
   show g.T.length - (i + 1) < g.T.length - i
   omega
  ·rw [je hlt] at c1
   refine in64 (by omega) ?_
   refine ⟨i + 1, ?_, ⟨by omega, ?_⟩, ⟨Tq, Tq, Tq, Tq, Tq, Tv⟩, ⟨rfl, Tv⟩⟩
   ·show g.T.length - (i + 1) < g.T.length - i
    omega
   ·refine congrArg (fun f => st.setObj b (.cells (il g.T.length f))) (funext fun s => ?_)
    by_cases h3 : s = i
    ·subst h3
     rw [s1]
     unfold zcf zam
     rw [if_neg (by omega), if_neg (by rw [c1]; decide)]
    ·exact (s2 s h3).symm
 rintro _ _ rfl
 refine AWp.meetA (σ := Unit) ⟨fun _ => [(3, .bx 3 0), (7, .av (blV b g.T.length))], fun _ => [(3, gndC g)], fun _ st' => st' = st.setObj b (.cells (il g.T.length (jf g (zcf (yc g l c)) g.T.length)))⟩ ?_ ?_
 ·refine AWp.of_vc zc ?_
  refine AWp.loop (σ := Nat) ⟨fun i => [(3, .bx 3 0), (7, .av (blV b g.T.length)), (32, .av (int (g.T.length : Nat))), (33, .av (int (i : Nat)))], fun _ => [(3, gndC g)],
   fun i st' => i <= g.T.length /\ st' = st.setObj b (.cells (il g.T.length (jf g (zcf (yc g l c)) i))), fun i => g.T.length - i⟩ zc ?_ ?_
  ·exact ⟨0, Tv, ⟨Nat.zero_le _, rfl⟩, ⟨Tq, Tq, Tq, Tq, Tv⟩, ⟨rfl, Tv⟩⟩
  rintro i st' ⟨hi, rfl⟩
  refine bcd (fun h1 => ?_) (fun h1 => ?_)
  rotate_left
  ·have : i = g.T.length := by omega
   subst this
   exact ⟨(), rfl, ⟨Tq, Tq, Tv⟩, ⟨rfl, Tv⟩⟩
  have hlt : i < g.T.length := by omega
  refine ⟨by decide, ?_⟩
  refine zl3 g hg (jf g (zcf (yc g l c)) i) (zjj hg (zvw _ _) i hi) i hlt fwdW fwd_ok (by decide) b _ _ ?_
  refine in64 (by omega) ?_
  refine ⟨i + 1, ?_, ⟨by omega, rfl⟩, ⟨Tq, Tq, Tq, Tq, Tv⟩, ⟨rfl, Tv⟩⟩
  show g.T.length - (i + 1) < g.T.length - i
  omega
 rintro _ _ rfl
 have hbA := zjj hg (zvw (yc g l c) g.T.length) g.T.length (Nat.le_refl _)
 have hroom : zf9 g (yc g l c) = vm g (jf g (zcf (yc g l c)) g.T.length) g.T.length g.T.length := rfl
 generalize jf g (zcf (yc g l c)) g.T.length = FA at *
 refine AWp.meetA (σ := Unit) ⟨fun _ => [(7, .av (blV b g.T.length))], fun _ => [], fun _ st' => st' = st.setObj b (.cells (il g.T.length (zf9 g (yc g l c))))⟩ ?_ ?_
 ·refine AWp.of_vc zc ?_
  refine in64 (by omega) ?_
  refine AWp.loop (σ := Nat) ⟨fun j => [(3, .bx 3 0), (7, .av (blV b g.T.length)), (11, .av (int ((g.T.length : Int) - 1 - (j : Nat))))], fun _ => [(3, gndC g)],
   fun j st' => j <= g.T.length /\ st' = st.setObj b (.cells (il g.T.length (vm g FA g.T.length j))), fun j => g.T.length - j⟩ zc ?_ ?_
  ·refine ⟨0, Tv, ⟨Nat.zero_le _, rfl⟩, ⟨Tq, Tq, ?_, Tv⟩, ⟨rfl, Tv⟩⟩
   rw [show (g.T.length : Int) - 1 - ((0 : Nat) : Int) = (g.T.length : Int) - 1 by omega]; exact Tq
  rintro j st' ⟨hj, rfl⟩
  refine bcd (fun h1 => ?_) (fun h1 => ?_)
  rotate_left
  ·have : j = g.T.length := by omega
   subst this
   exact ⟨(), by rw [hroom], ⟨Tq, Tv⟩, Tv⟩
  have hlt : j < g.T.length := by omega
  refine ⟨by decide, ?_⟩
  refine ACalls.le (ys := [.agg (gndC g), blV b g.T.length, int ((g.T.length - 1 - j : Nat) : Int), lst 2 wayC bwdW]) ⟨Tt, Tt, by rw [show (g.T.length : Int) - 1 - (j : Int) = ((g.T.length - 1 - j : Nat) : Int) by omega]; exact Tt, Tt, Tv⟩ ?_
  refine zl3 g hg (vm g FA g.T.length j) (zp0 hg hbA j hj) (g.T.length - 1 - j) (by omega) bwdW bwd_ok (by decide) b _ _ ?_
  refine in64 (by omega) ?_
  refine ⟨j + 1, ?_, ⟨by omega, rfl⟩, ⟨Tq, Tq, ?_, Tv⟩, ⟨rfl, Tv⟩⟩
  ·show g.T.length - (j + 1) < g.T.length - j
   omega
  ·rw [show (g.T.length : Int) - 1 - ((j + 1 : Nat) : Int) = (g.T.length : Int) - 1 - (j : Nat) - 1 by omega]; exact Tq
 rintro _ _ rfl
 refine AWp.freeze (d := 7) (b := b) (k := 1) (n := g.T.length) (cap := g.T.length) (rows := rws intC (ilL g.T.length (zf9 g (yc g l c)))) (pad := []) rfl ?_ ?_ ?_ (Nat.le_refl _) ?_ ?_ ?_
 ·rw [List.append_nil, zwq]; exact zb _ _ _
 ·exact hf.2
 ·rw [zi, k9]
 ·intro row hr
  obtain ⟨x, _, rfl⟩ := List.mem_map.1 hr
  rfl
 ·intro row hr y hy
  obtain ⟨x, _, rfl⟩ := List.mem_map.1 hr
  simp [intC] at hy
  exact ⟨_, hy, rfl⟩
 rw [xc hf.1]
 refine AWp.of_vc zc ?_
 exact ret h
end Go.Proofs
namespace Go.Proofs
open Go Go.V
set_option maxRecDepth 4000
def vj (g : Gnd) (l : List Bld) (c s : Int) (i t : Nat) : Bool := if t < i then zk g l c s t else false
theorem yiu (g : Gnd) (hg : gndP g) (l : List Bld) (hl : l.length <= 1000000000000) (hb : ∀ b ∈ l, bldP b /\ onP g b) (c s : Int) (hs : 0 <= s /\ s <= 3) (st : Store) (R : AV -> Store -> Prop) (h : R (zgt g l c s) st) :
  ACalls Tryz.prog 279 [.agg (gndC g), lst 6 bldC l, int c, int s] st R := by
 have ha := zr hg
 refine ACalls.of_awp (c := cfg 34) zc Tryz.func279 (by rfl) (by rfl) (by rfl) (by rfl) ?_
 refine AWp.seq (AWp.of_vc zc ?_)
 refine AWp.seq (AWp.of_vc zc ?_)
 refine qa rfl (it := ti60) (ie := ti4) rfl rfl rfl rfl rfl (n := (rws u8C g.T).length) ?_ ?_ (fun b hf => ?_)
 ·rw [zi]; show 1 * _ <= _; omega
 ·rw [zi]; omega
 rw [zi, zbj]
 refine AWp.meetA (σ := Unit) ⟨fun _ => [(9, .av (blV b g.T.length))], fun _ => [], fun _ st' => st' = st.setObj b (.cells (bl g.T.length (zk g l c s)))⟩ ?_ ?_
 ·refine AWp.of_vc zc ?_
  refine zu2 g hg l hl hb c _ _ ?_
  refine AWp.loop (σ := Nat) ⟨fun i => [(3, .av (int s)), (9, .av (blV b g.T.length)), (19, .av (ypd g l c)), (20, .av (int (g.T.length : Nat))), (21, .av (int (i : Nat)))], fun _ => [],
   fun i st' => i <= g.T.length /\ st' = st.setObj b (.cells (bl g.T.length (vj g l c s i))), fun i => g.T.length - i⟩ zc ?_ ?_
  ·refine ⟨0, Tv, ⟨Nat.zero_le _, ?_⟩, ⟨Tq, Tq, Tq, ?_, Tq, Tv⟩, Tv⟩
   ·rw [show vj g l c s 0 = fun _ => false from funext fun t => if_neg (Nat.not_lt_zero t)]
   ·show LV.le (.av (int ((rws intC (ilL g.T.length (zf9 g (yc g l c)))).length : Nat))) (.av (int (g.T.length : Nat)))
    rw [zi, k9]; exact Tq
  rintro i st' ⟨hi, rfl⟩
  refine bcd (fun h1 => ?_) (fun h1 => ?_)
  rotate_left
  ·have : i = g.T.length := by omega
   subst this
   refine ⟨(), ?_, ⟨Tq, Tv⟩, Tv⟩
   show st.setObj b (.cells (bl g.T.length (vj g l c s g.T.length))) = st.setObj b (.cells (bl g.T.length (zk g l c s)))
   rw [zku (f := vj g l c s g.T.length) (g := zk g l c s) fun t ht => if_pos ht]
  have hlt : i < g.T.length := by omega
  have ho : (st.setObj b (.cells (bl g.T.length (vj g l c s i)))).obj b = some (.cells (bl g.T.length (vj g l c s i))) := zb _ _ _
  have hlt2 : i < (ilL g.T.length (zf9 g (yc g l c))).length := by rw [k9]; exact hlt
  have s2 : ∀ q, q ≠ i -> vj g l c s (i + 1) q = vj g l c s i q := fun q hq => by
   unfold vj
   by_cases h3 : q < i
   ·rw [if_pos h3, if_pos (by omega)]
   ·rw [if_neg h3, if_neg (by omega)]
  have s1 : vj g l c s (i + 1) i = zk g l c s i := if_pos (by omega)
  refine ⟨i, rfl, za _ (zh hlt2) ?_⟩
  refine ⟨i, rfl, hlt, ?_⟩
  refine zj (i := ti4) (v := V.bool (decide (s < (ilL g.T.length (zf9 g (yc g l c)))[i]))) (b := b) (o := 0 + i * 1) (l := _) (st2 := st.setObj b (.cells (bl g.T.length (vj g l c s (i + 1))))) rfl rfl rfl ho (by rw [xg]; omega) ?_ ?_
  ·rw [zg, show 0 + i * 1 = i by omega, <- zbk hlt _ s2, s1, zwr hlt, zw2 hg l c hs hlt]
  refine in64 (by omega) ?_
  refine ⟨i + 1, ?_, ⟨by omega, rfl⟩, ⟨Tq, Tq, Tq, Tq, Tq, Tv⟩, Tv⟩
  show g.T.length - (i + 1) < g.T.length - i
  omega
 rintro _ _ rfl
 refine AWp.freeze (d := 9) (b := b) (k := 1) (n := g.T.length) (cap := g.T.length) (rows := rws vg (blL g.T.length (zk g l c s))) (pad := []) rfl ?_ ?_ ?_ (Nat.le_refl _) ?_ ?_ ?_
 ·rw [ky]; exact zb _ _ _
 ·exact hf.2
 ·rw [zi, yo]
 ·intro row hr
  obtain ⟨x, _, rfl⟩ := List.mem_map.1 hr
  rfl
 ·intro row hr y hy
  obtain ⟨x, _, rfl⟩ := List.mem_map.1 hr
  simp [vg] at hy
  exact ⟨_, hy, rfl⟩
 rw [xc hf.1]
 refine AWp.of_vc zc ?_
 exact ret h
/-- A net, in an object. -/
def netC (g : Gnd) (l : List Bld) (c s : Int) : List AV := gndC g ++ [int c, zgt g l c s]
theorem ziv (g : Gnd) (hg : gndP g) (l : List Bld) (hl : l.length <= 1000000000000) (hb : ∀ b ∈ l, bldP b /\ onP g b) (c s : Int) (hs : 0 <= s /\ s <= 3) (st : Store) (R : AV -> Store -> Prop) (h : ∀ b, Fresh st b -> R (ptr b) (st.setObj b (.cells (netC g l c s)))) :
  ACalls Tryz.prog 269 [.agg (gndC g), lst 6 bldC l, int c, int s] st R := by
 refine ACalls.of_body (c := cfg 18 [17] []) zc Tryz.func269 (by rfl) (by rfl) (by rfl) (by rfl) ?_
 refine ADraw.of_sched zc (by rfl) (by rfl) ygg (by rfl) ?_
 refine ⟨yiu g hg l hl hb c s hs _ _ ⟨(by repeat (first | exact Tv | refine ⟨rfl, ?_⟩ | refine ⟨optR (optR (optR (za _ (zb _ _ _) rfl))), ?_⟩)), ?_⟩, Tv⟩
 refine ⟨fun b hf => ⟨(by repeat (first | exact Tv | refine ⟨rfl, ?_⟩ | refine ⟨optR (optR (optR (za _ (zb _ _ _) rfl))), ?_⟩)), ?_⟩, Tv⟩
 refine ⟨⟨Tv, ?_⟩, Tv⟩
 exact ret (h b hf)
set_option maxRecDepth 10000 in
theorem wq (g : Gnd) (hg : gndP g) (t : Nat) (ht : t < g.T.length) (st : Store) (R : AV -> Store -> Prop) (h : R (ints (jq g t)) st) : ACalls Tryz.prog 52 [.agg (gndC g), int t] st R := by
 have hm := zr hg
 have htb := za0 hg (t := t) (by omega)
 have hq := trem (t := t) hg.1.1
 have hq2 := tquo (t := t) hg.1.1
 have hg1 := hg.1
 have hg2 := hg.2.1
 unfold jq at h
 generalize (t : Int) % g.W = x at *
 generalize (t : Int) / g.W = y at *
 have hd : ∀ i, (hi : i < 8) -> -1 <= (dirL[i]'hi).1 /\ (dirL[i]'hi).1 <= 1 /\ -1 <= (dirL[i]'hi).2 /\ (dirL[i]'hi).2 <= 1 := by decide
 refine ACalls.of_body (c := cfg 64) zc Tryz.func52 (by rfl) (by rfl) (by rfl) (by rfl) ?_
 refine AWp.loop (σ := Nat × AV) ⟨fun s => [(1, .av (int (t : Nat))), (2, .bx 2 0), (5, .bx 5 0), (6, .bx 6 0), (7, .av s.2), (8, .av (int (s.1 : Nat)))], fun _ => [(2, gndC g), (5, dirL.map fun d => int d.1), (6, dirL.map fun d => int d.2)],
  fun s st' => s.1 <= 8 /\ App 1 st s.2 (rws intC ((dirL.take s.1).map (xl g x y))) st', fun s => 8 - s.1⟩ zc ?_ ?_
 ·exact ⟨(0, _), Tv, ⟨Nat.zero_le _, App.start 1 st⟩, ⟨Tq, Tq, Tq, Tq, Tq, Tq, Tv⟩, ⟨rfl, rfl, rfl, Tv⟩⟩
 rintro ⟨i, v⟩ st' ⟨hi, ha⟩
 dsimp only at hi ha ⊢
 refine bcd (fun h1 => ?_) (fun h1 => ?_)
 rotate_left
 ·have : i = 8 := by omega
  subst this
  exact ⟨_, st, AV.le_trans ha.le (Tt), ha.has, h⟩
 have hlt : i < 8 := by omega
 have hdi := hd i hlt
 have hx5 : ((dirL.map fun d => int d.1).drop (0 + i * 1)).head? = some (int (dirL[i]'hlt).1) := by
  rw [List.head?_drop, show 0 + i * 1 = i by omega, List.getElem?_map, List.getElem?_eq_getElem hlt]; rfl
 have hx6 : ((dirL.map fun d => int d.2).drop (0 + i * 1)).head? = some (int (dirL[i]'hlt).2) := by
  rw [List.head?_drop, show 0 + i * 1 = i by omega, List.getElem?_map, List.getElem?_eq_getElem hlt]; rfl
 have hstep : (dirL.take (i + 1)).map (xl g x y) = (dirL.take i).map (xl g x y) ++ [xl g x y (dirL[i]'hlt)] := by
  rw [List.take_succ_eq_append_getElem hlt, List.map_append]; rfl
 have hlen : ((dirL.take i).map (xl g x y)).length <= 8 := by rw [List.length_map, List.length_take]; exact Nat.min_le_right _ _
 have hna : xl g x y (dirL[i]'hlt) = if onG g (x + (dirL[i]'hlt).1) (y + (dirL[i]'hlt).2) then x + (dirL[i]'hlt).1 + g.W * (y + (dirL[i]'hlt).2) else -1 := rfl
 generalize hD : dirL[i]'hlt = d at *
 refine ADraw.of_sched zc (by rfl) (by rfl) ync (by rfl) ?_
 refine ⟨by omega, ?_⟩
 refine ⟨i, rfl, hlt, ?_⟩
 refine za _ hx5 ?_
 refine in64 (by omega) ?_
 refine ⟨by omega, ?_⟩
 refine in64 (by omega) ?_
 refine ⟨i, rfl, hlt, ?_⟩
 refine za _ hx6 ?_
 refine in64 (by omega) ?_
 refine ⟨⟨(by repeat (first | exact Tv | refine ⟨rfl, ?_⟩ | refine ⟨⟨i, rfl, hlt, rfl⟩, ?_⟩ | refine ⟨za (o := List.head? _) _ hx5 rfl, ?_⟩ | refine ⟨za (o := List.head? _) _ hx6 rfl, ?_⟩ | refine ⟨in64 (by omega) rfl, ?_⟩ | refine ⟨⟨by omega, rfl⟩, ?_⟩)), ?_⟩, Tv⟩
 refine ⟨⟨(by repeat (first | exact Tv | refine ⟨rfl, ?_⟩ | refine ⟨⟨i, rfl, hlt, rfl⟩, ?_⟩ | refine ⟨za (o := List.head? _) _ hx5 rfl, ?_⟩ | refine ⟨za (o := List.head? _) _ hx6 rfl, ?_⟩ | refine ⟨in64 (by omega) rfl, ?_⟩ | refine ⟨⟨by omega, rfl⟩, ?_⟩)), ?_⟩, Tv⟩
 rw [hq, hq2]
 have app : ∀ z, z = xl g x y d -> ∀ v2 st2, App 1 st v2 (rws intC ((dirL.take i).map (xl g x y)) ++ [intC z]) st2 -> App 1 st v2 (rws intC ((dirL.take (i + 1)).map (xl g x y))) st2 := fun z hz v2 st2 h2 => by
  rw [hstep, <- zuu]
  subst hz
  exact h2
 have out : ¬ onG g (x + d.1) (y + d.2) -> xl g x y d = -1 := fun hn => by rw [hna, if_neg hn]
 have rest : ∀ {Q : AV -> Store -> Prop}, (∀ v2 st2, App 1 st v2 (rws intC ((dirL.take (i + 1)).map (xl g x y))) st2 -> Q v2 st2) -> ¬ onG g (x + d.1) (y + d.2) -> appendK Tryz.prog (cfg 64) st' 3 (.av v) (.av (.lst 1 [[int (-1)]] none)) Q := fun hQ hn =>
  ql (ie := ti3) (rows' := [intC (-1)]) ha rfl rfl ⟨by simp only [zi, List.length_singleton, ti3]; omega, by simp only [zi, List.length_singleton]; omega⟩ (fun v2 st2 h2 => hQ v2 st2 (app (-1) (out hn).symm v2 st2 h2))
 have next : ∀ v2 st2, App 1 st v2 (rws intC ((dirL.take (i + 1)).map (xl g x y))) st2 -> ∃ s : Nat × AV, 8 - s.1 < 8 - i /\ (s.1 <= 8 /\ App 1 st s.2 (rws intC ((dirL.take s.1).map (xl g x y))) st2) /\ s = (i + 1, v2) := fun v2 st2 h2 => ⟨(i + 1, v2), by dsimp only; omega, ⟨by dsimp only; omega, h2⟩, rfl⟩
 refine bcd (fun c1 => ?_) (fun c1 => ?_)
 ·refine ⟨by decide, ?_⟩
  refine rest (fun v2 st2 h2 => ?_) (fun hh => by have := hh.1.1; omega)
  obtain ⟨s, f1, f2, rfl⟩ := next v2 st2 h2
  refine in64 (by omega) ?_
  exact ⟨(i + 1, v2), f1, f2, ⟨Tq, Tq, Tq, Tq, Tq, Tq, Tv⟩, ⟨rfl, rfl, rfl, Tv⟩⟩
 refine bcd (fun c2 => ?_) (fun c2 => ?_)
 ·refine ⟨by decide, ?_⟩
  refine rest (fun v2 st2 h2 => ?_) (fun hh => by have := hh.1.2; omega)
  obtain ⟨s, f1, f2, rfl⟩ := next v2 st2 h2
  refine in64 (by omega) ?_
  exact ⟨(i + 1, v2), f1, f2, ⟨Tq, Tq, Tq, Tq, Tq, Tq, Tv⟩, ⟨rfl, rfl, rfl, Tv⟩⟩
 refine bcd (fun c3 => ?_) (fun c3 => ?_)
 ·refine ⟨by decide, ?_⟩
  refine rest (fun v2 st2 h2 => ?_) (fun hh => by have := hh.2.1; omega)
  obtain ⟨s, f1, f2, rfl⟩ := next v2 st2 h2
  refine in64 (by omega) ?_
  exact ⟨(i + 1, v2), f1, f2, ⟨Tq, Tq, Tq, Tq, Tq, Tq, Tv⟩, ⟨rfl, rfl, rfl, Tv⟩⟩
 refine bcd (fun c4 => ?_) (fun c4 => ?_)
 ·refine ⟨by decide, ?_⟩
  refine rest (fun v2 st2 h2 => ?_) (fun hh => by have := hh.2.2; omega)
  obtain ⟨s, f1, f2, rfl⟩ := next v2 st2 h2
  refine in64 (by omega) ?_
  exact ⟨(i + 1, v2), f1, f2, ⟨Tq, Tq, Tq, Tq, Tq, Tq, Tv⟩, ⟨rfl, rfl, rfl, Tv⟩⟩
 have hon : onG g (x + d.1) (y + d.2) := ⟨⟨by omega, by omega⟩, by omega, by omega⟩
 obtain ⟨e1, e2, _, _⟩ := xq hg hon
 have hpos : 0 <= g.W * (y + d.2) := Int.mul_nonneg (by omega) (by omega)
 refine in64 (by omega) ?_
 refine in64 (by omega) ?_
 refine ⟨by decide, ?_⟩
 refine ql (ie := ti3) (rows' := [intC (x + d.1 + g.W * (y + d.2))]) ha ?_ ?_ ⟨?_, ?_⟩ (fun v2 st2 h2 => ?_)
 ·rfl
 ·rfl
 ·simp only [zi, List.length_singleton, ti3]; omega
 ·simp only [zi, List.length_singleton]; omega
 obtain ⟨s, f1, f2, rfl⟩ := next v2 st2 (app _ (by rw [hna, if_pos hon]) v2 st2 h2)
 refine in64 (by omega) ?_
 exact ⟨(i + 1, v2), f1, f2, ⟨Tq, Tq, Tq, Tq, Tq, Tq, Tv⟩, ⟨rfl, rfl, rfl, Tv⟩⟩
end Go.Proofs
namespace Go.Proofs
open Go Go.V
set_option maxRecDepth 4000
def inV (g : Gnd) (o : Nat -> Bool) (r : Nat) : AV := lst 1 vg (blL g.T.length (sqT g o r))
def gS (st : Store) (g : Gnd) (bn bx : Nat) (f : Nat -> Int) (nx : Nat -> Bool) : Store := (st.setObj bn (.cells (il g.T.length f))).setObj bx (.cells (bl g.T.length nx))
set_option maxHeartbeats 1000000 in
theorem zr1 (g : Gnd) (hg : gndP g) (l : List Bld) (hl : l.length <= 1000000000000) (hb : ∀ b ∈ l, bldP b /\ onP g b) (c : Int) (hc : c = 0 \/ c = 1 \/ c = 2) (st : Store) (R : AV -> Store -> Prop)
  (h : ∀ f, yil g (yc g l c) f -> R (lst 1 intC (ilL g.T.length f)) st) : ACalls Tryz.prog 63 [.agg (gndC g), lst 6 bldC l, int c] st R := by
 have ha := zr hg
 refine ACalls.of_awp (c := cfg 79) zc Tryz.func63 (by rfl) (by rfl) (by rfl) (by rfl) ?_
 refine AWp.seq (AWp.of_vc zc ?_)
 refine AWp.seq (AWp.of_vc zc ?_)
 refine zic g hg l hl hb c hc _ _ ?_
 generalize ho : yc g l c = o at *
 have hopV : opV g l c = inV g o 0 := by
  unfold opV inV
  rw [ho, zx2 fun t ht => (yfu hg o ht).symm]
 refine AWp.seq (AWp.of_vc zc ?_)
 refine qa rfl (it := ti29) (ie := ti3) rfl rfl rfl rfl rfl (n := (rws vg (blL g.T.length (yc g l c))).length) ?_ ?_ (fun bn hfn => ?_)
 ·rw [zi, yo]; show 8 * _ <= _; omega
 ·rw [zi, yo]; omega
 rw [zi, yo, zgr]
 refine AWp.meetA (σ := Nat -> Int) ⟨fun _ => [(8, .av (blV bn g.T.length))], fun _ => [], fun f st' => yil g o f /\ st' = st.setObj bn (.cells (il g.T.length f))⟩ ?_ ?_
 ·refine AWp.seq (AWp.of_vc zc ?_)
  refine AWp.block ?_
  refine AWp.loopA (σ := Nat × Bool × (Nat -> Int)) ⟨fun s => [(3, .bx 3 0), (7, .av (inV g o s.1)), (8, .av (blV bn g.T.length)), (9, .av (V.bool s.2.1))], fun _ => [(3, gndC g)],
   fun s st' => st' = st.setObj bn (.cells (il g.T.length s.2.2)) /\ ze4 g o s.1 0 s.2.2 /\ s.1 <= 64 /\ (s.2.1 = true -> s.1 <= 63) /\ (s.2.1 = false -> ∀ t, t < g.T.length -> sqT g o s.1 t = false), fun s => 200 - s.1⟩ ?_ ?_
  ·refine ⟨(0, true, fun _ => 0), Tv, ⟨rfl, zsu g o, by decide, fun _ => by decide, fun hh => by cases hh⟩, ⟨Tq, ?_, Tq, Tq, Tv⟩, ⟨rfl, Tv⟩⟩
   dsimp only
   rw [<- hopV]; exact Tq
  rintro ⟨r, left, f⟩ st' ⟨rfl, hgp, hr, hl1, hl2⟩
  dsimp only at hgp hr hl1 hl2 ⊢
  refine AWp.seq (AWp.of_vc zc ?_)
  refine zd (fun c1 => ?_) (fun c1 => ?_)
  rotate_left
  ·exact ⟨f, ⟨zwz hgp (hl2 c1), rfl⟩, ⟨Tq, Tv⟩, Tv⟩
  have hr63 := hl1 c1
  refine AWp.block ?_
  refine AWp.seq (AWp.of_vc zc ?_)
  refine AWp.seq (AWp.of_vc zc ?_)
  refine qa rfl (it := ti60) (ie := ti4) rfl rfl rfl rfl rfl (n := (rws vg (blL g.T.length (sqT g o r))).length) ?_ ?_ (fun bx hfx => ?_)
  ·rw [zi, yo]; show 1 * _ <= _; omega
  ·rw [zi, yo]; omega
  rw [zi, yo, zbj]
  have hne : bx ≠ bn := fun e => by
   have := hfx.1
   rw [e, zb] at this
   cases this
  refine AWp.meetA (σ := Nat -> Int) ⟨fun _ => [(3, .bx 3 0), (8, .av (blV bn g.T.length)), (9, .av (V.bool (zd3 g o r g.T.length))), (10, .av (blV bx g.T.length))], fun _ => [(3, gndC g)],
   fun f st' => ze4 g o (r + 1) 0 f /\ st' = gS st g bn bx f (sqT g o (r + 1))⟩ ?_ ?_
  ·refine AWp.of_vc zc ?_
   refine AWp.loop (σ := Nat × (Nat -> Int)) ⟨fun s => [(3, .bx 3 0), (7, .av (inV g o r)), (8, .av (blV bn g.T.length)), (9, .av (V.bool (zd3 g o r s.1))), (10, .av (blV bx g.T.length)), (11, .av (int (s.1 : Nat)))], fun _ => [(3, gndC g)],
    fun s st' => s.1 <= g.T.length /\ ze4 g o r s.1 s.2 /\ st' = gS st g bn bx s.2 (nxF g o r s.1 false), fun s => g.T.length - s.1⟩ zc ?_ ?_
   ·exact ⟨(0, f), Tv, ⟨Nat.zero_le _, hgp, by unfold gS; rw [yh5]⟩, ⟨Tq, Tq, Tq, Tq, Tq, Tq, Tv⟩, ⟨rfl, Tv⟩⟩
   rintro ⟨t, f1⟩ st' ⟨ht, hgp1, rfl⟩
   dsimp only at ht hgp1 ⊢
   refine bcd (fun h1 => ?_) (fun h1 => ?_)
   rotate_left
   ·rw [zi, yo] at h1
    have : t = g.T.length := by omega
    subst this
    refine ⟨f1, ⟨zsv hgp1, ?_⟩, ⟨Tq, Tq, Tq, Tq, Tv⟩, ⟨rfl, Tv⟩⟩
    unfold gS
    rw [zku (ynx g o r g.T.length)]
   rw [zi, yo] at h1
   have hlt : t < g.T.length := by omega
   have hlt2 : t < (blL g.T.length (sqT g o r)).length := by rw [yo]; exact hlt
   have hsn := yfv hg (o := o) (r := r) hlt
   have hls := zsk g o r t
   refine ⟨t, rfl, za _ (zh hlt2) ?_⟩
   rw [je hlt]
   refine yk ?_
   refine zd (fun c2 => ?_) (fun c2 => ?_)
   rotate_left
   ·rw [c2, Bool.false_and] at hsn
    refine in64 (by omega) ?_
    refine ⟨(t + 1, f1), ?_, ⟨by dsimp only; omega, yim hgp1 c2, ?_⟩, ⟨Tq, Tq, Tq, ?_, Tq, Tq, Tv⟩, ⟨rfl, Tv⟩⟩
    ·show g.T.length - (t + 1) < g.T.length - t
     omega
    ·show gS st g bn bx f1 (nxF g o r t false) = gS st g bn bx f1 (nxF g o r (t + 1) false)
     rw [<- zqg, hsn]
    ·show LV.le (.av (V.bool (zd3 g o r t))) (.av (V.bool (zd3 g o r (t + 1))))
     rw [hls, hsn, Bool.or_false]; exact Tq
   rw [c2, Bool.true_and] at hsn
   have hgp2 := zwy hgp1 hlt c2
   have hfb := yn9 hgp1 hlt
   have hon : (gS st g bn bx f1 (nxF g o r t false)).obj bn = some (.cells (il g.T.length f1)) := (zf (Ne.symm hne)).trans (zb _ _ _)
   refine ⟨t, rfl, hlt, ?_⟩
   refine za _ hon (za _ (yx hlt) ?_)
   refine in64 (by omega) ?_
   refine ⟨t, rfl, hlt, ?_⟩
   refine zj (i := ti3) (v := int (f1 t + 1)) (b := bn) (o := 0 + t * 1) (l := il g.T.length f1) (st2 := gS st g bn bx (setI f1 t (f1 t + 1)) (nxF g o r t false)) rfl rfl rfl hon (by rw [yv]; omega) ?_ ?_
   ·unfold gS
    rw [jk (Ne.symm hne), zg, show 0 + t * 1 = t by omega, zc8 hlt]
   generalize setI f1 t (f1 t + 1) = f2 at *
   have hx : ∀ v, (gS st g bn bx f2 (nxF g o r t v)).obj bx = some (.cells (bl g.T.length (nxF g o r t v))) := fun v => zb _ _ _
   have hst : ∀ v u, (gS st g bn bx f2 (nxF g o r t v)).setObj bx (.cells (zo (bl g.T.length (nxF g o r t v)) (0 + t * 1) [V.bool u])) = gS st g bn bx f2 (nxF g o r t u) := fun v u => by
    have := zbk (f := nxF g o r t v) hlt (nxF g o r t u) (fun s hs => ypk g o r t u v hs)
    rw [zqh] at this
    unfold gS
    rw [zg, show 0 + t * 1 = t by omega, this]
   refine ⟨t, rfl, hlt, ?_⟩
   refine zj (i := ti4) (v := V.bool true) (b := bx) (o := 0 + t * 1) (l := bl g.T.length (nxF g o r t false)) (st2 := gS st g bn bx f2 (nxF g o r t true)) rfl rfl rfl (hx _) (by rw [xg]; omega) (hst _ _) ?_
   refine wq g hg t hlt _ _ ?_
   have hnb : ∀ i, (hi : i < (jq g t).length) -> (jq g t)[i] = -1 \/ ∃ m : Nat, (jq g t)[i] = m /\ m < g.T.length := fun i hi => zl7 hg (List.getElem_mem hi)
   have hn8 := k7 g t
   generalize hN : jq g t = N at *
   refine AWp.loop (σ := Nat) ⟨fun i => [(3, .bx 3 0), (7, .av (inV g o r)), (8, .av (blV bn g.T.length)), (9, .av (V.bool (zd3 g o r t))), (10, .av (blV bx g.T.length)), (11, .av (int (t : Nat))), (12, .av (ints N)), (13, .av (int (i : Nat)))], fun _ => [(3, gndC g)],
    fun i st' => i <= 8 /\ st' = gS st g bn bx f2 (nxF g o r t ((N.take i).all (okB g o r))), fun i => 8 - i⟩ zc ?_ ?_
   ·exact ⟨0, Tv, ⟨Nat.zero_le _, by rw [List.take_zero]; rfl⟩, ⟨Tq, Tq, Tq, Tq, Tq, Tq, Tq, Tq, Tv⟩, ⟨rfl, Tv⟩⟩
   rintro i st' ⟨hi, rfl⟩
   refine bcd (fun h2 => ?_) (fun h2 => ?_)
   rotate_left
   ·have : i = 8 := by omega
    subst this
    have htk : N.take 8 = N := by rw [<- hn8, List.take_length]
    rw [htk, <- hsn]
    have fin : ∀ b9 : AV, b9 = V.bool (zd3 g o r (t + 1)) -> LV.le (.av b9) (.av (V.bool (zd3 g o r (t + 1)))) := fun b9 e => by rw [e]; exact Tq
    have eS : gS st g bn bx f2 (nxF g o r t (sqT g o (r + 1) t)) = gS st g bn bx f2 (nxF g o r (t + 1) false) := by rw [zqg]
    have hx9 := hx (sqT g o (r + 1) t)
    have hdec : g.T.length - (t + 1) < g.T.length - t := by omega
    refine zd (fun c3 => ?_) (fun c3 => ?_)
    ·refine in64 (by omega) ?_
     exact ⟨(t + 1, f2), hdec, ⟨by dsimp only; omega, hgp2, eS⟩, ⟨Tq, Tq, Tq, fin _ (by rw [hls, c3, Bool.true_or]; rfl), Tq, Tq, Tv⟩, ⟨rfl, Tv⟩⟩
    ·refine ⟨t, rfl, hlt, ?_⟩
     refine za _ hx9 (za _ (zkt hlt) ?_)
     refine in64 (by omega) ?_
     exact ⟨(t + 1, f2), hdec, ⟨by dsimp only; omega, hgp2, eS⟩, ⟨Tq, Tq, Tq, fin _ (by rw [hls, c3, Bool.false_or, zqh]), Tq, Tq, Tv⟩, ⟨rfl, Tv⟩⟩
   have hi8 : i < N.length := by omega
   have hal : (N.take (i + 1)).all (okB g o r) = ((N.take i).all (okB g o r) && okB g o r N[i]) := by
    rw [List.take_succ_eq_append_getElem hi8, List.all_append]
    simp
   have hx9 := hx ((N.take i).all (okB g o r))
   have hst9 := hst ((N.take i).all (okB g o r)) false
   have hdec : 8 - (i + 1) < 8 - i := by omega
   refine ⟨i, rfl, za _ (zh hi8) ?_⟩
   refine bcd (fun c3 => ?_) (fun c3 => ?_)
   ·have hok : okB g o r N[i] = false := by
     unfold okB
     rw [decide_eq_false (by omega), Bool.false_and]
    rw [hok, Bool.and_false] at hal
    refine ⟨t, rfl, hlt, ?_⟩
    refine zj (i := ti4) (v := V.bool false) (b := bx) (o := 0 + t * 1) (l := _) (st2 := gS st g bn bx f2 (nxF g o r t false)) rfl rfl rfl hx9 (by rw [xg]; omega) hst9 ?_
    refine in64 (by omega) ?_
    exact ⟨i + 1, hdec, ⟨by omega, by rw [hal]⟩, ⟨Tq, Tq, Tq, Tq, Tq, Tq, Tq, Tq, Tv⟩, ⟨rfl, Tv⟩⟩
   rcases hnb i hi8 with q | ⟨m, q1, q2⟩
   ·omega
   have hm2 : m < (blL g.T.length (sqT g o r)).length := by rw [yo]; exact q2
   have hok : okB g o r N[i] = sqT g o r m := by
    unfold okB
    rw [decide_eq_true (by omega), Bool.true_and, q1, Int.toNat_natCast]
   refine ⟨i, rfl, za _ (zh hi8) ?_⟩
   refine ⟨m, q1, za _ (zh hm2) ?_⟩
   rw [je q2]
   refine yk ?_
   refine zd (fun c4 => ?_) (fun c4 => ?_)
   ·rw [hok, c4, Bool.and_true] at hal
    refine in64 (by omega) ?_
    exact ⟨i + 1, hdec, ⟨by omega, by rw [hal]⟩, ⟨Tq, Tq, Tq, Tq, Tq, Tq, Tq, Tq, Tv⟩, ⟨rfl, Tv⟩⟩
   ·rw [hok, c4, Bool.and_false] at hal
    refine ⟨t, rfl, hlt, ?_⟩
    refine zj (i := ti4) (v := V.bool false) (b := bx) (o := 0 + t * 1) (l := _) (st2 := gS st g bn bx f2 (nxF g o r t false)) rfl rfl rfl hx9 (by rw [xg]; omega) hst9 ?_
    refine in64 (by omega) ?_
    exact ⟨i + 1, hdec, ⟨by omega, by rw [hal]⟩, ⟨Tq, Tq, Tq, Tq, Tq, Tq, Tq, Tq, Tv⟩, ⟨rfl, Tv⟩⟩
  ·rintro f3 _ ⟨hq, rfl⟩
   have hb3 := hq
   have hfb : (st.setObj bn (.cells (il g.T.length f3))).obj bx = none := by rw [zf hne]; have := hfx.1; rwa [zf hne] at this
   refine AWp.freeze (d := 10) (b := bx) (k := 1) (n := g.T.length) (cap := g.T.length) (rows := rws vg (blL g.T.length (sqT g o (r + 1)))) (pad := []) rfl ?_ ?_ ?_ (Nat.le_refl _) ?_ ?_ ?_
   ·rw [ky]; exact zb _ _ _
   ·exact hfx.2
   ·rw [zi, yo]
   ·intro row hr
    obtain ⟨x, _, rfl⟩ := List.mem_map.1 hr
    rfl
   ·intro row hr y hy
    obtain ⟨x, _, rfl⟩ := List.mem_map.1 hr
    simp [vg] at hy
    exact ⟨_, hy, rfl⟩
   unfold gS
   rw [xc hfb]
   refine AWp.of_vc zc ?_
   refine ⟨(r + 1, zd3 g o r g.T.length, f3), ?_, ⟨rfl, hq, by dsimp only; omega, fun hh => ?_, fun hh => ?_⟩, ⟨Tq, Tq, Tq, Tq, Tv⟩, ⟨rfl, Tv⟩⟩
   ·show 200 - (r + 1) < 200 - r
    omega
   ·dsimp only at hh ⊢
    unfold zd3 at hh
    obtain ⟨t, _, ht2⟩ := List.any_eq_true.1 hh
    exact yp9 hg ht2
   ·dsimp only at hh ⊢
    unfold zd3 at hh
    rw [List.any_eq_false] at hh
    intro t ht
    exact Bool.eq_false_iff.2 (hh t (List.mem_range.2 ht))
 ·rintro f _ ⟨hq, rfl⟩
  refine AWp.freeze (d := 8) (b := bn) (k := 1) (n := g.T.length) (cap := g.T.length) (rows := rws intC (ilL g.T.length f)) (pad := []) rfl ?_ ?_ ?_ (Nat.le_refl _) ?_ ?_ ?_
  ·rw [List.append_nil, zwq]; exact zb _ _ _
  ·exact hfn.2
  ·rw [zi, k9]
  ·intro row hr
   obtain ⟨x, _, rfl⟩ := List.mem_map.1 hr
   rfl
  ·intro row hr y hy
   obtain ⟨x, _, rfl⟩ := List.mem_map.1 hr
   simp [intC] at hy
   exact ⟨_, hy, rfl⟩
  rw [xc hfn.1]
  refine AWp.of_vc zc ?_
  exact ret (h f hq)
theorem zie (g : Gnd) (hg : gndP g) (l : List Bld) (hl : l.length <= 1000000000000) (hb : ∀ b ∈ l, bldP b /\ onP g b) (c : Int) (hc : c = 0 \/ c = 1 \/ c = 2) (s : Int) (hs : 0 <= s) (st : Store) (R : AV -> Store -> Prop) (h : R (zgt g l c s) st) :
  ACalls Tryz.prog 27 [.agg (gndC g), lst 6 bldC l, int c, int s] st R := by
 have ha := zr hg
 refine ACalls.of_awp (c := cfg 35) zc Tryz.func27 (by rfl) (by rfl) (by rfl) (by rfl) ?_
 refine AWp.seq (AWp.of_vc zc ?_)
 refine AWp.seq (AWp.of_vc zc ?_)
 refine zr1 g hg l hl hb c hc _ _ (fun f hq => ?_)
 refine AWp.seq (AWp.of_vc zc ?_)
 refine qa rfl (it := ti60) (ie := ti4) rfl rfl rfl rfl rfl (n := (rws intC (ilL g.T.length f)).length) ?_ ?_ (fun b hf => ?_)
 ·rw [zi, k9]; show 1 * _ <= _; omega
 ·rw [zi, k9]; omega
 rw [zi, k9, zbj]
 refine AWp.meetA (σ := Unit) ⟨fun _ => [(10, .av (blV b g.T.length))], fun _ => [], fun _ st' => st' = st.setObj b (.cells (bl g.T.length (zk g l c s)))⟩ ?_ ?_
 ·refine AWp.of_vc zc ?_
  refine AWp.loop (σ := Nat) ⟨fun i => [(3, .av (int s)), (9, .av (lst 1 intC (ilL g.T.length f))), (10, .av (blV b g.T.length)), (11, .av (int (i : Nat)))], fun _ => [],
   fun i st' => i <= g.T.length /\ st' = st.setObj b (.cells (bl g.T.length (vj g l c s i))), fun i => g.T.length - i⟩ zc ?_ ?_
  ·refine ⟨0, Tv, ⟨Nat.zero_le _, ?_⟩, ⟨Tq, Tq, Tq, Tq, Tv⟩, Tv⟩
   rw [show vj g l c s 0 = fun _ => false from funext fun t => if_neg (Nat.not_lt_zero t)]
  rintro i st' ⟨hi, rfl⟩
  refine bcd (fun h1 => ?_) (fun h1 => ?_)
  rotate_left
  ·rw [zi, k9] at h1
   have : i = g.T.length := by omega
   subst this
   refine ⟨(), ?_, ⟨Tq, Tv⟩, Tv⟩
   show st.setObj b (.cells (bl g.T.length (vj g l c s g.T.length))) = st.setObj b (.cells (bl g.T.length (zk g l c s)))
   rw [zku (f := vj g l c s g.T.length) (g := zk g l c s) fun t ht => if_pos ht]
  rw [zi, k9] at h1
  have hlt : i < g.T.length := by omega
  have ho : (st.setObj b (.cells (bl g.T.length (vj g l c s i)))).obj b = some (.cells (bl g.T.length (vj g l c s i))) := zb _ _ _
  have hlt2 : i < (ilL g.T.length f).length := by rw [k9]; exact hlt
  have s2 : ∀ q, q ≠ i -> vj g l c s (i + 1) q = vj g l c s i q := fun q hq => by
   unfold vj
   by_cases h3 : q < i
   ·rw [if_pos h3, if_pos (by omega)]
   ·rw [if_neg h3, if_neg (by omega)]
  have s1 : vj g l c s (i + 1) i = zk g l c s i := if_pos (by omega)
  refine ⟨i, rfl, za _ (zh hlt2) ?_⟩
  refine ⟨i, rfl, hlt, ?_⟩
  refine zj (i := ti4) (v := V.bool (decide (s < (ilL g.T.length f)[i]))) (b := b) (o := 0 + i * 1) (l := _) (st2 := st.setObj b (.cells (bl g.T.length (vj g l c s (i + 1))))) rfl rfl rfl ho (by rw [xg]; omega) ?_ ?_
  ·rw [zg, show 0 + i * 1 = i by omega, <- zbk hlt _ s2, s1, zwr hlt, zst hq hs hlt]
  refine in64 (by omega) ?_
  refine ⟨i + 1, ?_, ⟨by omega, rfl⟩, ⟨Tq, Tq, Tq, Tq, Tv⟩, Tv⟩
  show g.T.length - (i + 1) < g.T.length - i
  omega
 rintro _ _ rfl
 refine AWp.freeze (d := 10) (b := b) (k := 1) (n := g.T.length) (cap := g.T.length) (rows := rws vg (blL g.T.length (zk g l c s))) (pad := []) rfl ?_ ?_ ?_ (Nat.le_refl _) ?_ ?_ ?_
 ·rw [ky]; exact zb _ _ _
 ·exact hf.2
 ·rw [zi, yo]
 ·intro row hr
  obtain ⟨x, _, rfl⟩ := List.mem_map.1 hr
  rfl
 ·intro row hr y hy
  obtain ⟨x, _, rfl⟩ := List.mem_map.1 hr
  simp [vg] at hy
  exact ⟨_, hy, rfl⟩
 rw [xc hf.1]
 refine AWp.of_vc zc ?_
 exact ret h
end Go.Proofs
namespace Go.Proofs
open Go Go.V
set_option maxRecDepth 4000
/-- A store into a box of the call's own. -/
theorem bleK {m n : Nat} {p : Prop} (h : m <= n) (k : p) : (bif Nat.ble m n then p else False) := by
 have : Nat.ble m n = true := Nat.ble_eq ▸ h
 rw [this]
 exact k
theorem zv9 (x y : Int) (hx : 0 <= x) (hx2 : x < 18446744073709551616) (hy : 0 <= y) (hy2 : y < 18446744073709551616) (st : Store) (R : AV -> Store -> Prop) (h : R (.tup (x6 (x * y))) st) :
  ACalls Tryz.prog 301 [u64 x, u64 y] st R := by
 refine ACalls.of_body (c := cfg 30) zc Tryz.func301 (by rfl) (by rfl) (by rfl) (by rfl) ?_
 refine zd0 x y hx hx2 hy hy2 _ _ ?_
 exact ret h
set_option maxHeartbeats 1000000 in
/-- A list that says the same all over. -/
theorem zge (v : Int) (n : Nat) (h0 : 1 <= n) (hn : n <= 1000000) (st : Store) (R : AV -> Store -> Prop) (h : ∀ b, Fresh st b -> R (.s (.slice (some ⟨b, 0, none⟩) n n)) (st.setObj b (.cells (il n fun _ => v)))) :
  ACalls Tryz.prog 286 [lst 1 intC [v], int (n : Nat)] st R := by
 refine ACalls.of_body (c := cfg 48) zc Tryz.func286 (by rfl) (by rfl) (by rfl) (by rfl) ?_
 have w2 : IntKind.u64.wrap (n : Int) = n := ya (by omega) (by omega)
 have w1 : IntKind.u64.wrap ((rws intC [v]).length : Nat) = 1 := rfl
 show ACalls _ _ [u64 (IntKind.u64.wrap _), u64 (IntKind.u64.wrap (n : Int))] _ _
 rw [w2, w1]
 refine zv9 1 n (by omega) (by omega) (by omega) (by omega) _ _ ?_
 have e1 : (1 * (n : Int)) = n := Int.one_mul _
 rw [e1]
 have e2 : x6 (n : Int) = [u64 0, u64 n] := by
  unfold x6
  rw [Int.ediv_eq_zero_of_lt (by omega) (by omega), Int.emod_eq_of_lt (by omega) (by omega)]
 rw [e2]
 refine bcd (fun c3 => absurd c3 (by omega)) (fun c3 => ?_)
 refine in64 (by omega) ?_
 refine qa rfl (it := ti29) (ie := ti3) rfl rfl rfl rfl rfl (n := n) ?_ ?_ (fun b hf => ?_)
 ·show 8 * _ <= _; omega
 ·omega
 rw [zgr]
 refine znn rfl rfl rfl rfl (it := ti29) (ie := ti3) rfl rfl rfl (src := lst 1 intC [v]) (SrcN.rows (rows := rws intC [v]) rfl) (n := 1) (by show 1 = min 1 n; omega) (zb _ _ _) (by rw [yv]; show 0 + 1 * 1 <= n; omega) ?_
 rw [zg]
 have e3 : zo (il n fun _ => 0) 0 (rws intC [v]).flatten = il n (vy v 1) := by
  show zo (il n fun _ => 0) 0 [int v] = _
  rw [zc8 (t := 0) (by omega)]
  refine kh fun t ht => ?_
  unfold setI vy
  by_cases h0 : t = 0
  ·rw [if_pos h0, if_pos (by omega)]
  ·rw [if_neg h0, if_neg (by omega)]
 rw [e3]
 refine AWp.loop (σ := Nat) ⟨fun k => [(7, .av (.s (.slice (some ⟨b, 0, none⟩) n n))), (8, .av (int (k : Nat)))], fun _ => [],
  fun k st' => 1 <= k /\ k <= n /\ st' = st.setObj b (.cells (il n (vy v k))), fun k => n - k⟩ zc ?_ ?_
 ·exact ⟨1, Tv, ⟨Nat.le_refl _, h0, rfl⟩, ⟨Tq, Tq, Tv⟩, Tv⟩
 rintro k st' ⟨hk1, hk, rfl⟩
 refine bcd (fun c4 => ?_) (fun c4 => ?_)
 rotate_left
 ·have : k = n := by omega
  subst this
  rw [yjv]
  exact ret (h b hf)
 have hlt : k < n := by omega
 have hb : (st.setObj b (.cells (il n (vy v k)))).obj b = some (.cells (il n (vy v k))) := zb _ _ _
 obtain ⟨m, hm⟩ : ∃ m, m = min k (n - k) := ⟨_, rfl⟩
 refine ADraw.of_sched zc (by rfl) (by rfl) ygf (by rfl) ?_
 refine ⟨k, n, rfl, rfl, by omega, Nat.le_refl _, .inl ⟨hlt, ?_⟩⟩
 refine ⟨0, k, rfl, rfl, Nat.zero_le _, by omega, .inl ⟨by omega, ?_⟩⟩
 refine ⟨znn rfl rfl rfl rfl (it := ti29) (ie := ti3) rfl rfl rfl (SrcN.obj (n := m) hb (by rw [yv]; show 0 + 0 * 1 + m * 1 <= n; omega) (fun y hy => by
   have := List.mem_of_mem_drop (List.mem_of_mem_take hy)
   obtain ⟨t, _, rfl⟩ := List.mem_map.1 this
   rfl)) (hm.trans (by rw [Nat.sub_zero])) hb (by rw [yv]; show 0 + k * 1 + m * 1 <= n; omega) ⟨Tv, ?_⟩, Tv⟩
 rw [zg]
 refine in64 (by omega) ?_
 refine ⟨⟨Tv, ?_⟩, Tv⟩
 refine ⟨k + m, ?_, ⟨by omega, by omega, ?_⟩, ⟨Tq, Tq, Tv⟩, Tv⟩
 ·show n - (k + m) < n - k
  omega
 ·exact congrArg (fun l => st.setObj b (.cells l)) (zr5 (by omega) (by omega))
theorem zd9 (u : Int) (st : Store) (R : AV -> Store -> Prop) (h : R (V.bool true) st) : ACalls Tryz.prog 285 [int u] st R := by
 refine ACalls.of_body (c := cfg 3) zc Tryz.func285 (by rfl) (by rfl) (by rfl) (by rfl) ?_
 exact ret h
theorem zoz (w : Nat) (h1 : 4 <= w) (h2 : w < 8) (st : Store) (R : AV -> Store -> Prop) (h : R (.tup [int (zjr w : Nat), int (zjq w : Nat)]) st) : ACalls Tryz.prog 302 [int (w : Nat)] st R := by
 have hw : w = 4 \/ w = 5 \/ w = 6 \/ w = 7 := by omega
 rcases hw with rfl | rfl | rfl | rfl
 all_goals
  refine ACalls.of_body (c := cfg 10) zc Tryz.func302 (by rfl) (by rfl) (by rfl) (by rfl) ?_
  refine ADraw.of_sched zc (by rfl) (by rfl) yf9 (by rfl) ?_
  refine ⟨_, rfl, by decide, ?_⟩
  refine ⟨_, rfl, by decide, ?_⟩
  refine ⟨⟨(by repeat (first | exact Tv | refine ⟨rfl, ?_⟩ | refine ⟨optR (optR (optR (za _ (zb _ _ _) rfl))), ?_⟩)), ⟨⟨Tv, ?_⟩, Tv⟩⟩, Tv⟩
  exact ret h
theorem ztx (st : Store) (R : AV -> Store -> Prop) (h : R (.agg dirC) st) : ACalls Tryz.prog 217 [] st R := by
 refine ACalls.of_body (c := cfg 10) zc Tryz.func217 (by rfl) (by rfl) (by rfl) (by rfl) ?_
 exact ret h
set_option maxRecDepth 10000 in
set_option maxHeartbeats 1000000 in
theorem zak (g : Gnd) (hg : gndP g) (t : Nat) (ht : t < g.T.length) (st : Store) (R : AV -> Store -> Prop) (h : R (besV g t) st) : ACalls Tryz.prog 186 [.agg (gndC g), int (t : Nat)] st R := by
 have hm := zr hg
 have htb := za0 hg (t := t) (by omega)
 have hq := trem (t := t) hg.1.1
 have hq2 := tquo (t := t) hg.1.1
 have hg1 := hg.1
 have hg2 := hg.2.1
 have hbes := fun (i : Nat) (hi : i < 8) => yol g t hi
 obtain ⟨x, hx⟩ : ∃ x, x = (t : Int) % g.W := ⟨_, rfl⟩
 obtain ⟨y, hy⟩ : ∃ y, y = (t : Int) / g.W := ⟨_, rfl⟩
 rw [<- hx, <- hy] at htb hbes
 rw [<- hx] at hq
 rw [<- hy] at hq2
 refine ACalls.of_body (c := cfg 50) zc Tryz.func186 (by rfl) (by rfl) (by rfl) (by rfl) ?_
 refine ADraw.of_sched zc (by rfl) (by rfl) ygt (by rfl) ?_
 refine ⟨by omega, ?_⟩
 refine ⟨by omega, ?_⟩
 refine in64 (by rw [hq2]; omega) ?_
 refine ⟨⟨?_, ⟨⟨Tv, ?_⟩, Tv⟩⟩, Tv⟩
 ·exact ⟨rfl, Tv⟩
 rw [hq, hq2]
 refine ztx _ _ ?_
 refine AWp.loop (σ := Nat) ⟨fun i => [(2, .bx 2 0), (4, .bx 4 0), (5, .av (int x)), (6, .av (int y)), (17, .av (.agg dirC)), (18, .av (int (i : Nat)))], fun i => [(2, gndC g), (4, il 8 (zhb g t i))],
  fun i st' => i <= 8 /\ st' = st, fun i => 8 - i⟩ zc ?_ ?_
 ·exact ⟨0, Tv, ⟨Nat.zero_le _, rfl⟩, ⟨Tq, Tq, Tq, Tq, Tq, Tq, Tv⟩, ⟨rfl, rfl, Tv⟩⟩
 rintro i st' ⟨hi, rfl⟩
 refine bcd (fun c1 => ?_) (fun c1 => ?_)
 rotate_left
 ·have : i = 8 := by omega
  subst this
  refine ret ?_
  have e : AV.agg (il 8 (zhb g t 8)) = besV g t := congrArg AV.agg (zx4 g t)
  rw [<- e] at h
  exact h
 have hlt : i < 8 := by omega
 have hr := yiz hlt
 have hd := yqk hlt
 have hbe := hbes i hlt
 have hst := zx3 g t (i := i)
 generalize dirL.getD i (0, 0) = d at *
 refine ⟨i, rfl, hlt, ?_⟩
 refine zm (i := ti244) (row := wayC d) rfl rfl hr ?_
 refine ⟨i, rfl, hlt, ?_⟩
 refine bleK (by rw [yv]; show 0 + i * 1 + 1 <= 8; omega) ?_
 refine xa ?_
 refine ⟨0, rfl, by decide, ?_⟩
 refine in64 (by omega) ?_
 refine ⟨1, rfl, by decide, ?_⟩
 refine in64 (by omega) ?_
 refine zvx _ _ _ _ _ (fun z hz => ?_)
 refine zd (fun c2 => ?_) (fun c2 => ?_)
 ·have hon := hz.1 c2
  obtain ⟨e1, e2, _, _⟩ := xq hg hon
  have hpos : 0 <= g.W * (y + d.2) := Int.mul_nonneg (by omega) (by have := hon.2.1; omega)
  refine ⟨0, rfl, by decide, ?_⟩
  refine in64 (by omega) ?_
  refine ⟨1, rfl, by decide, ?_⟩
  refine in64 (by omega) ?_
  refine in64 (by omega) ?_
  refine in64 (by omega) ?_
  refine ⟨i, rfl, hlt, ?_⟩
  refine bleK (by
   show 0 + i * 1 + 1 <= (zo (il 8 (zhb g t i)) (0 + i * 1) [int (-1)]).length
   rw [show 0 + i * 1 = i by omega, zc8 hlt, yv]; omega) ?_
  refine xa ?_
  refine in64 (by omega) ?_
  refine ⟨i + 1, ?_, ⟨by omega, rfl⟩, ⟨Tq, Tq, Tq, Tq, Tq, Tq, Tv⟩, ⟨rfl, ?_, Tv⟩⟩
  ·show 8 - (i + 1) < 8 - i
   omega
  ·show some (zo (zo (il 8 (zhb g t i)) (0 + i * 1) [int (-1)]) (0 + i * 1) [int (x + d.1 + g.W * (y + d.2))]) = some (il 8 (zhb g t (i + 1)))
   rw [show 0 + i * 1 = i by omega, zc8 hlt, zc8 hlt, zf3, hst]
   rw [hbe]
   unfold xl
   rw [if_pos hon]
 ·have hon : ¬ onG g (x + d.1) (y + d.2) := fun hh => by rw [hz.2 hh] at c2; cases c2
  refine in64 (by omega) ?_
  refine ⟨i + 1, ?_, ⟨by omega, rfl⟩, ⟨Tq, Tq, Tq, Tq, Tq, Tq, Tv⟩, ⟨rfl, ?_, Tv⟩⟩
  ·show 8 - (i + 1) < 8 - i
   omega
  ·show some (zo (il 8 (zhb g t i)) (0 + i * 1) [int (-1)]) = some (il 8 (zhb g t (i + 1)))
   rw [show 0 + i * 1 = i by omega, zc8 hlt, hst]
   rw [hbe]
   unfold xl
   rw [if_neg hon]
end Go.Proofs
namespace Go.Proofs
open Go Go.V
set_option maxRecDepth 4000
theorem zkl {g : Gnd} (hg : gndP g) {t : Nat} (ht : t < g.T.length) : g.T[t].toNat <= 5 := hg.2.2.2 _ (List.getElem_mem ht)
theorem zfg (g : Gnd) (c : Int) {t : Nat} (ht : t < g.T.length) : zg3 g c t = zar c g.T[t].toNat := by
 unfold zg3
 rw [List.getD_eq_getElem?_getD, List.getElem?_eq_getElem ht]
 rfl
theorem zex {g : Gnd} (hg : gndP g) (t : Nat) {w : Nat} (hw : w < 8) : besN g t w < 0 \/ ∃ u : Nat, besN g t w = (u : Int) /\ u < g.T.length := by
 rcases zqy hg (t := t) hw with h | h
 ·exact .inl (by omega)
 ·exact .inr h
theorem zct {g : Gnd} {ok : Nat -> Bool} {c : Int} {t w : Nat} (h : vd ok (besN g t w) = false) : yr g ok c t w = 0 := by
 unfold yr
 rw [h]
 simp
theorem zp1 {g : Gnd} {ok : Nat -> Bool} {c : Int} {t w : Nat} (h : vd ok (besN g t w) = true) (hw : w < 4) : yr g ok c t w = 5 * (zg3 g c t + zg3 g c (besN g t w).toNat) := by
 unfold yr
 rw [if_pos h, if_pos hw]
theorem zp2 {g : Gnd} {ok : Nat -> Bool} {c : Int} {t w : Nat} (h : vd ok (besN g t w) = true) (hw : ¬ w < 4) (ha : vd ok (besN g t (zjr w)) = true) (hb : vd ok (besN g t (zjq w)) = true) : yr g ok c t w = 7 * (zg3 g c t + zg3 g c (besN g t w).toNat) := by
 unfold yr
 rw [if_pos h, if_neg hw, if_pos ⟨ha, hb⟩]
theorem zll {g : Gnd} {ok : Nat -> Bool} {c : Int} {t w : Nat} (hw : ¬ w < 4) (ha : vd ok (besN g t (zjr w)) = false \/ vd ok (besN g t (zjq w)) = false) : yr g ok c t w = 0 := by
 unfold yr
 rw [if_neg hw]
 split
 ·rw [if_neg]
  rintro ⟨h1, h2⟩
  rcases ha with ha | ha
  ·rw [ha] at h1; cases h1
  ·rw [ha] at h2; cases h2
 ·rfl
theorem j1 {ok : Nat -> Bool} {u : Int} (h : u < 0) : vd ok u = false := by
 unfold vd
 rw [decide_eq_false (by omega)]; rfl
theorem xn (ok : Nat -> Bool) (u : Nat) : vd ok (u : Int) = ok u := by
 unfold vd
 rw [decide_eq_true (by omega), Int.toNat_natCast]; rfl
set_option maxHeartbeats 2000000 in
set_option maxRecDepth 20000 in
theorem zlk {S : Store} {nb : Nat} {g : Gnd} (hg : gndP g) {l : List Bld} {c s : Int} (hn : S.obj nb = some (.cells (netC g l c s))) (t : Nat) (ht : t < g.T.length) (way : Nat) (hw : way < 8) (R : AV -> Store -> Prop)
  (h : R (int (yr g (zk g l c s) c t way)) S) : ACalls Tryz.prog 287 [ptr nb, int (t : Nat), besV g t, int (way : Nat), .clos 285 []] S R := by
 have hgl : ∀ u, u < g.T.length -> u < (blL g.T.length (zk g l c s)).length := fun u hu => by rw [yo]; exact hu
 have p1 := xw c (g.T[t]).toNat
 refine ACalls.of_body (c := cfg 124) zc Tryz.func287 (by rfl) (by rfl) (by rfl) (by rfl) ?_
 refine ⟨way, rfl, hw, ?_⟩
 refine za _ (yx hw) ?_
 have hor := zex hg t hw
 have hlo := fun h => zp1 (g := g) (ok := zk g l c s) (c := c) (t := t) (w := way) h
 have hhi := fun h => zp2 (g := g) (ok := zk g l c s) (c := c) (t := t) (w := way) h
 have hno := zct (g := g) (ok := zk g l c s) (c := c) (t := t) (w := way)
 have hhn := fun h => zll (g := g) (ok := zk g l c s) (c := c) (t := t) (w := way) h
 generalize yr g (zk g l c s) c t way = E at *
 generalize hU : besN g t way = U at *
 refine bcd (fun c1 => ?_) (fun c1 => ?_)
 ·rw [hno (j1 c1)] at h
  exact ret h
 obtain ⟨u, rfl, hul⟩ : ∃ u : Nat, U = (u : Int) /\ u < g.T.length := by
  rcases hor with h1 | h1
  ·exact absurd h1 c1
  ·exact h1
 refine za (o := S.obj nb) _ hn ?_
 refine ⟨u, rfl, za _ (zh (hgl u hul)) ?_⟩
 rw [je hul]
 refine yk ?_
 refine zd (fun c2 => ?_) (fun c2 => ?_)
 rotate_left
 ·rw [hno (by rw [xn, c2])] at h
  exact ret h
 refine zd9 _ _ _ ?_
 have hfu : vd (zk g l c s) (u : Int) = true := by rw [xn, c2]
 rw [Int.toNat_natCast] at hlo hhi
 rw [zfg g c ht, zfg g c hul] at hlo hhi
 have p2 := xw c (g.T[u]).toNat
 refine ADraw.of_sched zc (by rfl) (by rfl) yge (by rfl) ?_
 refine za (o := S.obj nb) _ hn ?_
 refine za (o := S.obj nb) _ hn ?_
 refine ⟨t, rfl, za _ (zh ht) ?_⟩
 refine za (o := S.obj nb) _ hn ?_
 refine za (o := S.obj nb) _ hn ?_
 refine ⟨u, rfl, za _ (zh hul) ?_⟩
 refine ⟨zdv c g.T[t] (zkl hg ht) _ _ ⟨?_, ?_⟩, Tv⟩
 ·repeat (first | exact Tv | refine ⟨rfl, ?_⟩ | refine ⟨za (o := S.obj nb) _ hn rfl, ?_⟩)
 refine ⟨zdv c g.T[u] (zkl hg hul) _ _ ⟨(by repeat (first | exact Tv | refine ⟨rfl, ?_⟩ | refine ⟨optR (optR (optR (za _ (zb _ _ _) rfl))), ?_⟩)), ?_⟩, Tv⟩
 refine in64 (by omega) ?_
 refine ⟨⟨Tv, ?_⟩, Tv⟩
 generalize zar c g.T[t].toNat = P1 at *
 generalize zar c g.T[u].toNat = P2 at *
 refine bcd (fun c3 => ?_) (fun c3 => ?_)
 ·refine in64 (by omega) ?_
  rw [hlo hfu (by omega)] at h
  exact ret h
 have h4 : ¬ way < 4 := by omega
 have hsa : zjr way < 8 := by unfold zjr; omega
 have hsb : zjq way < 8 := by unfold zjq; omega
 refine zoz way (by omega) hw _ _ ?_
 have hora := zex hg t hsa
 have horb := zex hg t hsb
 have hhi := hhi hfu h4
 have hhn := hhn h4
 have ha1 := yx (n := 8) (f := besN g t) hsa
 have hb1 := yx (n := 8) (f := besN g t) hsb
 generalize hA : zjr way = wa at *
 generalize hB : zjq way = wb at *
 generalize hUA : besN g t wa = ua at *
 generalize hUB : besN g t wb = ub at *
 refine ADraw.of_sched zc (by rfl) (by rfl) ygd (by rfl) ?_
 refine ⟨wa, rfl, hsa, ?_⟩
 refine za _ ha1 ?_
 have no : vd (zk g l c s) ua = false \/ vd (zk g l c s) ub = false -> R (int 0) S := fun hh => by
  rw [hhn hh] at h
  exact h
 refine bcd (fun ca => ?_) (fun ca => ?_)
 ·refine ⟨⟨Tv, ?_⟩, Tv⟩
  refine ⟨⟨Tv, ?_⟩, Tv⟩
  exact ret (no (.inl (j1 ca)))
 obtain ⟨va, rfl, hva⟩ : ∃ u : Nat, ua = (u : Int) /\ u < g.T.length := by
  rcases hora with h1 | h1
  ·exact absurd h1 ca
  ·exact h1
 refine ⟨wb, rfl, hsb, ?_⟩
 refine za _ hb1 ?_
 refine bcd (fun cb => ?_) (fun cb => ?_)
 ·refine ⟨⟨Tv, ?_⟩, Tv⟩
  refine ⟨⟨Tv, ?_⟩, Tv⟩
  exact ret (no (.inr (j1 cb)))
 obtain ⟨vb, rfl, hvb⟩ : ∃ u : Nat, ub = (u : Int) /\ u < g.T.length := by
  rcases horb with h1 | h1
  ·exact absurd h1 cb
  ·exact h1
 refine za (o := S.obj nb) _ hn ?_
 refine ⟨wa, rfl, hsa, ?_⟩
 refine za _ ha1 ?_
 refine ⟨va, rfl, za _ (zh (hgl va hva)) ?_⟩
 rw [je hva]
 refine yk ?_
 refine zd (fun da => ?_) (fun da => ?_)
 rotate_left
 ·refine ⟨⟨Tv, ?_⟩, Tv⟩
  refine ⟨⟨Tv, ?_⟩, Tv⟩
  exact ret (no (.inl (by rw [xn, da])))
 refine za (o := S.obj nb) _ hn ?_
 refine ⟨wb, rfl, hsb, ?_⟩
 refine za _ hb1 ?_
 refine ⟨vb, rfl, za _ (zh (hgl vb hvb)) ?_⟩
 rw [je hvb]
 refine yk ?_
 refine zd (fun db => ?_) (fun db => ?_)
 rotate_left
 ·refine ⟨⟨Tv, ?_⟩, Tv⟩
  refine ⟨⟨Tv, ?_⟩, Tv⟩
  exact ret (no (.inr (by rw [xn, db])))
 refine ⟨wa, rfl, hsa, ?_⟩
 refine za _ ha1 ?_
 refine ⟨zd9 _ _ _ ⟨Tv, ?_⟩, Tv⟩
 refine ⟨wb, rfl, hsb, ?_⟩
 refine za _ hb1 ?_
 refine ⟨zd9 _ _ _ ⟨Tv, ?_⟩, Tv⟩
 refine in64 (by omega) ?_
 rw [hhi (by rw [xn, da]) (by rw [xn, db])] at h
 exact ret h
end Go.Proofs
namespace Go.Proofs
open Go Go.V
set_option maxRecDepth 4000
theorem yqe {G : Store} (R : AV -> Store -> Prop) (h : ∀ F p, QOf F p [] -> Disj F G -> R (ptr p) (F.un G)) : ACalls Tryz.prog 298 [] G R := by
 have := ACalls.frame (a := Store.empty) (g := G) (fun i h1 => by rcases h1 with h1 | h1 <;> exact absurd rfl h1) (zvh Store.empty (fun r a' => ∃ p, r = ptr p /\ QOf a' p []) (fun p hp => ⟨p, rfl, .inl ⟨zb _ _ _, rfl⟩⟩)) (R' := R) (fun r a' ⟨p, e, hc⟩ hd => e ▸ h a' p hc hd)
 rwa [xf] at this
theorem zvc {F G : Store} {p : Nat} {l : List (Int × Int)} (hq : QOf F p l) (hl : l.length <= 1000000) (hh : wx l) (hd : Disj F G) (x : Int × Int) (R : AV -> Store -> Prop)
  (h : ∀ F' l', QOf F' p l' -> wx l' -> l'.Perm (x :: l) -> Disj F' G -> R (.tup []) (F'.un G)) : ACalls Tryz.prog 299 [ptr p, int x.1, int x.2] (F.un G) R :=
 ACalls.frame hd (zr8 hq hl hh x (fun r a' => r = .tup [] /\ ∃ l', QOf a' p l' /\ wx l' /\ l'.Perm (x :: l)) (fun F' l' g1 g2 g3 => ⟨rfl, l', g1, g2, g3⟩)) (R' := R) (fun r a' ⟨e, l', g1, g2, g3⟩ hd => e ▸ h a' l' g1 g2 g3 hd)
theorem ynr {F G : Store} {p : Nat} {l : List (Int × Int)} (hq : QOf F p l) (hl : l.length <= 1000000) (hh : wx l) (hd : Disj F G) (R : AV -> Store -> Prop)
  (h : ∀ F' o l', QOf F' p l' -> wx l' -> Disj F' G -> l.Perm (o.toList ++ l') -> (∀ x, o = some x -> ∀ e ∈ x :: l', ¬ qlt e x) -> (o = none -> l' = []) -> R (.tup [int (keyO o), int (valO o), V.bool o.isSome]) (F'.un G)) : ACalls Tryz.prog 300 [ptr p] (F.un G) R :=
 ACalls.frame hd (zvd hq hl hh (fun r a' => ∃ o l', r = .tup [int (keyO o), int (valO o), V.bool o.isSome] /\ QOf a' p l' /\ wx l' /\ l.Perm (o.toList ++ l') /\ (∀ x, o = some x -> ∀ e ∈ x :: l', ¬ qlt e x) /\ (o = none -> l' = []))
  (fun e => ⟨none, [], rfl, e ▸ hq, e ▸ hh, by rw [e]; exact List.Perm.refl _, fun x h => (by cases h), fun _ => rfl⟩)
  (fun h0 F' l' g1 g2 g3 => ⟨some (qat l 0), l', rfl, g1, g2, g3, fun x e => by
   cases e
   exact fun e he => yh0 hh e (g3.mem_iff.2 he), fun h => (by cases h)⟩)) (R' := R) (fun r a' ⟨o, l', e, g1, g2, g3, g4, g5⟩ hd => e ▸ h a' o l' g1 g2 hd g3 g4 g5)
set_option maxHeartbeats 4000000 in
set_option maxRecDepth 20000 in
theorem zxa {S : Store} {nb : Nat} {g : Gnd} (hg : gndP g) {l : List Bld} {c s : Int} (hn : S.obj nb = some (.cells (netC g l c s))) (goal : Nat) (hgo : goal < g.T.length) (R : AV -> Store -> Prop)
  (h : ∀ b, Fresh S b -> (∀ u, -1 <= farF g (zk g l c s) c goal u /\ farF g (zk g l c s) c goal u <= 2000000) -> R (.s (.slice (some ⟨b, 0, none⟩) g.T.length g.T.length)) (S.setObj b (.cells (il g.T.length (farF g (zk g l c s) c goal))))) :
  ACalls Tryz.prog 284 [ptr nb, int (goal : Nat), .clos 285 []] S R := by
 have ha := zr hg
 have hT : g.T.length <= 16384 := by omega
 have hgl : ∀ u, u < g.T.length -> u < (blL g.T.length (zk g l c s)).length := fun u hu => by rw [yo]; exact hu
 refine ACalls.of_body (c := cfg 121) zc Tryz.func284 (by rfl) (by rfl) (by rfl) (by rfl) ?_
 refine ⟨by decide, ?_⟩
 refine za (o := S.obj nb) _ hn ?_
 show ACalls _ _ [_, int ((rws u8C g.T).length : Nat)] _ _
 rw [zi]
 refine zge (-1) g.T.length (by omega) (by omega) _ _ (fun b hf => ?_)
 have hnb : nb ≠ b := fun e => by rw [e, hf.1] at hn; cases hn
 have hn1 : (S.setObj b (.cells (il g.T.length fun _ => -1))).obj nb = some (.cells (netC g l c s)) := (zf hnb).trans hn
 refine za (o := (S.setObj b _).obj nb) _ hn1 ?_
 refine ⟨goal, rfl, za _ (zh (hgl goal hgo)) ?_⟩
 rw [je hgo]
 refine yk ?_
 refine zd (fun c1 => ?_) (fun c1 => ?_)
 rotate_left
 ·rw [zxj c1] at h
  exact ret (h b hf fun u => ⟨Int.le_refl (-1), show (-1 : Int) <= 2000000 by decide⟩)
 refine qa rfl (it := ti60) (ie := ti4) rfl rfl rfl rfl rfl (n := g.T.length) ?_ ?_ (fun b2 hf2 => ?_)
 ·show 1 * _ <= _; omega
 ·omega
 rw [zbj]
 have hbb : b ≠ b2 := fun e => by
  have := hf2.1
  rw [<- e, zb] at this; cases this
 have hst0 : (S.setObj b (.cells (il g.T.length fun _ => -1))).setObj b2 (.cells (bl g.T.length fun _ => false)) = fldS S b b2 g.T.length (fun _ => -1) (fun _ => false) := rfl
 rw [hst0]
 refine ⟨goal, rfl, hgo, ?_⟩
 refine zj (i := ti3) (v := int 0) (b := b) (o := 0 + goal * 1) (l := il g.T.length fun _ => -1) (st2 := fldS S b b2 g.T.length (updN (fun _ => -1) goal 0) (fun _ => false)) rfl rfl rfl (ypu hbb _ _) (by rw [yv]; omega) ?_ ?_
 ·rw [zc7 _ _ _ _ hgo, zqs hbb]
 refine yqe _ (fun F p hQ hdis => ?_)
 refine zvc hQ (by simp) (fun j h0 hj => by simp at hj) hdis (0, (goal : Int)) _ (fun F l1 hQ hH hP hdis => ?_)
 have hd0 : ∀ u, updN (fun _ => (-1 : Int)) goal 0 u = if u = goal then 0 else -1 := fun u => rfl
 have hDJ := yoe (x7 g (zk g l c s) c) hgo hd0
 have hcb := zi1 hgo hd0
 have hback : ∀ F d dn, (Store.un F (fldS S b b2 g.T.length d dn)).Has (S.setObj b (.cells (il g.T.length d))) := fun F d dn => yiq hf hf2 hbb
 have hlen : l1.length <= 1000000 := by rw [hP.length_eq]; simp
 have hlen1 : l1.length = 1 := by rw [hP.length_eq]; simp
 have hfo := fun d dn => yqi (n := g.T.length) hf hf2 hn d dn
 have hfd := fun d dn => ypu (S := S) (n := g.T.length) hbb d dn
 have hfn := fun d dn => ypt (S := S) (b := b) (b2 := b2) (n := g.T.length) d dn
 have hsd := fun d d' dn => zqs (S := S) (n := g.T.length) hbb d d' dn
 have hsn := fun d dn dn' => yio (S := S) (b := b) (b2 := b2) (n := g.T.length) d dn dn'
 have hdd := fun (F : Store) d d' dn dn' (h : Disj F (fldS S b b2 g.T.length d dn)) => yip (d' := d') (dn' := dn') h
 generalize hd1 : updN (fun _ => (-1 : Int)) goal 0 = d at *
 refine ynr hQ hlen hH hdis _ (fun F' o l' g1 g2 g3 g4 g5 g6 => ?_)
 refine AWp.loop (σ := (Nat -> Int) × (Nat -> Bool) × Store × Option (Int × Int) × List (Int × Int) × Int) ⟨fun q => [(0, .av (ptr nb)), (2, .av (.clos 285 [])), (7, .av (.s (.slice (some ⟨b, 0, none⟩) g.T.length g.T.length))), (8, .av (.s (.slice (some ⟨b2, 0, none⟩) g.T.length g.T.length))), (9, .av (ptr p)), (10, .av (int (keyO q.2.2.2.1))), (11, .av (int (valO q.2.2.2.1))), (12, .av (V.bool q.2.2.2.1.isSome))], fun _ => [],
  fun q st' => st' = q.2.2.1.un (fldS S b b2 g.T.length q.1 q.2.1) /\ QOf q.2.2.1 p q.2.2.2.2.1 /\ wx q.2.2.2.2.1 /\ Disj q.2.2.1 (fldS S b b2 g.T.length q.1 q.2.1) /\ DJ (x7 g (zk g l c s) c) g.T.length goal q.1 q.2.1 (q.2.2.2.1.toList ++ q.2.2.2.2.1) q.2.2.2.2.2 ze1 ∧
   (∀ x, q.2.2.2.1 = some x -> ∀ e ∈ x :: q.2.2.2.2.1, ¬ qlt e x) /\ (q.2.2.2.1 = none -> q.2.2.2.2.1 = []) /\ zg4 g.T.length q.1 /\ 9 * zgk g.T.length q.2.1 + (q.2.2.2.1.toList ++ q.2.2.2.2.1).length <= 9 * g.T.length + 1, fun q => 9 * zgk g.T.length q.2.1 + (q.2.2.2.1.toList ++ q.2.2.2.2.1).length⟩ zc ?_ ?_
 ·refine ⟨(d, fun _ => false, F', o, l', 0), Tv, ⟨rfl, g1, g2, g3, zo7 hDJ (hP.symm.trans g4), g5, g6, hcb, ?_⟩, ⟨Tq, Tq, Tq, Tq, Tq, Tq, Tq, Tq, Tv⟩, Tv⟩
  have := yh4 g.T.length fun _ => false
  dsimp only
  rw [<- g4.length_eq]
  omega
 clear hdis
 clear g1 g2 g3 g4 g5 g6 hDJ hcb hQ hH hP hlen hlen1 hd0 hd1
 rintro ⟨d, dn, F, o, q, cur⟩ st' ⟨rfl, hQ, hH, hdis, hDJ, hmin, hnil, hcb, hmu⟩
 dsimp only at hQ hH hdis hDJ hmin hnil hcb hmu ⊢
 cases o with
 | none =>
  have : q = [] := hnil rfl
  subst this
  have e := zo2 c1 (ypy hDJ)
  refine j8 (Tt) (hback F d dn) ?_
  have := h b hf
  rw [e] at this
  exact this fun u => by
   have h1 := hDJ.lab u
   have h2 := zbz hcb u
   omega
 | some x =>
 obtain ⟨t, ht, htn, hd0, hdx, hcx⟩ := hDJ.ent x (by simp)
 have hmin := hmin x rfl
 have hlen : q.length <= 1000000 := by
  simp only [Option.toList, List.length_append, List.length_singleton] at hmu
  omega
 have hxt : valO (some x) = (t : Int) := ht
 have hq9 : (Option.toList (some x) ++ q).length = q.length + 1 := by simp
 rw [hq9] at hmu
 rw [hxt]
 refine ⟨t, rfl, htn, ?_⟩
 refine za (o := (F.un (fldS S b b2 g.T.length d dn)).obj b2) _ (un_r (hfn d dn)) ?_
 refine za _ (zkt htn) ?_
 cases hdt : dn t with
 | true =>
  have hDJ2 := yod (q' := q) hDJ ht (List.Perm.refl _) hdt
  refine ynr hQ hlen hH hdis _ (fun F' o l' g1 g2 g3 g4 g5 g6 => ?_)
  refine ⟨(d, dn, F', o, l', cur), ?_, ⟨rfl, g1, g2, g3, zo7 (hDJ2) g4, g5, g6, hcb, ?_⟩, ⟨Tq, Tq, Tq, Tq, Tq, Tq, Tq, Tq, Tv⟩, Tv⟩
  ·show 9 * zgk g.T.length (dn) + (o.toList ++ l').length < 9 * zgk g.T.length dn + (Option.toList (some x) ++ q).length
   rw [<- g4.length_eq, hq9]
   omega
  ·dsimp only
   rw [<- g4.length_eq]
   omega
 | false =>
 obtain ⟨hk, hDJ1⟩ := yoc (q' := q) hDJ ht (List.Perm.refl _) hmin hdt
 have hopen := zvv htn hdt
 have hokt := yqj hDJ c1 hd0
 refine ⟨t, rfl, htn, ?_⟩
 refine zj (i := ti4) (v := V.bool true) (b := b2) (o := 0 + t * 1) (l := bl g.T.length dn) (st2 := F.un (fldS S b b2 g.T.length d (updN dn t true))) rfl rfl rfl (un_r (hfn d dn)) (by rw [xg]; omega) ?_ ?_
 ·rw [zx0 _ _ _ _ htn, zq, hsn]
 refine za (o := (F.un (fldS S b b2 g.T.length d (updN dn t true))).obj nb) _ (un_r (hfo _ _)) ?_
 refine zak g hg t htn _ _ ?_
 have hdis := hdd F d d dn (updN dn t true) hdis
 have hDJ := zrb hDJ1
 have hdn1 : updN dn t true t = true := zx _ _ _
 have hbig := zbz hcb t
 have hbn := fun (w : Nat) (hw : w < 8) => zqy hg (t := t) hw
 refine AWp.loop (σ := Nat × (Nat -> Int) × Store × List (Int × Int)) ⟨fun y => [(0, .av (ptr nb)), (2, .av (.clos 285 [])), (7, .av (.s (.slice (some ⟨b, 0, none⟩) g.T.length g.T.length))), (8, .av (.s (.slice (some ⟨b2, 0, none⟩) g.T.length g.T.length))), (9, .av (ptr p)), (10, .av (int x.1)), (11, .av (int (t : Nat))), (13, .bx 13 0), (70, .av (besV g t)), (71, .av (int (y.1 : Nat)))], fun _ => [(13, il 8 (besN g t))],
  fun y st' => y.1 <= 8 /\ st' = y.2.2.1.un (fldS S b b2 g.T.length y.2.1 (updN dn t true)) /\ QOf y.2.2.1 p y.2.2.2 /\ wx y.2.2.2 /\ Disj y.2.2.1 (fldS S b b2 g.T.length y.2.1 (updN dn t true)) /\ DJ (x7 g (zk g l c s) c) g.T.length goal y.2.1 (updN dn t true) y.2.2.2 x.1 (wayO g (zk g l c s) c t y.1) /\ y.2.1 t = x.1 /\ zg4 g.T.length y.2.1 /\ y.2.2.2.length <= q.length + y.1, fun y => 8 - y.1⟩ zc ?_ ?_
 ·exact ⟨(0, d, F, q), Tv, ⟨Nat.zero_le _, rfl, hQ, hH, hdis, hDJ, hk.symm, hcb, Nat.le_refl _⟩, ⟨Tq, Tq, Tq, Tq, Tq, Tq, Tq, Tq, Tq, Tq, Tv⟩, ⟨rfl, Tv⟩⟩
 have hx0 : 0 <= x.1 := by omega
 have hx1 : x.1 <= 84 * (g.T.length : Int) := by omega
 clear hQ hH hdis hDJ hDJ1 hcb hbig hmin hnil hd0 hdx
 rintro ⟨i, d, F, m⟩ st' ⟨hi, rfl, hQ, hH, hdis, hDJ, hdt1, hcb, hml⟩
 dsimp only at hi hQ hH hdis hDJ hdt1 hcb hml ⊢
 refine bcd (fun c2 => ?_) (fun c2 => ?_)
 rotate_left
 ·have : i = 8 := by omega
  subst this
  have hlen : m.length <= 1000000 := by omega
  have hDJ2 := zym hDJ
  refine ynr hQ hlen hH hdis _ (fun F' o l' g1 g2 g3 g4 g5 g6 => ?_)
  refine ⟨(d, updN dn t true, F', o, l', x.1), ?_, ⟨rfl, g1, g2, g3, zo7 (hDJ2) g4, g5, g6, hcb, ?_⟩, ⟨Tq, Tq, Tq, Tq, Tq, Tq, Tq, Tq, Tv⟩, Tv⟩
  ·show 9 * zgk g.T.length (updN dn t true) + (o.toList ++ l').length < 9 * zgk g.T.length dn + (Option.toList (some x) ++ q).length
   rw [<- g4.length_eq, hq9]
   omega
  ·dsimp only
   rw [<- g4.length_eq]
   omega
 have hlt : i < 8 := by omega
 refine ⟨i, rfl, hlt, ?_⟩
 refine za _ (zj8 hlt) ?_
 refine zlk hg (un_r (hfo _ _)) t htn i hlt _ ?_
 have hsb := zjm g (zk g l c s) c t i
 have hskip := zfl hDJ
 have hedge := zqv (g := g) (ok := zk g l c s) (c := c) (t := t) (way := i) hokt htn hlt
 have hor := hbn i hlt
 have hfr : 0 < yr g (zk g l c s) c t i -> 0 <= besN g t i := fun hp => (zkc (zdr (g := g) (ok := zk g l c s) (c := c) (t := t) (way := i) (by omega))).1
 generalize hC : yr g (zk g l c s) c t i = C at *
 generalize hU : besN g t i = U at *
 -- nothing to note: on with the next way
 have next : (0 < C -> ∀ u : Nat, U = u -> 0 <= d u /\ d u <= d t + C) -> ∃ y : Nat × (Nat -> Int) × Store × List (Int × Int), 8 - y.1 < 8 - i /\ (y.1 <= 8 /\ F.un (fldS S b b2 g.T.length d (updN dn t true)) = y.2.2.1.un (fldS S b b2 g.T.length y.2.1 (updN dn t true)) /\ QOf y.2.2.1 p y.2.2.2 /\ wx y.2.2.2 /\ Disj y.2.2.1 (fldS S b b2 g.T.length y.2.1 (updN dn t true)) /\ DJ (x7 g (zk g l c s) c) g.T.length goal y.2.1 (updN dn t true) y.2.2.2 x.1 (wayO g (zk g l c s) c t y.1) /\ y.2.1 t = x.1 /\ zg4 g.T.length y.2.1 /\ y.2.2.2.length <= q.length + y.1) /\ y = (i + 1, d, F, m) := fun hp =>
  ⟨(i + 1, d, F, m), by dsimp only; omega, ⟨by dsimp only; omega, rfl, hQ, hH, hdis, hskip (fun u hu hc => hp hc u hu), hdt1, hcb, by dsimp only; omega⟩, rfl⟩
 refine bcd (fun c3 => ?_) (fun c3 => ?_)
 rotate_left
 ·obtain ⟨y, f1, f2, rfl⟩ := next (fun hc => absurd hc c3)
  refine in64 (by omega) ?_
  exact ⟨(i + 1, d, F, m), f1, f2, ⟨Tq, Tq, Tq, Tq, Tq, Tq, Tq, Tq, Tq, Tq, Tv⟩, ⟨rfl, Tv⟩⟩
 have hU0 := hfr c3
 obtain ⟨u, rfl, hul⟩ : ∃ u : Nat, U = (u : Int) /\ u < g.T.length := by
  rcases hor with h1 | h1
  ·omega
  ·exact h1
 rw [Int.toNat_natCast] at hedge
 have hedge := hedge c3
 refine ⟨u, rfl, hul, ?_⟩
 refine za (o := (F.un (fldS S b b2 g.T.length d (updN dn t true))).obj b2) _ (un_r (hfn d _)) ?_
 refine za _ (zkt hul) ?_
 refine yk ?_
 refine zd (fun c4 => ?_) (fun c4 => ?_)
 ·obtain ⟨y, f1, f2, rfl⟩ := next (fun hc v hv => by
   have : v = u := by omega
   subst this
   have := hDJ.mono v c4
   omega)
  refine in64 (by omega) ?_
  exact ⟨(i + 1, d, F, m), f1, f2, ⟨Tq, Tq, Tq, Tq, Tq, Tq, Tq, Tq, Tq, Tq, Tv⟩, ⟨rfl, Tv⟩⟩
 refine ⟨u, rfl, hul, ?_⟩
 refine za (o := (F.un (fldS S b b2 g.T.length d (updN dn t true))).obj b) _ (un_r (hfd d _)) ?_
 refine za _ (yx hul) ?_
 refine bcd (fun c5 => ?_) (fun c5 => ?_)
 ·skip
  have hlow : d u < 0 \/ d t + C < d u := Or.inl c5
  have hcb2 := zby hcb hul (t := t) (u := u) (c := C) (by omega) (by omega) hlow
  rw [hdt1] at hcb2 hlow
  refine in64 (by omega) ?_
  refine ⟨u, rfl, hul, ?_⟩
  refine zj (i := ti3) (v := int (x.1 + C)) (b := b) (o := 0 + u * 1) (l := il g.T.length d) (st2 := F.un (fldS S b b2 g.T.length (updN d u (x.1 + C)) (updN dn t true))) rfl rfl rfl (un_r (hfd d _)) (by rw [yv]; omega) ?_ ?_
  ·rw [zc7 _ _ _ _ hul, zq, hsd]
  refine in64 (by omega) ?_
  refine zvc hQ (by omega) hH (hdd F d (updN d u (x.1 + C)) _ _ hdis) (x.1 + C, (u : Int)) _ (fun F' m' e1 e2 e3 e4 => ?_)
  have hnote := zxr zbx hDJ hdn1 hdt1 hul hedge c4 hlow e3
  have htu : t ≠ u := fun e => by subst e; rw [hdn1] at c4; cases c4
  have hC := hC.symm
  refine in64 (by omega) ?_
  refine ⟨(i + 1, updN d u (x.1 + C), F', m'), ?_, ⟨by dsimp only; omega, rfl, e1, e2, e4, ?_, ?_, hcb2, ?_⟩, ⟨Tq, Tq, Tq, Tq, Tq, Tq, Tq, Tq, Tq, Tq, Tv⟩, ⟨rfl, Tv⟩⟩
  ·show 8 - (i + 1) < 8 - i
   omega
  ·refine zfl hnote (fun v hv hc => ?_)
   have hvu : v = u := by
    rw [hU] at hv
    omega
   subst hvu
   dsimp only
   rw [zx, z7 htu, hdt1, <- hC]
   omega
  ·dsimp only
   rw [z7 htu]
   exact hdt1
  ·dsimp only
   rw [e3.length_eq, List.length_cons]
   omega
 have hbig := zbz hcb u
 refine in64 (by omega) ?_
 refine ⟨u, rfl, hul, ?_⟩
 refine za (o := (F.un (fldS S b b2 g.T.length d (updN dn t true))).obj b) _ (un_r (hfd d _)) ?_
 refine za _ (yx hul) ?_
 refine bcd (fun c6 => ?_) (fun c6 => ?_)
 ·skip
  have hlow : d u < 0 \/ d t + C < d u := Or.inr (show d t + C < d u by omega)
  have hcb2 := zby hcb hul (t := t) (u := u) (c := C) (by omega) (by omega) hlow
  rw [hdt1] at hcb2 hlow
  refine in64 (by omega) ?_
  refine ⟨u, rfl, hul, ?_⟩
  refine zj (i := ti3) (v := int (x.1 + C)) (b := b) (o := 0 + u * 1) (l := il g.T.length d) (st2 := F.un (fldS S b b2 g.T.length (updN d u (x.1 + C)) (updN dn t true))) rfl rfl rfl (un_r (hfd d _)) (by rw [yv]; omega) ?_ ?_
  ·rw [zc7 _ _ _ _ hul, zq, hsd]
  refine in64 (by omega) ?_
  refine zvc hQ (by omega) hH (hdd F d (updN d u (x.1 + C)) _ _ hdis) (x.1 + C, (u : Int)) _ (fun F' m' e1 e2 e3 e4 => ?_)
  have hnote := zxr zbx hDJ hdn1 hdt1 hul hedge c4 hlow e3
  have htu : t ≠ u := fun e => by subst e; rw [hdn1] at c4; cases c4
  have hC := hC.symm
  refine in64 (by omega) ?_
  refine ⟨(i + 1, updN d u (x.1 + C), F', m'), ?_, ⟨by dsimp only; omega, rfl, e1, e2, e4, ?_, ?_, hcb2, ?_⟩, ⟨Tq, Tq, Tq, Tq, Tq, Tq, Tq, Tq, Tq, Tq, Tv⟩, ⟨rfl, Tv⟩⟩
  ·show 8 - (i + 1) < 8 - i
   omega
  ·refine zfl hnote (fun v hv hc => ?_)
   have hvu : v = u := by
    rw [hU] at hv
    omega
   subst hvu
   dsimp only
   rw [zx, z7 htu, hdt1, <- hC]
   omega
  ·dsimp only
   rw [z7 htu]
   exact hdt1
  ·dsimp only
   rw [e3.length_eq, List.length_cons]
   omega
 obtain ⟨y, f1, f2, rfl⟩ := next (fun hc v hv => by
  have : v = u := by omega
  subst this
  omega)
 refine in64 (by omega) ?_
 exact ⟨(i + 1, d, F, m), f1, f2, ⟨Tq, Tq, Tq, Tq, Tq, Tq, Tq, Tq, Tq, Tq, Tv⟩, ⟨rfl, Tv⟩⟩
end Go.Proofs
namespace Go.Proofs
open Go Go.V
set_option maxRecDepth 4000
set_option maxHeartbeats 4000000 in
set_option maxRecDepth 20000 in
theorem zny {S : Store} {nb : Nat} {g : Gnd} (hg : gndP g) {l : List Bld} {c s : Int} (hn : S.obj nb = some (.cells (netC g l c s))) (goal : Nat) (hgo : goal < g.T.length) (R : AV -> Store -> Prop)
  (h : ∀ b, Fresh S b -> R (.s (.slice (some ⟨b, 0, none⟩) g.T.length g.T.length)) (S.setObj b (.cells (il g.T.length (wayF g (zk g l c s) c (farF g (zk g l c s) c goal)))))) :
  ACalls Tryz.prog 275 [ptr nb, int (goal : Nat)] S R := by
 have ha := zr hg
 have hT : g.T.length <= 16384 := by omega
 refine ACalls.of_body (c := cfg 71) zc Tryz.func275 (by rfl) (by rfl) (by rfl) (by rfl) ?_
 refine zxa hg hn goal hgo _ (fun b hf hdb => ?_)
 generalize farF g (zk g l c s) c goal = d at *
 refine ⟨by decide, ?_⟩
 refine zge (-1) g.T.length (by omega) (by omega) _ _ (fun b2 hf2 => ?_)
 have hbb : b ≠ b2 := fun e => by
  have := hf2.1
  rw [<- e, zb] at this; cases this
 rw [<- zq9 g (zk g l c s) c d]
 have hfo := fun f => yp5 (n := g.T.length) hf hf2 hn d f
 have hfd := fun f => yp7 (S := S) (n := g.T.length) hbb d f
 have hsf := fun f f' => zys (S := S) (b := b) (b2 := b2) (n := g.T.length) d f f'
 have hff := fun f => yp6 (S := S) (b := b) (b2 := b2) (n := g.T.length) d f
 refine AWp.loop (σ := Nat) ⟨fun i => [(0, .av (ptr nb)), (5, .av (.s (.slice (some ⟨b, 0, none⟩) g.T.length g.T.length))), (6, .av (.s (.slice (some ⟨b2, 0, none⟩) g.T.length g.T.length))), (20, .av (.s (.slice (some ⟨b, 0, none⟩) g.T.length g.T.length))), (21, .av (int (g.T.length : Nat))), (22, .av (int (i : Nat)))], fun _ => [],
  fun i st' => i <= g.T.length /\ st' = twoS S b b2 g.T.length d (zb3 g (zk g l c s) c d i), fun i => g.T.length - i⟩ zc ?_ ?_
 ·exact ⟨0, Tv, ⟨Nat.zero_le _, rfl⟩, ⟨Tq, Tq, Tq, Tq, Tq, Tq, Tv⟩, Tv⟩
 rintro i st' ⟨hi, rfl⟩
 refine bcd (fun c1 => ?_) (fun c1 => ?_)
 rotate_left
 ·have : i = g.T.length := by omega
  subst this
  refine j8 (Tt) (zyt hf hbb _ _) ?_
  rw [ztz]
  exact h b2 (zt9 hbb hf2)
 have hlt : i < g.T.length := by omega
 -- on with the next tile
 have next : ∀ f, f = zb3 g (zk g l c s) c d (i + 1) -> ∃ k : Nat, g.T.length - k < g.T.length - i /\ (k <= g.T.length /\ twoS S b b2 g.T.length d f = twoS S b b2 g.T.length d (zb3 g (zk g l c s) c d k)) /\ k = i + 1 := fun f e => ⟨i + 1, by omega, ⟨by omega, by rw [e]⟩, rfl⟩
 refine ⟨i, rfl, hlt, ?_⟩
 refine za (o := (twoS S b b2 g.T.length d _).obj b) _ (hfd _) ?_
 refine za _ (yx hlt) ?_
 refine bcd (fun c2 => ?_) (fun c2 => ?_)
 ·obtain ⟨k, f1, f2, rfl⟩ := next _ (zhv (zpr c2)).symm
  refine in64 (by omega) ?_
  exact ⟨i + 1, f1, f2, ⟨Tq, Tq, Tq, Tq, Tq, Tq, Tv⟩, Tv⟩
 refine za (o := (twoS S b b2 g.T.length d _).obj nb) _ (hfo _) ?_
 refine zak g hg i hlt _ _ ?_
 refine AWp.loop (σ := Nat) ⟨fun j => [(0, .av (ptr nb)), (5, .av (.s (.slice (some ⟨b, 0, none⟩) g.T.length g.T.length))), (6, .av (.s (.slice (some ⟨b2, 0, none⟩) g.T.length g.T.length))), (7, .av (int (i : Nat))), (8, .av (int (d i))), (9, .bx 9 0), (20, .av (.s (.slice (some ⟨b, 0, none⟩) g.T.length g.T.length))), (21, .av (int (g.T.length : Nat))), (22, .av (int (i : Nat))), (35, .av (besV g i)), (36, .av (int (j : Nat)))], fun _ => [(9, il 8 (besN g i))],
  fun j st' => j <= 8 /\ st' = twoS S b b2 g.T.length d (zb3 g (zk g l c s) c d i) /\ ∀ w, w < j -> ¬ xm g (zk g l c s) c d i w, fun j => 8 - j⟩ zc ?_ ?_
 ·exact ⟨0, Tv, ⟨Nat.zero_le _, rfl, fun w hw => absurd hw (Nat.not_lt_zero w)⟩, ⟨Tq, Tq, Tq, Tq, Tq, Tq, Tq, Tq, Tq, Tq, Tq, Tv⟩, ⟨rfl, Tv⟩⟩
 rintro j st' ⟨hj, rfl, hno⟩
 refine bcd (fun c3 => ?_) (fun c3 => ?_)
 rotate_left
 ·have : j = 8 := by omega
  subst this
  obtain ⟨k, f1, f2, rfl⟩ := next _ (zhv (zk4 c2 hno)).symm
  refine in64 (by omega) ?_
  exact ⟨i + 1, f1, f2, ⟨Tq, Tq, Tq, Tq, Tq, Tq, Tv⟩, Tv⟩
 have hj8 : j < 8 := by omega
 have hskip : ¬ xm g (zk g l c s) c d i j -> ∃ k : Nat, 8 - k < 8 - j /\ (k <= 8 /\ twoS S b b2 g.T.length d (zb3 g (zk g l c s) c d i) = twoS S b b2 g.T.length d (zb3 g (zk g l c s) c d i) /\ ∀ w, w < k -> ¬ xm g (zk g l c s) c d i w) /\ k = j + 1 := fun hh => ⟨j + 1, by omega, ⟨by omega, rfl, fun w hw => by
  by_cases e : w = j
  ·subst e; exact hh
  ·exact hno w (by omega)⟩, rfl⟩
 have hyes : xm g (zk g l c s) c d i j -> wayF g (zk g l c s) c d i = (j : Int) := fun hh => zk3 c2 hj8 hh hno
 refine ⟨j, rfl, hj8, ?_⟩
 refine za _ (zj8 hj8) ?_
 refine zlk hg (hfo _) i hlt j hj8 _ ?_
 have hsb := zjm g (zk g l c s) c i j
 have hor := zqy hg (t := i) hj8
 have hfr : 0 < yr g (zk g l c s) c i j -> 0 <= besN g i j := fun hp => (zkc (zdr (g := g) (ok := zk g l c s) (c := c) (t := i) (way := j) (by omega))).1
 unfold xm at hskip hyes
 generalize yr g (zk g l c s) c i j = C at *
 generalize besN g i j = U at *
 refine bcd (fun c4 => ?_) (fun c4 => ?_)
 rotate_left
 ·obtain ⟨k, f1, f2, rfl⟩ := hskip (fun hh => c4 hh.1)
  refine in64 (by omega) ?_
  exact ⟨j + 1, f1, f2, ⟨Tq, Tq, Tq, Tq, Tq, Tq, Tq, Tq, Tq, Tq, Tq, Tv⟩, ⟨rfl, Tv⟩⟩
 have hU0 := hfr c4
 obtain ⟨u, rfl, hul⟩ : ∃ u : Nat, U = (u : Int) /\ u < g.T.length := by
  rcases hor with h1 | h1
  ·omega
  ·exact h1
 rw [Int.toNat_natCast] at hskip hyes
 have hdu := hdb u
 refine ⟨u, rfl, hul, ?_⟩
 refine za (o := (twoS S b b2 g.T.length d _).obj b) _ (hfd _) ?_
 refine za _ (yx hul) ?_
 refine bcd (fun c5 => ?_) (fun c5 => ?_)
 rotate_left
 ·obtain ⟨k, f1, f2, rfl⟩ := hskip (fun hh => c5 hh.2.1)
  refine in64 (by omega) ?_
  exact ⟨j + 1, f1, f2, ⟨Tq, Tq, Tq, Tq, Tq, Tq, Tq, Tq, Tq, Tq, Tq, Tv⟩, ⟨rfl, Tv⟩⟩
 refine ⟨u, rfl, hul, ?_⟩
 refine za (o := (twoS S b b2 g.T.length d _).obj b) _ (hfd _) ?_
 refine za _ (yx hul) ?_
 refine in64 (by omega) ?_
 refine bceq (fun c6 => ?_) (fun c6 => ?_)
 rotate_left
 ·obtain ⟨k, f1, f2, rfl⟩ := hskip (fun hh => c6 hh.2.2)
  refine in64 (by omega) ?_
  exact ⟨j + 1, f1, f2, ⟨Tq, Tq, Tq, Tq, Tq, Tq, Tq, Tq, Tq, Tq, Tq, Tv⟩, ⟨rfl, Tv⟩⟩
 have hw := hyes ⟨c4, c5, c6⟩
 refine ⟨i, rfl, hlt, ?_⟩
 refine zj (i := ti3) (v := int (j : Nat)) (b := b2) (o := 0 + i * 1) (l := il g.T.length (zb3 g (zk g l c s) c d i)) (st2 := twoS S b b2 g.T.length d (zb3 g (zk g l c s) c d (i + 1))) rfl rfl rfl (hff _) (by rw [yv]; omega) ?_ ?_
 ·rw [zc7 _ _ _ _ hlt, hsf, zhw, hw]
 obtain ⟨k, f1, f2, rfl⟩ := next _ rfl
 refine in64 (by omega) ?_
 exact ⟨i + 1, f1, f2, ⟨Tq, Tq, Tq, Tq, Tq, Tq, Tv⟩, Tv⟩
end Go.Proofs
