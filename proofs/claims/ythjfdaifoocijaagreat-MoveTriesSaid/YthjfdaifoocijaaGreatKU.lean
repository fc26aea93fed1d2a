/- Ground of laws of thronglaw24: contracts and plain lemmas; no condition beyond the row's own. -/
import Derived.Test.YthjfdaifoocijaaGreatKT
import Derived.Test.YthjfdaifoocijaaGreatKS
set_option linter.unusedSimpArgs false
set_option linter.unusedVariables false
namespace Go.Proofs
open Go Go.V
set_option maxRecDepth 4000
set_option maxRecDepth 20000 in
theorem Wj (g : Gnd) (x y : Int) (st : Store) (R : AV -> Store -> Prop) (h : ∀ z : Bool, (z = true ↔ onG g x y) -> R (bool z) st) : ACalls Tryz.prog 342 [.agg (zt g), int x, int y] st R := by
 refine ACalls.of_body (c := cfg 25) zb Tryz.func342 (by rfl) (by rfl) (by rfl) (by rfl) ?_
 repeat' (first | refine bcd (fun _ => ?_) (fun _ => ?_) | refine zg (fun _ => ?_) (fun _ => ?_) | refine zc (by omega) ?_ | fail)
 all_goals
  refine ret (h _ ?_)
  unfold onG
  simp only [decide_eq_true_eq, decide_eq_false_iff_not, Bool.false_eq_true, false_iff, true_iff, beq_iff_eq, bne_iff_ne, beq_eq_false_iff_ne, ne_eq, reduceCtorEq] at *
  omega
theorem min2_eq (a b : Int) : min2 a b = min a b := by
 unfold min2
 by_cases h : b < a
 ·rw [decide_eq_true h]; show b = _; omega
 ·rw [decide_eq_false h]; show a = _; omega
theorem Wd (g : Gnd) (hg : zl g) (f : Nat -> Int) (hf : ∀ t, t < g.T.length -> 0 <= f t /\ f t <= 128) (t : Nat) (ht : t < g.T.length) (ws : List (Int × Int)) (hw : ∀ d ∈ ws, (d.1 ≠ 0 \/ d.2 ≠ 0) /\ (-1 <= d.1 /\ d.1 <= 1) /\ (-1 <= d.2 /\ d.2 <= 1)) (hwl : ws.length <= 100) (b : Nat) (st : Store) (R : AV -> Store -> Prop)
  (h : R (.tup []) (st.setObj b (.cells (il g.T.length (Fe g f ws t))))) : ACalls Tryz.prog 310 [.agg (zt g), blV b g.T.length, int t, lst 2 Cx ws] (st.setObj b (.cells (il g.T.length f))) R := by
 have hm := y9 hg
 have htb := w7 hg (t := t) (by omega)
 have hq := C0 (t := t) hg.1.1
 have hq2 := C6 (t := t) hg.1.1
 have hg1 := hg.1
 have hg2 := hg.2.1
 unfold Fe at h
 have hx : ∃ x, x = (t : Int) % g.W := ⟨_, rfl⟩
 have hy : ∃ y, y = (t : Int) / g.W := ⟨_, rfl⟩
 obtain ⟨x, hx⟩ := hx
 obtain ⟨y, hy⟩ := hy
 rw [<- hx, <- hy] at h htb
 rw [<- hx] at hq
 rw [<- hy] at hq2
 refine ACalls.of_body (c := cfg 63) zb Tryz.func310 (by rfl) (by rfl) (by rfl) (by rfl) ?_
 refine ADraw.of_sched zb (by rfl) (by rfl) zjn (by rfl) ?_
 refine ⟨by omega, ?_⟩
 refine ⟨by omega, ?_⟩
 refine zc (by omega) ?_
 refine ⟨⟨(by repeat (first | exact Tv | refine ⟨rfl, ?_⟩ | refine ⟨optR (optR (optR (za _ (zd _ _ _) rfl))), ?_⟩)), ?_⟩, Tv⟩
 refine ⟨⟨Tv, ?_⟩, Tv⟩
 refine AWp.loop (σ := Nat) ⟨fun i => [(1, .av (blV b g.T.length)), (2, .av (int (t : Nat))), (4, .bx 4 0), (8, .av (int x)), (9, .av (int y)), (21, .av (lst 2 Cx ws)), (22, .av (int (ws.length : Nat))), (23, .av (int (i : Nat)))], fun _ => [(4, zt g)],
  fun i st' => i <= ws.length /\ st' = st.setObj b (.cells (il g.T.length (setI f t (jf g f x y (f t) (ws.take i))))), fun i => ws.length - i⟩ zb ?_ ?_
 ·refine ⟨0, Tv, ⟨Nat.zero_le _, ?_⟩, ⟨Tq, Tq, Tq, ?_, ?_, Tq, ?_, Tq, Tv⟩, ⟨rfl, Tv⟩⟩
  ·rw [List.take_zero]
   show _ = st.setObj b (.cells (il g.T.length (setI f t (f t))))
   rw [zit]
  ·rw [<- hq]; exact Tq
  ·rw [<- hq2]; exact Tq
  ·rw [<- zu (f := Cx) ws]; exact Tq
 rintro i st' ⟨hi, rfl⟩
 refine bcd (fun h1 => ?_) (fun h1 => ?_)
 rotate_left
 ·have : i = ws.length := by omega
  subst this
  rw [List.take_length]
  exact ret h
 have hlt : i < ws.length := by omega
 have hd := hw _ (List.getElem_mem hlt)
 have hv := Nv hg hf x y (ws.take i) (f t) (hf t ht)
 have hsn := zna g f x y (f t) ws hlt
 have hgs := zp2 hg f (t := t) (jf g f x y (f t) (ws.take i)) hd.1
 rw [<- hx, <- hy] at hgs
 generalize hV : jf g f x y (f t) (ws.take i) = V0 at *
 have ho : (st.setObj b (.cells (il g.T.length (setI f t V0)))).obj b = some (.cells (il g.T.length (setI f t V0))) := zd _ _ _
 refine ⟨i, rfl, za _ (zj hlt) ?_⟩
 refine ⟨0, rfl, by decide, ?_⟩
 refine zc (by omega) ?_
 refine ⟨1, rfl, by decide, ?_⟩
 refine zc (by omega) ?_
 refine Wj g (x + ws[i].1) (y + ws[i].2) _ _ (fun z hz => ?_)
 have hgv := bp hg hf (x + ws[i].1) (y + ws[i].2)
 have fin : min V0 (gv g f (x + ws[i].1) (y + ws[i].2) + 1) = jf g f x y (f t) (ws.take (i + 1)) := hsn.symm
 refine zg (fun c1 => ?_) (fun c1 => ?_)
 ·have hon := hz.1 c1
  obtain ⟨e1, e2, e3, e4⟩ := wz hg hon
  have hpos : 0 <= g.W * (y + ws[i].2) := Int.mul_nonneg (by omega) (by have := hon.2.1; omega)
  have hval : setI f t V0 (tl g (x + ws[i].1) (y + ws[i].2)) = gv g f (x + ws[i].1) (y + ws[i].2) := by
   rw [<- hgs]; unfold gv; rw [if_pos hon]
  refine ⟨0, rfl, by decide, ?_⟩
  refine zc (by omega) ?_
  refine ⟨1, rfl, by decide, ?_⟩
  refine zc (by omega) ?_
  refine zc (by omega) ?_
  refine zc (by omega) ?_
  refine ⟨tl g (x + ws[i].1) (y + ws[i].2), e1.symm, e2, ?_⟩
  refine za _ ho (za _ (kr e2) ?_)
  rw [hval]
  refine ⟨t, rfl, ht, ?_⟩
  refine za _ ho (za _ (kr ht) ?_)
  rw [G8]
  refine zc (by omega) ?_
  refine ⟨t, rfl, ht, ?_⟩
  refine qd (i := ti3) (v := int (min2 V0 (gv g f (x + ws[i].1) (y + ws[i].2) + 1))) (b := b) (o := 0 + t * 1) (l := il g.T.length (setI f t V0)) (st2 := st.setObj b (.cells (il g.T.length (setI f t (jf g f x y (f t) (ws.take (i + 1))))))) rfl rfl rfl ho (by rw [qc]; omega) ?_ ?_
  ·rw [yr, show 0 + t * 1 = t by omega, Ck ht, Na, min2_eq, fin]
  refine zc (by omega) ?_
  refine ⟨i + 1, ?_, ⟨by omega, rfl⟩, ⟨Tq, Tq, Tq, Tq, Tq, Tq, Tq, Tq, Tv⟩, ⟨rfl, Tv⟩⟩
  show ws.length - (i + 1) < ws.length - i
  omega
 ·have hoff : ¬ onG g (x + ws[i].1) (y + ws[i].2) := fun hh => by have := hz.2 hh; rw [this] at c1; cases c1
  have hz0 : gv g f (x + ws[i].1) (y + ws[i].2) = 0 := if_neg hoff
  rw [hz0] at fin
  refine ⟨t, rfl, ht, ?_⟩
  refine za _ ho (za _ (kr ht) ?_)
  rw [G8]
  refine zc (by omega) ?_
  refine ⟨t, rfl, ht, ?_⟩
  refine qd (i := ti3) (v := int (min2 V0 (0 + 1))) (b := b) (o := 0 + t * 1) (l := il g.T.length (setI f t V0)) (st2 := st.setObj b (.cells (il g.T.length (setI f t (jf g f x y (f t) (ws.take (i + 1))))))) rfl rfl rfl ho (by rw [qc]; omega) ?_ ?_
  ·rw [yr, show 0 + t * 1 = t by omega, Ck ht, Na, min2_eq, fin]
  refine zc (by omega) ?_
  refine ⟨i + 1, ?_, ⟨by omega, rfl⟩, ⟨Tq, Tq, Tq, Tq, Tq, Tq, Tq, Tq, Tv⟩, ⟨rfl, Tv⟩⟩
  show ws.length - (i + 1) < ws.length - i
  omega
def kh (o : Nat -> Bool) (t : Nat) : Int := if o t then 128 else 0
def vp (o : Nat -> Bool) (i t : Nat) : Int := if t < i then kh o t else 0
theorem Wh (o : Nat -> Bool) (n : Nat) : ∀ t, t < n -> 0 <= kh o t /\ kh o t <= 128 := fun t _ => by unfold kh; split <;> decide
def Vt (g : Gnd) (l : List Bld) (c : Int) : AV := lst 1 qn (ilL g.T.length (wg g (zw g l c)))
theorem zlr (g : Gnd) (hg : zl g) (l : List Bld) (hl : l.length <= 1000000000000) (hb : ∀ b ∈ l, z7 b /\ onP g b) (c : Int) (st : Store) (R : AV -> Store -> Prop) (h : R (Vt g l c) st) :
  ACalls Tryz.prog 254 [.agg (zt g), lst 6 zp l, int c] st R := by
 have ha := y9 hg
 have fwd_ok : ∀ d ∈ F7, (d.1 ≠ 0 \/ d.2 ≠ 0) /\ (-1 <= d.1 /\ d.1 <= 1) /\ (-1 <= d.2 /\ d.2 <= 1) := by decide
 have bwd_ok : ∀ d ∈ D1, (d.1 ≠ 0 \/ d.2 ≠ 0) /\ (-1 <= d.1 /\ d.1 <= 1) /\ (-1 <= d.2 /\ d.2 <= 1) := by decide
 refine ACalls.of_awp (c := cfg 63) zb Tryz.func254 (by rfl) (by rfl) (by rfl) (by rfl) ?_
 refine AWp.seq (AWp.of_vc zb ?_)
 refine AWp.seq (AWp.of_vc zb ?_)
 refine Cv rfl (it := ti29) (ie := ti3) rfl rfl rfl rfl rfl (n := (rws u8C g.T).length) ?_ ?_ (fun b hf => ?_)
 ·rw [zu]; show 8 * _ <= _; omega
 ·rw [zu]; omega
 rw [zu, bj]
 refine AWp.meetA (σ := Unit) ⟨fun _ => [(3, .bx 3 0), (7, .av (blV b g.T.length))], fun _ => [(3, zt g)], fun _ st' => st' = st.setObj b (.cells (il g.T.length (kh (zw g l c))))⟩ ?_ ?_
 ·refine AWp.of_vc zb ?_
  refine Dw g hg l hl hb c _ _ ?_
  refine AWp.loop (σ := Nat) ⟨fun i => [(3, .bx 3 0), (7, .av (blV b g.T.length)), (19, .av (opV g l c)), (20, .av (int (g.T.length : Nat))), (21, .av (int (i : Nat)))], fun _ => [(3, zt g)],
   fun i st' => i <= g.T.length /\ st' = st.setObj b (.cells (il g.T.length (vp (zw g l c) i))), fun i => g.T.length - i⟩ zb ?_ ?_
  ·refine ⟨0, Tv, ⟨Nat.zero_le _, ?_⟩, ⟨Tq, Tq, Tq, ?_, Tq, Tv⟩, ⟨rfl, Tv⟩⟩
   ·rw [show vp (zw g l c) 0 = fun _ => 0 from funext fun t => if_neg (Nat.not_lt_zero t)]
   ·show LV.le (.av (int ((rws x8 (blL g.T.length (zw g l c))).length : Nat))) (.av (int (g.T.length : Nat)))
    rw [zu, j7]; exact Tq
  rintro i st' ⟨hi, rfl⟩
  refine bcd (fun h1 => ?_) (fun h1 => ?_)
  rotate_left
  ·have : i = g.T.length := by omega
   subst this
   refine ⟨(), ?_, ⟨Tq, Tq, Tv⟩, ⟨rfl, Tv⟩⟩
   show st.setObj b (.cells (il g.T.length (vp (zw g l c) g.T.length))) = st.setObj b (.cells (il g.T.length (kh (zw g l c))))
   rw [Hr (f := vp (zw g l c) g.T.length) (g := kh (zw g l c)) fun t ht => if_pos ht]
  have hlt : i < g.T.length := by omega
  have ho : (st.setObj b (.cells (il g.T.length (vp (zw g l c) i)))).obj b = some (.cells (il g.T.length (vp (zw g l c) i))) := zd _ _ _
  have hlt2 : i < (blL g.T.length (zw g l c)).length := by rw [j7]; exact hlt
  have s2 : ∀ s, s ≠ i -> vp (zw g l c) (i + 1) s = vp (zw g l c) i s := fun s hs => by
   unfold vp
   by_cases h3 : s < i
   ·rw [if_pos h3, if_pos (by omega)]
   ·rw [if_neg h3, if_neg (by omega)]
  have s1 : vp (zw g l c) (i + 1) i = kh (zw g l c) i := if_pos (by omega)
  refine ⟨i, rfl, za _ (zj hlt2) ?_⟩
  refine zg (fun c1 => ?_) (fun c1 => ?_)
  ·rw [D2 hlt] at c1
   refine ⟨i, rfl, hlt, ?_⟩
   refine qd (i := ti3) (v := int 128) (b := b) (o := 0 + i * 1) (l := _) (st2 := st.setObj b (.cells (il g.T.length (vp (zw g l c) (i + 1))))) rfl rfl rfl ho (by rw [qc]; omega) ?_ ?_
   ·rw [yr, show 0 + i * 1 = i by omega, <- bk hlt _ s2, s1]
    unfold kh
    rw [if_pos c1]
   refine zc (by omega) ?_
   refine ⟨i + 1, ?_, ⟨by omega, rfl⟩, ⟨Tq, Tq, Tq, Tq, Tq, Tv⟩, ⟨rfl, Tv⟩⟩
   show g.T.length - (i + 1) < g.T.length - i
   omega
  ·rw [D2 hlt] at c1
   refine zc (by omega) ?_
   refine ⟨i + 1, ?_, ⟨by omega, ?_⟩, ⟨Tq, Tq, Tq, Tq, Tq, Tv⟩, ⟨rfl, Tv⟩⟩
   ·show g.T.length - (i + 1) < g.T.length - i
    omega
   ·refine congrArg (fun f => st.setObj b (.cells (il g.T.length f))) (funext fun s => ?_)
    by_cases h3 : s = i
    ·subst h3
     rw [s1]
     unfold kh vp
     rw [if_neg (by omega), if_neg (by rw [c1]; decide)]
    ·exact (s2 s h3).symm
 rintro _ _ rfl
 refine AWp.meetA (σ := Unit) ⟨fun _ => [(3, .bx 3 0), (7, .av (blV b g.T.length))], fun _ => [(3, zt g)], fun _ st' => st' = st.setObj b (.cells (il g.T.length (jb g (kh (zw g l c)) g.T.length)))⟩ ?_ ?_
 ·refine AWp.of_vc zb ?_
  refine AWp.loop (σ := Nat) ⟨fun i => [(3, .bx 3 0), (7, .av (blV b g.T.length)), (32, .av (int (g.T.length : Nat))), (33, .av (int (i : Nat)))], fun _ => [(3, zt g)],
   fun i st' => i <= g.T.length /\ st' = st.setObj b (.cells (il g.T.length (jb g (kh (zw g l c)) i))), fun i => g.T.length - i⟩ zb ?_ ?_
  ·exact ⟨0, Tv, ⟨Nat.zero_le _, rfl⟩, ⟨Tq, Tq, Tq, Tq, Tv⟩, ⟨rfl, Tv⟩⟩
  rintro i st' ⟨hi, rfl⟩
  refine bcd (fun h1 => ?_) (fun h1 => ?_)
  rotate_left
  ·have : i = g.T.length := by omega
   subst this
   exact ⟨(), rfl, ⟨Tq, Tq, Tv⟩, ⟨rfl, Tv⟩⟩
  have hlt : i < g.T.length := by omega
  refine ⟨by decide, ?_⟩
  refine Wd g hg (jb g (kh (zw g l c)) i) (My hg (Wh _ _) i hi) i hlt F7 fwd_ok (by decide) b _ _ ?_
  refine zc (by omega) ?_
  refine ⟨i + 1, ?_, ⟨by omega, rfl⟩, ⟨Tq, Tq, Tq, Tq, Tv⟩, ⟨rfl, Tv⟩⟩
  show g.T.length - (i + 1) < g.T.length - i
  omega
 rintro _ _ rfl
 have hbA := My hg (Wh (zw g l c) g.T.length) g.T.length (Nat.le_refl _)
 have hroom : wg g (zw g l c) = ko g (jb g (kh (zw g l c)) g.T.length) g.T.length g.T.length := rfl
 generalize jb g (kh (zw g l c)) g.T.length = FA at *
 refine AWp.meetA (σ := Unit) ⟨fun _ => [(7, .av (blV b g.T.length))], fun _ => [], fun _ st' => st' = st.setObj b (.cells (il g.T.length (wg g (zw g l c))))⟩ ?_ ?_
 ·refine AWp.of_vc zb ?_
  refine zc (by omega) ?_
  refine AWp.loop (σ := Nat) ⟨fun j => [(3, .bx 3 0), (7, .av (blV b g.T.length)), (11, .av (int ((g.T.length : Int) - 1 - (j : Nat))))], fun _ => [(3, zt g)],
   fun j st' => j <= g.T.length /\ st' = st.setObj b (.cells (il g.T.length (ko g FA g.T.length j))), fun j => g.T.length - j⟩ zb ?_ ?_
  ·refine ⟨0, Tv, ⟨Nat.zero_le _, rfl⟩, ⟨Tq, Tq, ?_, Tv⟩, ⟨rfl, Tv⟩⟩
   rw [show (g.T.length : Int) - 1 - ((0 : Nat) : Int) = (g.T.length : Int) - 1 by omega]; exact Tq
  rintro j st' ⟨hj, rfl⟩
  refine bcd (fun h1 => ?_) (fun h1 => ?_)
  rotate_left
  ·have : j = g.T.length := by omega
   subst this
   exact ⟨(), by rw [hroom], ⟨Tq, Tv⟩, Tv⟩
  have hlt : j < g.T.length := by omega
  refine ⟨by decide, ?_⟩
  refine ACalls.le (ys := [.agg (zt g), blV b g.T.length, int ((g.T.length - 1 - j : Nat) : Int), lst 2 Cx D1]) ⟨Tt, Tt, by rw [show (g.T.length : Int) - 1 - (j : Int) = ((g.T.length - 1 - j : Nat) : Int) by omega]; exact Tt, Tt, Tv⟩ ?_
  refine Wd g hg (ko g FA g.T.length j) (Si hg hbA j hj) (g.T.length - 1 - j) (by omega) D1 bwd_ok (by decide) b _ _ ?_
  refine zc (by omega) ?_
  refine ⟨j + 1, ?_, ⟨by omega, rfl⟩, ⟨Tq, Tq, ?_, Tv⟩, ⟨rfl, Tv⟩⟩
  ·show g.T.length - (j + 1) < g.T.length - j
   omega
  ·rw [show (g.T.length : Int) - 1 - ((j + 1 : Nat) : Int) = (g.T.length : Int) - 1 - (j : Nat) - 1 by omega]; exact Tq
 rintro _ _ rfl
 refine AWp.freeze (d := 7) (b := b) (k := 1) (n := g.T.length) (cap := g.T.length) (rows := rws qn (ilL g.T.length (wg g (zw g l c)))) (pad := []) rfl ?_ ?_ ?_ (Nat.le_refl _) ?_ ?_ ?_
 ·rw [List.append_nil, zpp]; exact zd _ _ _
 ·exact hf.2
 ·rw [zu, Kp]
 ·intro row hr
  obtain ⟨x, _, rfl⟩ := List.mem_map.1 hr
  rfl
 ·intro row hr y hy
  obtain ⟨x, _, rfl⟩ := List.mem_map.1 hr
  simp [qn] at hy
  exact ⟨_, hy, rfl⟩
 rw [Hz hf.1]
 refine AWp.of_vc zb ?_
 exact ret h
def wn (g : Gnd) (l : List Bld) (c s : Int) (i t : Nat) : Bool := if t < i then zv g l c s t else false
theorem zrf (g : Gnd) (hg : zl g) (l : List Bld) (hl : l.length <= 1000000000000) (hb : ∀ b ∈ l, z7 b /\ onP g b) (c s : Int) (hs : 0 <= s /\ s <= 3) (st : Store) (R : AV -> Store -> Prop) (h : R (bt g l c s) st) :
  ACalls Tryz.prog 169 [.agg (zt g), lst 6 zp l, int c, int s] st R := by
 have ha := y9 hg
 refine ACalls.of_awp (c := cfg 34) zb Tryz.func169 (by rfl) (by rfl) (by rfl) (by rfl) ?_
 refine AWp.seq (AWp.of_vc zb ?_)
 refine AWp.seq (AWp.of_vc zb ?_)
 refine Cv rfl (it := ti88) (ie := ti4) rfl rfl rfl rfl rfl (n := (rws u8C g.T).length) ?_ ?_ (fun b hf => ?_)
 ·rw [zu]; show 1 * _ <= _; omega
 ·rw [zu]; omega
 rw [zu, H5]
 refine AWp.meetA (σ := Unit) ⟨fun _ => [(9, .av (blV b g.T.length))], fun _ => [], fun _ st' => st' = st.setObj b (.cells (bl g.T.length (zv g l c s)))⟩ ?_ ?_
 ·refine AWp.of_vc zb ?_
  refine zlr g hg l hl hb c _ _ ?_
  refine AWp.loop (σ := Nat) ⟨fun i => [(3, .av (int s)), (9, .av (blV b g.T.length)), (19, .av (Vt g l c)), (20, .av (int (g.T.length : Nat))), (21, .av (int (i : Nat)))], fun _ => [],
   fun i st' => i <= g.T.length /\ st' = st.setObj b (.cells (bl g.T.length (wn g l c s i))), fun i => g.T.length - i⟩ zb ?_ ?_
  ·refine ⟨0, Tv, ⟨Nat.zero_le _, ?_⟩, ⟨Tq, Tq, Tq, ?_, Tq, Tv⟩, Tv⟩
   ·rw [show wn g l c s 0 = fun _ => false from funext fun t => if_neg (Nat.not_lt_zero t)]
   ·show LV.le (.av (int ((rws qn (ilL g.T.length (wg g (zw g l c)))).length : Nat))) (.av (int (g.T.length : Nat)))
    rw [zu, Kp]; exact Tq
  rintro i st' ⟨hi, rfl⟩
  refine bcd (fun h1 => ?_) (fun h1 => ?_)
  rotate_left
  ·have : i = g.T.length := by omega
   subst this
   refine ⟨(), ?_, ⟨Tq, Tv⟩, Tv⟩
   show st.setObj b (.cells (bl g.T.length (wn g l c s g.T.length))) = st.setObj b (.cells (bl g.T.length (zv g l c s)))
   rw [zt2 (f := wn g l c s g.T.length) (g := zv g l c s) fun t ht => if_pos ht]
  have hlt : i < g.T.length := by omega
  have ho : (st.setObj b (.cells (bl g.T.length (wn g l c s i)))).obj b = some (.cells (bl g.T.length (wn g l c s i))) := zd _ _ _
  have hlt2 : i < (ilL g.T.length (wg g (zw g l c))).length := by rw [Kp]; exact hlt
  have s2 : ∀ q, q ≠ i -> wn g l c s (i + 1) q = wn g l c s i q := fun q hq => by
   unfold wn
   by_cases h3 : q < i
   ·rw [if_pos h3, if_pos (by omega)]
   ·rw [if_neg h3, if_neg (by omega)]
  have s1 : wn g l c s (i + 1) i = zv g l c s i := if_pos (by omega)
  refine ⟨i, rfl, za _ (zj hlt2) ?_⟩
  refine ⟨i, rfl, hlt, ?_⟩
  refine qd (i := ti4) (v := V.bool (decide (s < (ilL g.T.length (wg g (zw g l c)))[i]))) (b := b) (o := 0 + i * 1) (l := _) (st2 := st.setObj b (.cells (bl g.T.length (wn g l c s (i + 1))))) rfl rfl rfl ho (by rw [jk]; omega) ?_ ?_
  ·rw [yr, show 0 + i * 1 = i by omega, <- wt hlt _ s2, s1, zpr hlt, zqc hg l c hs hlt]
  refine zc (by omega) ?_
  refine ⟨i + 1, ?_, ⟨by omega, rfl⟩, ⟨Tq, Tq, Tq, Tq, Tq, Tv⟩, Tv⟩
  show g.T.length - (i + 1) < g.T.length - i
  omega
 rintro _ _ rfl
 refine AWp.freeze (d := 9) (b := b) (k := 1) (n := g.T.length) (cap := g.T.length) (rows := rws x8 (blL g.T.length (zv g l c s))) (pad := []) rfl ?_ ?_ ?_ (Nat.le_refl _) ?_ ?_ ?_
 ·rw [Ke]; exact zd _ _ _
 ·exact hf.2
 ·rw [zu, j7]
 ·intro row hr
  obtain ⟨x, _, rfl⟩ := List.mem_map.1 hr
  rfl
 ·intro row hr y hy
  obtain ⟨x, _, rfl⟩ := List.mem_map.1 hr
  simp [x8] at hy
  exact ⟨_, hy, rfl⟩
 rw [Hz hf.1]
 refine AWp.of_vc zb ?_
 exact ret h
/-- A net, in an object. -/
def Ad (g : Gnd) (l : List Bld) (c s : Int) : List AV := zt g ++ [int c, bt g l c s]
theorem cd (g : Gnd) (hg : zl g) (l : List Bld) (hl : l.length <= 1000000000000) (hb : ∀ b ∈ l, z7 b /\ onP g b) (c s : Int) (hs : 0 <= s /\ s <= 3) (st : Store) (R : AV -> Store -> Prop) (h : ∀ b, Fresh st b -> R (ptr b) (st.setObj b (.cells (Ad g l c s)))) :
  ACalls Tryz.prog 111 [.agg (zt g), lst 6 zp l, int c, int s] st R := by
 refine ACalls.of_body (c := cfg 18 [17] []) zb Tryz.func111 (by rfl) (by rfl) (by rfl) (by rfl) ?_
 refine ADraw.of_sched zb (by rfl) (by rfl) zkv (by rfl) ?_
 refine ⟨zrf g hg l hl hb c s hs _ _ ⟨(by repeat (first | exact Tv | refine ⟨rfl, ?_⟩ | refine ⟨optR (optR (optR (za _ (zd _ _ _) rfl))), ?_⟩)), ?_⟩, Tv⟩
 refine ⟨fun b hf => ⟨(by repeat (first | exact Tv | refine ⟨rfl, ?_⟩ | refine ⟨optR (optR (optR (za _ (zd _ _ _) rfl))), ?_⟩)), ?_⟩, Tv⟩
 refine ⟨⟨Tv, ?_⟩, Tv⟩
 exact ret (h b hf)
end Go.Proofs
namespace Go.Proofs
open Go Go.V
set_option maxRecDepth 4000
/-- A store into a box of the call's own. -/
theorem fa {m n : Nat} {p : Prop} (h : m <= n) (k : p) : (bif Nat.ble m n then p else False) := by
 have : Nat.ble m n = true := Nat.ble_eq ▸ h
 rw [this]
 exact k
theorem zog (x y : Int) (hx : 0 <= x) (hx2 : x < 18446744073709551616) (hy : 0 <= y) (hy2 : y < 18446744073709551616) (st : Store) (R : AV -> Store -> Prop) (h : R (.tup (qp (x * y))) st) :
  ACalls Tryz.prog 190 [u64 x, u64 y] st R := by
 refine ACalls.of_body (c := cfg 30) zb Tryz.func190 (by rfl) (by rfl) (by rfl) (by rfl) ?_
 refine N8 x y hx hx2 hy hy2 _ _ ?_
 exact ret h
set_option maxHeartbeats 1000000 in
/-- A list that says the same all over. -/
theorem Vy (v : Int) (n : Nat) (h0 : 1 <= n) (hn : n <= 1000000) (st : Store) (R : AV -> Store -> Prop) (h : ∀ b, Fresh st b -> R (.s (.slice (some ⟨b, 0, none⟩) n n)) (st.setObj b (.cells (il n fun _ => v)))) :
  ACalls Tryz.prog 121 [lst 1 qn [v], int (n : Nat)] st R := by
 refine ACalls.of_body (c := cfg 48) zb Tryz.func121 (by rfl) (by rfl) (by rfl) (by rfl) ?_
 have w2 : IntKind.u64.wrap (n : Int) = n := kw (by omega) (by omega)
 have w1 : IntKind.u64.wrap ((rws qn [v]).length : Nat) = 1 := rfl
 show ACalls _ _ [u64 (IntKind.u64.wrap _), u64 (IntKind.u64.wrap (n : Int))] _ _
 rw [w2, w1]
 refine zog 1 n (by omega) (by omega) (by omega) (by omega) _ _ ?_
 have e1 : (1 * (n : Int)) = n := Int.one_mul _
 rw [e1]
 have e2 : qp (n : Int) = [u64 0, u64 n] := by
  unfold qp
  rw [Int.ediv_eq_zero_of_lt (by omega) (by omega), Int.emod_eq_of_lt (by omega) (by omega)]
 rw [e2]
 refine bcd (fun c3 => absurd c3 (by omega)) (fun c3 => ?_)
 refine zc (by omega) ?_
 refine Cv rfl (it := ti29) (ie := ti3) rfl rfl rfl rfl rfl (n := n) ?_ ?_ (fun b hf => ?_)
 ·show 8 * _ <= _; omega
 ·omega
 rw [bj]
 refine fz rfl rfl rfl rfl (it := ti29) (ie := ti3) rfl rfl rfl (src := lst 1 qn [v]) (SrcN.rows (rows := rws qn [v]) rfl) (n := 1) (by show 1 = min 1 n; omega) (zd _ _ _) (by rw [qc]; show 0 + 1 * 1 <= n; omega) ?_
 rw [yr]
 have e3 : zy (il n fun _ => 0) 0 (rws qn [v]).flatten = il n (jx v 1) := by
  show zy (il n fun _ => 0) 0 [int v] = _
  rw [Ck (t := 0) (by omega)]
  refine Hr fun t ht => ?_
  unfold setI jx
  by_cases h0 : t = 0
  ·rw [if_pos h0, if_pos (by omega)]
  ·rw [if_neg h0, if_neg (by omega)]
 rw [e3]
 refine AWp.loop (σ := Nat) ⟨fun k => [(7, .av (.s (.slice (some ⟨b, 0, none⟩) n n))), (8, .av (int (k : Nat)))], fun _ => [],
  fun k st' => 1 <= k /\ k <= n /\ st' = st.setObj b (.cells (il n (jx v k))), fun k => n - k⟩ zb ?_ ?_
 ·exact ⟨1, Tv, ⟨Nat.le_refl _, h0, rfl⟩, ⟨Tq, Tq, Tv⟩, Tv⟩
 rintro k st' ⟨hk1, hk, rfl⟩
 refine bcd (fun c4 => ?_) (fun c4 => ?_)
 rotate_left
 ·have : k = n := by omega
  subst this
  rw [zpq]
  exact ret (h b hf)
 have hlt : k < n := by omega
 have hb : (st.setObj b (.cells (il n (jx v k)))).obj b = some (.cells (il n (jx v k))) := zd _ _ _
 obtain ⟨m, hm⟩ : ∃ m, m = min k (n - k) := ⟨_, rfl⟩
 refine ADraw.of_sched zb (by rfl) (by rfl) zku (by rfl) ?_
 refine ⟨k, n, rfl, rfl, by omega, Nat.le_refl _, .inl ⟨hlt, ?_⟩⟩
 refine ⟨0, k, rfl, rfl, Nat.zero_le _, by omega, .inl ⟨by omega, ?_⟩⟩
 refine ⟨fz rfl rfl rfl rfl (it := ti29) (ie := ti3) rfl rfl rfl (SrcN.obj (n := m) hb (by rw [qc]; show 0 + 0 * 1 + m * 1 <= n; omega) (fun y hy => by
   have := List.mem_of_mem_drop (List.mem_of_mem_take hy)
   obtain ⟨t, _, rfl⟩ := List.mem_map.1 this
   rfl)) (hm.trans (by rw [Nat.sub_zero])) hb (by rw [qc]; show 0 + k * 1 + m * 1 <= n; omega) ⟨Tv, ?_⟩, Tv⟩
 rw [yr]
 refine zc (by omega) ?_
 refine ⟨⟨Tv, ?_⟩, Tv⟩
 refine ⟨k + m, ?_, ⟨by omega, by omega, ?_⟩, ⟨Tq, Tq, Tv⟩, Tv⟩
 ·show n - (k + m) < n - k
  omega
 ·exact congrArg (fun l => st.setObj b (.cells l)) (zl9 (by omega) (by omega))
theorem Pb (u : Int) (st : Store) (R : AV -> Store -> Prop) (h : R (V.bool true) st) : ACalls Tryz.prog 429 [int u] st R := by
 refine ACalls.of_body (c := cfg 3) zb Tryz.func429 (by rfl) (by rfl) (by rfl) (by rfl) ?_
 exact ret h
theorem zqx (w : Nat) (h1 : 4 <= w) (h2 : w < 8) (st : Store) (R : AV -> Store -> Prop) (h : R (.tup [int (De w : Nat), int (Dd w : Nat)]) st) : ACalls Tryz.prog 436 [int (w : Nat)] st R := by
 have hw : w = 4 \/ w = 5 \/ w = 6 \/ w = 7 := by omega
 rcases hw with rfl | rfl | rfl | rfl
 all_goals
  refine ACalls.of_body (c := cfg 10) zb Tryz.func436 (by rfl) (by rfl) (by rfl) (by rfl) ?_
  refine ADraw.of_sched zb (by rfl) (by rfl) zjd (by rfl) ?_
  refine ⟨_, rfl, by decide, ?_⟩
  refine ⟨_, rfl, by decide, ?_⟩
  refine ⟨⟨(by repeat (first | exact Tv | refine ⟨rfl, ?_⟩ | refine ⟨optR (optR (optR (za _ (zd _ _ _) rfl))), ?_⟩)), ⟨⟨Tv, ?_⟩, Tv⟩⟩, Tv⟩
  exact ret h
theorem gy (st : Store) (R : AV -> Store -> Prop) (h : R (.agg dirC) st) : ACalls Tryz.prog 341 [] st R := by
 refine ACalls.of_body (c := cfg 10) zb Tryz.func341 (by rfl) (by rfl) (by rfl) (by rfl) ?_
 exact ret h
set_option maxRecDepth 10000 in
set_option maxHeartbeats 1000000 in
theorem Lo (g : Gnd) (hg : zl g) (t : Nat) (ht : t < g.T.length) (st : Store) (R : AV -> Store -> Prop) (h : R (Gj g t) st) : ACalls Tryz.prog 298 [.agg (zt g), int (t : Nat)] st R := by
 have hm := y9 hg
 have htb := w7 hg (t := t) (by omega)
 have hq := C0 (t := t) hg.1.1
 have hq2 := C6 (t := t) hg.1.1
 have hg1 := hg.1
 have hg2 := hg.2.1
 have hbes := fun (i : Nat) (hi : i < 8) => zt8 g t hi
 obtain ⟨x, hx⟩ : ∃ x, x = (t : Int) % g.W := ⟨_, rfl⟩
 obtain ⟨y, hy⟩ : ∃ y, y = (t : Int) / g.W := ⟨_, rfl⟩
 rw [<- hx, <- hy] at htb hbes
 rw [<- hx] at hq
 rw [<- hy] at hq2
 refine ACalls.of_body (c := cfg 50) zb Tryz.func298 (by rfl) (by rfl) (by rfl) (by rfl) ?_
 refine ADraw.of_sched zb (by rfl) (by rfl) zjo (by rfl) ?_
 refine ⟨by omega, ?_⟩
 refine ⟨by omega, ?_⟩
 refine zc (by rw [hq2]; omega) ?_
 refine ⟨⟨?_, ⟨⟨Tv, ?_⟩, Tv⟩⟩, Tv⟩
 ·exact ⟨rfl, Tv⟩
 rw [hq, hq2]
 refine gy _ _ ?_
 refine AWp.loop (σ := Nat) ⟨fun i => [(2, .bx 2 0), (4, .bx 4 0), (5, .av (int x)), (6, .av (int y)), (17, .av (.agg dirC)), (18, .av (int (i : Nat)))], fun i => [(2, zt g), (4, il 8 (wu g t i))],
  fun i st' => i <= 8 /\ st' = st, fun i => 8 - i⟩ zb ?_ ?_
 ·exact ⟨0, Tv, ⟨Nat.zero_le _, rfl⟩, ⟨Tq, Tq, Tq, Tq, Tq, Tq, Tv⟩, ⟨rfl, rfl, Tv⟩⟩
 rintro i st' ⟨hi, rfl⟩
 refine bcd (fun c1 => ?_) (fun c1 => ?_)
 rotate_left
 ·have : i = 8 := by omega
  subst this
  refine ret ?_
  have e : AV.agg (il 8 (wu g t 8)) = Gj g t := congrArg AV.agg (zt7 g t)
  rw [<- e] at h
  exact h
 have hlt : i < 8 := by omega
 have hr := zsh hlt
 have hd := zsg hlt
 have hbe := hbes i hlt
 have hst := zt6 g t (i := i)
 generalize dirL.getD i (0, 0) = d at *
 refine ⟨i, rfl, hlt, ?_⟩
 refine qm (i := ti376) (row := Cx d) rfl rfl hr ?_
 refine ⟨i, rfl, hlt, ?_⟩
 refine fa (by rw [qc]; show 0 + i * 1 + 1 <= 8; omega) ?_
 refine Dt ?_
 refine ⟨0, rfl, by decide, ?_⟩
 refine zc (by omega) ?_
 refine ⟨1, rfl, by decide, ?_⟩
 refine zc (by omega) ?_
 refine Wj _ _ _ _ _ (fun z hz => ?_)
 refine zg (fun c2 => ?_) (fun c2 => ?_)
 ·have hon := hz.1 c2
  obtain ⟨e1, e2, _, _⟩ := wz hg hon
  have hpos : 0 <= g.W * (y + d.2) := Int.mul_nonneg (by omega) (by have := hon.2.1; omega)
  refine ⟨0, rfl, by decide, ?_⟩
  refine zc (by omega) ?_
  refine ⟨1, rfl, by decide, ?_⟩
  refine zc (by omega) ?_
  refine zc (by omega) ?_
  refine zc (by omega) ?_
  refine ⟨i, rfl, hlt, ?_⟩
  refine fa (by
   show 0 + i * 1 + 1 <= (zy (il 8 (wu g t i)) (0 + i * 1) [int (-1)]).length
   rw [show 0 + i * 1 = i by omega, Ck hlt, qc]; omega) ?_
  refine Dt ?_
  refine zc (by omega) ?_
  refine ⟨i + 1, ?_, ⟨by omega, rfl⟩, ⟨Tq, Tq, Tq, Tq, Tq, Tq, Tv⟩, ⟨rfl, ?_, Tv⟩⟩
  ·show 8 - (i + 1) < 8 - i
   omega
  ·show some (zy (zy (il 8 (wu g t i)) (0 + i * 1) [int (-1)]) (0 + i * 1) [int (x + d.1 + g.W * (y + d.2))]) = some (il 8 (wu g t (i + 1)))
   rw [show 0 + i * 1 = i by omega, Ck hlt, Ck hlt, Na, hst]
   rw [hbe]
   unfold Dj
   rw [if_pos hon]
 ·have hon : ¬ onG g (x + d.1) (y + d.2) := fun hh => by rw [hz.2 hh] at c2; cases c2
  refine zc (by omega) ?_
  refine ⟨i + 1, ?_, ⟨by omega, rfl⟩, ⟨Tq, Tq, Tq, Tq, Tq, Tq, Tv⟩, ⟨rfl, ?_, Tv⟩⟩
  ·show 8 - (i + 1) < 8 - i
   omega
  ·show some (zy (il 8 (wu g t i)) (0 + i * 1) [int (-1)]) = some (il 8 (wu g t (i + 1)))
   rw [show 0 + i * 1 = i by omega, Ck hlt, hst]
   rw [hbe]
   unfold Dj
   rw [if_neg hon]
theorem dr {g : Gnd} (hg : zl g) {t : Nat} (ht : t < g.T.length) : g.T[t].toNat <= 5 := hg.2.2.2 _ (List.getElem_mem ht)
theorem dt (g : Gnd) (c : Int) {t : Nat} (ht : t < g.T.length) : wq g c t = je c g.T[t].toNat := by
 unfold wq
 rw [List.getD_eq_getElem?_getD, List.getElem?_eq_getElem ht]
 rfl
theorem Pz {g : Gnd} (hg : zl g) (t : Nat) {w : Nat} (hw : w < 8) : zx g t w < 0 \/ ∃ u : Nat, zx g t w = (u : Int) /\ u < g.T.length := by
 rcases Lp hg (t := t) hw with h | h
 ·exact .inl (by omega)
 ·exact .inr h
theorem zhw {g : Gnd} {ok : Nat -> Bool} {c : Int} {t w : Nat} (h : xp ok (zx g t w) = false) : yl g ok c t w = 0 := by
 unfold yl
 rw [h]
 simp
theorem zhx {g : Gnd} {ok : Nat -> Bool} {c : Int} {t w : Nat} (h : xp ok (zx g t w) = true) (hw : w < 4) : yl g ok c t w = 5 * (wq g c t + wq g c (zx g t w).toNat) := by
 unfold yl
 rw [if_pos h, if_pos hw]
theorem zhz {g : Gnd} {ok : Nat -> Bool} {c : Int} {t w : Nat} (h : xp ok (zx g t w) = true) (hw : ¬ w < 4) (ha : xp ok (zx g t (De w)) = true) (hb : xp ok (zx g t (Dd w)) = true) : yl g ok c t w = 7 * (wq g c t + wq g c (zx g t w).toNat) := by
 unfold yl
 rw [if_pos h, if_neg hw, if_pos ⟨ha, hb⟩]
theorem zhy {g : Gnd} {ok : Nat -> Bool} {c : Int} {t w : Nat} (hw : ¬ w < 4) (ha : xp ok (zx g t (De w)) = false \/ xp ok (zx g t (Dd w)) = false) : yl g ok c t w = 0 := by
 unfold yl
 rw [if_neg hw]
 split
 ·rw [if_neg]
  rintro ⟨h1, h2⟩
  rcases ha with ha | ha
  ·rw [ha] at h1; cases h1
  ·rw [ha] at h2; cases h2
 ·rfl
theorem O3 {ok : Nat -> Bool} {u : Int} (h : u < 0) : xp ok u = false := by
 unfold xp
 rw [decide_eq_false (by omega)]; rfl
theorem Ga (ok : Nat -> Bool) (u : Nat) : xp ok (u : Int) = ok u := by
 unfold xp
 rw [decide_eq_true (by omega), Int.toNat_natCast]; rfl
set_option maxHeartbeats 2000000 in
set_option maxRecDepth 20000 in
theorem Sm {S : Store} {nb : Nat} {g : Gnd} (hg : zl g) {l : List Bld} {c s : Int} (hn : S.obj nb = some (.cells (Ad g l c s))) (t : Nat) (ht : t < g.T.length) (way : Nat) (hw : way < 8) (R : AV -> Store -> Prop)
  (h : R (int (yl g (zv g l c s) c t way)) S) : ACalls Tryz.prog 430 [ptr nb, int (t : Nat), Gj g t, int (way : Nat), .clos 429 []] S R := by
 have hgl : ∀ u, u < g.T.length -> u < (blL g.T.length (zv g l c s)).length := fun u hu => by rw [j7]; exact hu
 have p1 := Kb c (g.T[t]).toNat
 refine ACalls.of_body (c := cfg 124) zb Tryz.func430 (by rfl) (by rfl) (by rfl) (by rfl) ?_
 refine ⟨way, rfl, hw, ?_⟩
 refine za _ (kr hw) ?_
 have hor := Pz hg t hw
 have hlo := fun h => zhx (g := g) (ok := zv g l c s) (c := c) (t := t) (w := way) h
 have hhi := fun h => zhz (g := g) (ok := zv g l c s) (c := c) (t := t) (w := way) h
 have hno := zhw (g := g) (ok := zv g l c s) (c := c) (t := t) (w := way)
 have hhn := fun h => zhy (g := g) (ok := zv g l c s) (c := c) (t := t) (w := way) h
 generalize yl g (zv g l c s) c t way = E at *
 generalize hU : zx g t way = U at *
 refine bcd (fun c1 => ?_) (fun c1 => ?_)
 ·rw [hno (O3 c1)] at h
  exact ret h
 obtain ⟨u, rfl, hul⟩ : ∃ u : Nat, U = (u : Int) /\ u < g.T.length := by
  rcases hor with h1 | h1
  ·exact absurd h1 c1
  ·exact h1
 refine za (o := S.obj nb) _ hn ?_
 refine ⟨u, rfl, za _ (zj (hgl u hul)) ?_⟩
 rw [D2 hul]
 refine z8 ?_
 refine zg (fun c2 => ?_) (fun c2 => ?_)
 rotate_left
 ·rw [hno (by rw [Ga, c2])] at h
  exact ret h
 refine Pb _ _ _ ?_
 have hfu : xp (zv g l c s) (u : Int) = true := by rw [Ga, c2]
 rw [Int.toNat_natCast] at hlo hhi
 rw [dt g c ht, dt g c hul] at hlo hhi
 have p2 := Kb c (g.T[u]).toNat
 refine ADraw.of_sched zb (by rfl) (by rfl) zjj (by rfl) ?_
 refine za (o := S.obj nb) _ hn ?_
 refine za (o := S.obj nb) _ hn ?_
 refine ⟨t, rfl, za _ (zj ht) ?_⟩
 refine za (o := S.obj nb) _ hn ?_
 refine za (o := S.obj nb) _ hn ?_
 refine ⟨u, rfl, za _ (zj hul) ?_⟩
 refine ⟨Ka c g.T[t] (dr hg ht) _ _ ⟨?_, ?_⟩, Tv⟩
 ·repeat (first | exact Tv | refine ⟨rfl, ?_⟩ | refine ⟨za (o := S.obj nb) _ hn rfl, ?_⟩)
 refine ⟨Ka c g.T[u] (dr hg hul) _ _ ⟨(by repeat (first | exact Tv | refine ⟨rfl, ?_⟩ | refine ⟨optR (optR (optR (za _ (zd _ _ _) rfl))), ?_⟩)), ?_⟩, Tv⟩
 refine zc (by omega) ?_
 refine ⟨⟨Tv, ?_⟩, Tv⟩
 generalize je c g.T[t].toNat = P1 at *
 generalize je c g.T[u].toNat = P2 at *
 refine bcd (fun c3 => ?_) (fun c3 => ?_)
 ·refine zc (by omega) ?_
  rw [hlo hfu (by omega)] at h
  exact ret h
 have h4 : ¬ way < 4 := by omega
 have hsa : De way < 8 := by unfold De; omega
 have hsb : Dd way < 8 := by unfold Dd; omega
 refine zqx way (by omega) hw _ _ ?_
 have hora := Pz hg t hsa
 have horb := Pz hg t hsb
 have hhi := hhi hfu h4
 have hhn := hhn h4
 have ha1 := kr (n := 8) (f := zx g t) hsa
 have hb1 := kr (n := 8) (f := zx g t) hsb
 generalize hA : De way = wa at *
 generalize hB : Dd way = wb at *
 generalize hUA : zx g t wa = ua at *
 generalize hUB : zx g t wb = ub at *
 refine ADraw.of_sched zb (by rfl) (by rfl) zji (by rfl) ?_
 refine ⟨wa, rfl, hsa, ?_⟩
 refine za _ ha1 ?_
 have no : xp (zv g l c s) ua = false \/ xp (zv g l c s) ub = false -> R (int 0) S := fun hh => by
  rw [hhn hh] at h
  exact h
 refine bcd (fun ca => ?_) (fun ca => ?_)
 ·refine ⟨⟨Tv, ?_⟩, Tv⟩
  refine ⟨⟨Tv, ?_⟩, Tv⟩
  exact ret (no (.inl (O3 ca)))
 obtain ⟨va, rfl, hva⟩ : ∃ u : Nat, ua = (u : Int) /\ u < g.T.length := by
  rcases hora with h1 | h1
  ·exact absurd h1 ca
  ·exact h1
 refine ⟨wb, rfl, hsb, ?_⟩
 refine za _ hb1 ?_
 refine bcd (fun cb => ?_) (fun cb => ?_)
 ·refine ⟨⟨Tv, ?_⟩, Tv⟩
  refine ⟨⟨Tv, ?_⟩, Tv⟩
  exact ret (no (.inr (O3 cb)))
 obtain ⟨vb, rfl, hvb⟩ : ∃ u : Nat, ub = (u : Int) /\ u < g.T.length := by
  rcases horb with h1 | h1
  ·exact absurd h1 cb
  ·exact h1
 refine za (o := S.obj nb) _ hn ?_
 refine ⟨wa, rfl, hsa, ?_⟩
 refine za _ ha1 ?_
 refine ⟨va, rfl, za _ (zj (hgl va hva)) ?_⟩
 rw [D2 hva]
 refine z8 ?_
 refine zg (fun da => ?_) (fun da => ?_)
 rotate_left
 ·refine ⟨⟨Tv, ?_⟩, Tv⟩
  refine ⟨⟨Tv, ?_⟩, Tv⟩
  exact ret (no (.inl (by rw [Ga, da])))
 refine za (o := S.obj nb) _ hn ?_
 refine ⟨wb, rfl, hsb, ?_⟩
 refine za _ hb1 ?_
 refine ⟨vb, rfl, za _ (zj (hgl vb hvb)) ?_⟩
 rw [D2 hvb]
 refine z8 ?_
 refine zg (fun db => ?_) (fun db => ?_)
 rotate_left
 ·refine ⟨⟨Tv, ?_⟩, Tv⟩
  refine ⟨⟨Tv, ?_⟩, Tv⟩
  exact ret (no (.inr (by rw [Ga, db])))
 refine ⟨wa, rfl, hsa, ?_⟩
 refine za _ ha1 ?_
 refine ⟨Pb _ _ _ ⟨Tv, ?_⟩, Tv⟩
 refine ⟨wb, rfl, hsb, ?_⟩
 refine za _ hb1 ?_
 refine ⟨Pb _ _ _ ⟨Tv, ?_⟩, Tv⟩
 refine zc (by omega) ?_
 rw [hhi (by rw [Ga, da]) (by rw [Ga, db])] at h
 exact ret h
theorem zms {G : Store} (R : AV -> Store -> Prop) (h : ∀ F p, QOf F p [] -> zi F G -> R (ptr p) (F.un G)) : ACalls Tryz.prog 433 [] G R := by
 have := ACalls.frame (a := Store.empty) (g := G) (fun i h1 => by rcases h1 with h1 | h1 <;> exact absurd rfl h1) (zmr Store.empty (fun r a' => ∃ p, r = ptr p /\ QOf a' p []) (fun p hp => ⟨p, rfl, .inl ⟨zd _ _ _, rfl⟩⟩)) (R' := R) (fun r a' ⟨p, e, hc⟩ hd => e ▸ h a' p hc hd)
 rwa [kj] at this
theorem Np {F G : Store} {p : Nat} {l : List (Int × Int)} (hq : QOf F p l) (hl : l.length <= 1000000) (hh : xr l) (hd : zi F G) (x : Int × Int) (R : AV -> Store -> Prop)
  (h : ∀ F' l', QOf F' p l' -> xr l' -> l'.Perm (x :: l) -> zi F' G -> R (.tup []) (F'.un G)) : ACalls Tryz.prog 434 [ptr p, int x.1, int x.2] (F.un G) R :=
 ACalls.frame hd (zmj hq hl hh x (fun r a' => r = .tup [] /\ ∃ l', QOf a' p l' /\ xr l' /\ l'.Perm (x :: l)) (fun F' l' g1 g2 g3 => ⟨rfl, l', g1, g2, g3⟩)) (R' := R) (fun r a' ⟨e, l', g1, g2, g3⟩ hd => e ▸ h a' l' g1 g2 g3 hd)
theorem Ns {F G : Store} {p : Nat} {l : List (Int × Int)} (hq : QOf F p l) (hl : l.length <= 1000000) (hh : xr l) (hd : zi F G) (R : AV -> Store -> Prop)
  (h : ∀ F' o l', QOf F' p l' -> xr l' -> zi F' G -> l.Perm (o.toList ++ l') -> (∀ x, o = some x -> ∀ e ∈ x :: l', ¬ qlt e x) -> (o = none -> l' = []) -> R (.tup [int (Oj o), int (Ik o), V.bool o.isSome]) (F'.un G)) : ACalls Tryz.prog 435 [ptr p] (F.un G) R :=
 ACalls.frame hd (zmm hq hl hh (fun r a' => ∃ o l', r = .tup [int (Oj o), int (Ik o), V.bool o.isSome] /\ QOf a' p l' /\ xr l' /\ l.Perm (o.toList ++ l') /\ (∀ x, o = some x -> ∀ e ∈ x :: l', ¬ qlt e x) /\ (o = none -> l' = []))
  (fun e => ⟨none, [], rfl, e ▸ hq, e ▸ hh, by rw [e]; exact List.Perm.refl _, fun x h => (by cases h), fun _ => rfl⟩)
  (fun h0 F' l' g1 g2 g3 => ⟨some (qat l 0), l', rfl, g1, g2, g3, fun x e => by
   cases e
   exact fun e he => zmo hh e (g3.mem_iff.2 he), fun h => (by cases h)⟩)) (R' := R) (fun r a' ⟨o, l', e, g1, g2, g3, g4, g5⟩ hd => e ▸ h a' o l' g1 g2 hd g3 g4 g5)
set_option maxHeartbeats 4000000 in
set_option maxRecDepth 20000 in
theorem zqy {S : Store} {nb : Nat} {g : Gnd} (hg : zl g) {l : List Bld} {c s : Int} (hn : S.obj nb = some (.cells (Ad g l c s))) (goal : Nat) (hgo : goal < g.T.length) (R : AV -> Store -> Prop)
  (h : ∀ b, Fresh S b -> (∀ u, -1 <= xd g (zv g l c s) c goal u /\ xd g (zv g l c s) c goal u <= 2000000) -> R (.s (.slice (some ⟨b, 0, none⟩) g.T.length g.T.length)) (S.setObj b (.cells (il g.T.length (xd g (zv g l c s) c goal))))) :
  ACalls Tryz.prog 428 [ptr nb, int (goal : Nat), .clos 429 []] S R := by
 have ha := y9 hg
 have hT : g.T.length <= 16384 := by omega
 have hgl : ∀ u, u < g.T.length -> u < (blL g.T.length (zv g l c s)).length := fun u hu => by rw [j7]; exact hu
 refine ACalls.of_body (c := cfg 121) zb Tryz.func428 (by rfl) (by rfl) (by rfl) (by rfl) ?_
 refine ⟨by decide, ?_⟩
 refine za (o := S.obj nb) _ hn ?_
 show ACalls _ _ [_, int ((rws u8C g.T).length : Nat)] _ _
 rw [zu]
 refine Vy (-1) g.T.length (by omega) (by omega) _ _ (fun b hf => ?_)
 have hnb : nb ≠ b := fun e => by rw [e, hf.1] at hn; cases hn
 have hn1 : (S.setObj b (.cells (il g.T.length fun _ => -1))).obj nb = some (.cells (Ad g l c s)) := (zq hnb).trans hn
 refine za (o := (S.setObj b _).obj nb) _ hn1 ?_
 refine ⟨goal, rfl, za _ (zj (hgl goal hgo)) ?_⟩
 rw [D2 hgo]
 refine z8 ?_
 refine zg (fun c1 => ?_) (fun c1 => ?_)
 rotate_left
 ·rw [zrr c1] at h
  exact ret (h b hf fun u => ⟨Int.le_refl (-1), show (-1 : Int) <= 2000000 by decide⟩)
 refine Cv rfl (it := ti88) (ie := ti4) rfl rfl rfl rfl rfl (n := g.T.length) ?_ ?_ (fun b2 hf2 => ?_)
 ·show 1 * _ <= _; omega
 ·omega
 rw [H5]
 have hbb : b ≠ b2 := fun e => by
  have := hf2.1
  rw [<- e, zd] at this; cases this
 have hst0 : (S.setObj b (.cells (il g.T.length fun _ => -1))).setObj b2 (.cells (bl g.T.length fun _ => false)) = y4 S b b2 g.T.length (fun _ => -1) (fun _ => false) := rfl
 rw [hst0]
 refine ⟨goal, rfl, hgo, ?_⟩
 refine qd (i := ti3) (v := int 0) (b := b) (o := 0 + goal * 1) (l := il g.T.length fun _ => -1) (st2 := y4 S b b2 g.T.length (yd (fun _ => -1) goal 0) (fun _ => false)) rfl rfl rfl (cf hbb _ _) (by rw [qc]; omega) ?_ ?_
 ·rw [Ko _ _ _ _ hgo, ce hbb]
 refine zms _ (fun F p hQ hdis => ?_)
 refine Np hQ (by simp) (fun j h0 hj => by simp at hj) hdis (0, (goal : Int)) _ (fun F l1 hQ hH hP hdis => ?_)
 have hd0 : ∀ u, yd (fun _ => (-1 : Int)) goal 0 u = if u = goal then 0 else -1 := fun u => rfl
 have hDJ := zsa (ju g (zv g l c s) c) hgo hd0
 have hcb := zsy hgo hd0
 have hback : ∀ F d dn, (Store.un F (y4 S b b2 g.T.length d dn)).Has (S.setObj b (.cells (il g.T.length d))) := fun F d dn => zq8 hf hf2 hbb
 have hlen : l1.length <= 1000000 := by rw [hP.length_eq]; simp
 have hlen1 : l1.length = 1 := by rw [hP.length_eq]; simp
 have hfo := fun d dn => zq5 (n := g.T.length) hf hf2 hn d dn
 have hfd := fun d dn => cf (S := S) (n := g.T.length) hbb d dn
 have hfn := fun d dn => zq6 (S := S) (b := b) (b2 := b2) (n := g.T.length) d dn
 have hsd := fun d d' dn => ce (S := S) (n := g.T.length) hbb d d' dn
 have hsn := fun d dn dn' => zq4 (S := S) (b := b) (b2 := b2) (n := g.T.length) d dn dn'
 have hdd := fun (F : Store) d d' dn dn' (h : zi F (y4 S b b2 g.T.length d dn)) => zq7 (d' := d') (dn' := dn') h
 generalize hd1 : yd (fun _ => (-1 : Int)) goal 0 = d at *
 refine Ns hQ hlen hH hdis _ (fun F' o l' g1 g2 g3 g4 g5 g6 => ?_)
 refine AWp.loop (σ := (Nat -> Int) × (Nat -> Bool) × Store × Option (Int × Int) × List (Int × Int) × Int) ⟨fun q => [(0, .av (ptr nb)), (2, .av (.clos 429 [])), (7, .av (.s (.slice (some ⟨b, 0, none⟩) g.T.length g.T.length))), (8, .av (.s (.slice (some ⟨b2, 0, none⟩) g.T.length g.T.length))), (9, .av (ptr p)), (10, .av (int (Oj q.2.2.2.1))), (11, .av (int (Ik q.2.2.2.1))), (12, .av (V.bool q.2.2.2.1.isSome))], fun _ => [],
  fun q st' => st' = q.2.2.1.un (y4 S b b2 g.T.length q.1 q.2.1) /\ QOf q.2.2.1 p q.2.2.2.2.1 /\ xr q.2.2.2.2.1 /\ zi q.2.2.1 (y4 S b b2 g.T.length q.1 q.2.1) /\ DJ (ju g (zv g l c s) c) g.T.length goal q.1 q.2.1 (q.2.2.2.1.toList ++ q.2.2.2.2.1) q.2.2.2.2.2 Dh ∧
   (∀ x, q.2.2.2.1 = some x -> ∀ e ∈ x :: q.2.2.2.2.1, ¬ qlt e x) /\ (q.2.2.2.1 = none -> q.2.2.2.2.1 = []) /\ Dx g.T.length q.1 /\ 9 * wh g.T.length q.2.1 + (q.2.2.2.1.toList ++ q.2.2.2.2.1).length <= 9 * g.T.length + 1, fun q => 9 * wh g.T.length q.2.1 + (q.2.2.2.1.toList ++ q.2.2.2.2.1).length⟩ zb ?_ ?_
 ·refine ⟨(d, fun _ => false, F', o, l', 0), Tv, ⟨rfl, g1, g2, g3, Pg hDJ (hP.symm.trans g4), g5, g6, hcb, ?_⟩, ⟨Tq, Tq, Tq, Tq, Tq, Tq, Tq, Tq, Tv⟩, Tv⟩
  have := znt g.T.length fun _ => false
  dsimp only
  rw [<- g4.length_eq]
  omega
 clear hdis
 clear g1 g2 g3 g4 g5 g6 hDJ hcb hQ hH hP hlen hlen1 hd0 hd1
 rintro ⟨d, dn, F, o, q, cur⟩ st' ⟨rfl, hQ, hH, hdis, hDJ, hmin, hnil, hcb, hmu⟩
 dsimp only at hQ hH hdis hDJ hmin hnil hcb hmu ⊢
 cases o with
 | none =>
  have : q = [] := hnil rfl
  subst this
  have e := cw c1 (zsb hDJ)
  refine qq (Tt) (hback F d dn) ?_
  have := h b hf
  rw [e] at this
  exact this fun u => by
   have h1 := hDJ.lab u
   have h2 := Pq hcb u
   omega
 | some x =>
 obtain ⟨t, ht, htn, hd0, hdx, hcx⟩ := hDJ.ent x (by simp)
 have hmin := hmin x rfl
 have hlen : q.length <= 1000000 := by
  simp only [Option.toList, List.length_append, List.length_singleton] at hmu
  omega
 have hxt : Ik (some x) = (t : Int) := ht
 have hq9 : (Option.toList (some x) ++ q).length = q.length + 1 := by simp
 rw [hq9] at hmu
 rw [hxt]
 refine ⟨t, rfl, htn, ?_⟩
 refine za (o := (F.un (y4 S b b2 g.T.length d dn)).obj b2) _ (zf (hfn d dn)) ?_
 refine za _ (fb htn) ?_
 cases hdt : dn t with
 | true =>
  have hDJ2 := zr8 (q' := q) hDJ ht (List.Perm.refl _) hdt
  refine Ns hQ hlen hH hdis _ (fun F' o l' g1 g2 g3 g4 g5 g6 => ?_)
  refine ⟨(d, dn, F', o, l', cur), ?_, ⟨rfl, g1, g2, g3, Pg (hDJ2) g4, g5, g6, hcb, ?_⟩, ⟨Tq, Tq, Tq, Tq, Tq, Tq, Tq, Tq, Tv⟩, Tv⟩
  ·show 9 * wh g.T.length (dn) + (o.toList ++ l').length < 9 * wh g.T.length dn + (Option.toList (some x) ++ q).length
   rw [<- g4.length_eq, hq9]
   omega
  ·dsimp only
   rw [<- g4.length_eq]
   omega
 | false =>
 obtain ⟨hk, hDJ1⟩ := zr7 (q' := q) hDJ ht (List.Perm.refl _) hmin hdt
 have hopen := znq htn hdt
 have hokt := zr9 hDJ c1 hd0
 refine ⟨t, rfl, htn, ?_⟩
 refine qd (i := ti4) (v := V.bool true) (b := b2) (o := 0 + t * 1) (l := bl g.T.length dn) (st2 := F.un (y4 S b b2 g.T.length d (yd dn t true))) rfl rfl rfl (zf (hfn d dn)) (by rw [jk]; omega) ?_ ?_
 ·rw [zt0 _ _ _ _ htn, yx, hsn]
 refine za (o := (F.un (y4 S b b2 g.T.length d (yd dn t true))).obj nb) _ (zf (hfo _ _)) ?_
 refine Lo g hg t htn _ _ ?_
 have hdis := hdd F d d dn (yd dn t true) hdis
 have hDJ := ia hDJ1
 have hdn1 : yd dn t true t = true := j9 _ _ _
 have hbig := Pq hcb t
 have hbn := fun (w : Nat) (hw : w < 8) => Lp hg (t := t) hw
 refine AWp.loop (σ := Nat × (Nat -> Int) × Store × List (Int × Int)) ⟨fun y => [(0, .av (ptr nb)), (2, .av (.clos 429 [])), (7, .av (.s (.slice (some ⟨b, 0, none⟩) g.T.length g.T.length))), (8, .av (.s (.slice (some ⟨b2, 0, none⟩) g.T.length g.T.length))), (9, .av (ptr p)), (10, .av (int x.1)), (11, .av (int (t : Nat))), (13, .bx 13 0), (70, .av (Gj g t)), (71, .av (int (y.1 : Nat)))], fun _ => [(13, il 8 (zx g t))],
  fun y st' => y.1 <= 8 /\ st' = y.2.2.1.un (y4 S b b2 g.T.length y.2.1 (yd dn t true)) /\ QOf y.2.2.1 p y.2.2.2 /\ xr y.2.2.2 /\ zi y.2.2.1 (y4 S b b2 g.T.length y.2.1 (yd dn t true)) /\ DJ (ju g (zv g l c s) c) g.T.length goal y.2.1 (yd dn t true) y.2.2.2 x.1 (D7 g (zv g l c s) c t y.1) /\ y.2.1 t = x.1 /\ Dx g.T.length y.2.1 /\ y.2.2.2.length <= q.length + y.1, fun y => 8 - y.1⟩ zb ?_ ?_
 ·exact ⟨(0, d, F, q), Tv, ⟨Nat.zero_le _, rfl, hQ, hH, hdis, hDJ, hk.symm, hcb, Nat.le_refl _⟩, ⟨Tq, Tq, Tq, Tq, Tq, Tq, Tq, Tq, Tq, Tq, Tv⟩, ⟨rfl, Tv⟩⟩
 have hx0 : 0 <= x.1 := by omega
 have hx1 : x.1 <= 84 * (g.T.length : Int) := by omega
 clear hQ hH hdis hDJ hDJ1 hcb hbig hmin hnil hd0 hdx
 rintro ⟨i, d, F, m⟩ st' ⟨hi, rfl, hQ, hH, hdis, hDJ, hdt1, hcb, hml⟩
 dsimp only at hi hQ hH hdis hDJ hdt1 hcb hml ⊢
 refine bcd (fun c2 => ?_) (fun c2 => ?_)
 rotate_left
 ·have : i = 8 := by omega
  subst this
  have hlen : m.length <= 1000000 := by omega
  have hDJ2 := ib hDJ
  refine Ns hQ hlen hH hdis _ (fun F' o l' g1 g2 g3 g4 g5 g6 => ?_)
  refine ⟨(d, yd dn t true, F', o, l', x.1), ?_, ⟨rfl, g1, g2, g3, Pg (hDJ2) g4, g5, g6, hcb, ?_⟩, ⟨Tq, Tq, Tq, Tq, Tq, Tq, Tq, Tq, Tv⟩, Tv⟩
  ·show 9 * wh g.T.length (yd dn t true) + (o.toList ++ l').length < 9 * wh g.T.length dn + (Option.toList (some x) ++ q).length
   rw [<- g4.length_eq, hq9]
   omega
  ·dsimp only
   rw [<- g4.length_eq]
   omega
 have hlt : i < 8 := by omega
 refine ⟨i, rfl, hlt, ?_⟩
 refine za _ (Ot hlt) ?_
 refine Sm hg (zf (hfo _ _)) t htn i hlt _ ?_
 have hsb := Sn g (zv g l c s) c t i
 have hskip := L9 hDJ
 have hedge := zr1 (g := g) (ok := zv g l c s) (c := c) (t := t) (way := i) hokt htn hlt
 have hor := hbn i hlt
 have hfr : 0 < yl g (zv g l c s) c t i -> 0 <= zx g t i := fun hp => (O2 (M5 (g := g) (ok := zv g l c s) (c := c) (t := t) (way := i) (by omega))).1
 generalize hC : yl g (zv g l c s) c t i = C at *
 generalize hU : zx g t i = U at *
 -- nothing to note: on with the next way
 have next : (0 < C -> ∀ u : Nat, U = u -> 0 <= d u /\ d u <= d t + C) -> ∃ y : Nat × (Nat -> Int) × Store × List (Int × Int), 8 - y.1 < 8 - i /\ (y.1 <= 8 /\ F.un (y4 S b b2 g.T.length d (yd dn t true)) = y.2.2.1.un (y4 S b b2 g.T.length y.2.1 (yd dn t true)) /\ QOf y.2.2.1 p y.2.2.2 /\ xr y.2.2.2 /\ zi y.2.2.1 (y4 S b b2 g.T.length y.2.1 (yd dn t true)) /\ DJ (ju g (zv g l c s) c) g.T.length goal y.2.1 (yd dn t true) y.2.2.2 x.1 (D7 g (zv g l c s) c t y.1) /\ y.2.1 t = x.1 /\ Dx g.T.length y.2.1 /\ y.2.2.2.length <= q.length + y.1) /\ y = (i + 1, d, F, m) := fun hp =>
  ⟨(i + 1, d, F, m), by dsimp only; omega, ⟨by dsimp only; omega, rfl, hQ, hH, hdis, hskip (fun u hu hc => hp hc u hu), hdt1, hcb, by dsimp only; omega⟩, rfl⟩
 refine bcd (fun c3 => ?_) (fun c3 => ?_)
 rotate_left
 ·obtain ⟨y, f1, f2, rfl⟩ := next (fun hc => absurd hc c3)
  refine zc (by omega) ?_
  exact ⟨(i + 1, d, F, m), f1, f2, ⟨Tq, Tq, Tq, Tq, Tq, Tq, Tq, Tq, Tq, Tq, Tv⟩, ⟨rfl, Tv⟩⟩
 have hU0 := hfr c3
 obtain ⟨u, rfl, hul⟩ : ∃ u : Nat, U = (u : Int) /\ u < g.T.length := by
  rcases hor with h1 | h1
  ·omega
  ·exact h1
 rw [Int.toNat_natCast] at hedge
 have hedge := hedge c3
 refine ⟨u, rfl, hul, ?_⟩
 refine za (o := (F.un (y4 S b b2 g.T.length d (yd dn t true))).obj b2) _ (zf (hfn d _)) ?_
 refine za _ (fb hul) ?_
 refine z8 ?_
 refine zg (fun c4 => ?_) (fun c4 => ?_)
 ·obtain ⟨y, f1, f2, rfl⟩ := next (fun hc v hv => by
   have : v = u := by omega
   subst this
   have := hDJ.mono v c4
   omega)
  refine zc (by omega) ?_
  exact ⟨(i + 1, d, F, m), f1, f2, ⟨Tq, Tq, Tq, Tq, Tq, Tq, Tq, Tq, Tq, Tq, Tv⟩, ⟨rfl, Tv⟩⟩
 refine ⟨u, rfl, hul, ?_⟩
 refine za (o := (F.un (y4 S b b2 g.T.length d (yd dn t true))).obj b) _ (zf (hfd d _)) ?_
 refine za _ (kr hul) ?_
 refine bcd (fun c5 => ?_) (fun c5 => ?_)
 ·skip
  have hlow : d u < 0 \/ d t + C < d u := Or.inl c5
  have hcb2 := du hcb hul (t := t) (u := u) (c := C) (by omega) (by omega) hlow
  rw [hdt1] at hcb2 hlow
  refine zc (by omega) ?_
  refine ⟨u, rfl, hul, ?_⟩
  refine qd (i := ti3) (v := int (x.1 + C)) (b := b) (o := 0 + u * 1) (l := il g.T.length d) (st2 := F.un (y4 S b b2 g.T.length (yd d u (x.1 + C)) (yd dn t true))) rfl rfl rfl (zf (hfd d _)) (by rw [qc]; omega) ?_ ?_
  ·rw [Ko _ _ _ _ hul, yx, hsd]
  refine zc (by omega) ?_
  refine Np hQ (by omega) hH (hdd F d (yd d u (x.1 + C)) _ _ hdis) (x.1 + C, (u : Int)) _ (fun F' m' e1 e2 e3 e4 => ?_)
  have hnote := di Lb hDJ hdn1 hdt1 hul hedge c4 hlow e3
  have htu : t ≠ u := fun e => by subst e; rw [hdn1] at c4; cases c4
  have hC := hC.symm
  refine zc (by omega) ?_
  refine ⟨(i + 1, yd d u (x.1 + C), F', m'), ?_, ⟨by dsimp only; omega, rfl, e1, e2, e4, ?_, ?_, hcb2, ?_⟩, ⟨Tq, Tq, Tq, Tq, Tq, Tq, Tq, Tq, Tq, Tq, Tv⟩, ⟨rfl, Tv⟩⟩
  ·show 8 - (i + 1) < 8 - i
   omega
  ·refine L9 hnote (fun v hv hc => ?_)
   have hvu : v = u := by
    rw [hU] at hv
    omega
   subst hvu
   dsimp only
   rw [j9, xi htu, hdt1, <- hC]
   omega
  ·dsimp only
   rw [xi htu]
   exact hdt1
  ·dsimp only
   rw [e3.length_eq, List.length_cons]
   omega
 have hbig := Pq hcb u
 refine zc (by omega) ?_
 refine ⟨u, rfl, hul, ?_⟩
 refine za (o := (F.un (y4 S b b2 g.T.length d (yd dn t true))).obj b) _ (zf (hfd d _)) ?_
 refine za _ (kr hul) ?_
 refine bcd (fun c6 => ?_) (fun c6 => ?_)
 ·skip
  have hlow : d u < 0 \/ d t + C < d u := Or.inr (show d t + C < d u by omega)
  have hcb2 := du hcb hul (t := t) (u := u) (c := C) (by omega) (by omega) hlow
  rw [hdt1] at hcb2 hlow
  refine zc (by omega) ?_
  refine ⟨u, rfl, hul, ?_⟩
  refine qd (i := ti3) (v := int (x.1 + C)) (b := b) (o := 0 + u * 1) (l := il g.T.length d) (st2 := F.un (y4 S b b2 g.T.length (yd d u (x.1 + C)) (yd dn t true))) rfl rfl rfl (zf (hfd d _)) (by rw [qc]; omega) ?_ ?_
  ·rw [Ko _ _ _ _ hul, yx, hsd]
  refine zc (by omega) ?_
  refine Np hQ (by omega) hH (hdd F d (yd d u (x.1 + C)) _ _ hdis) (x.1 + C, (u : Int)) _ (fun F' m' e1 e2 e3 e4 => ?_)
  have hnote := di Lb hDJ hdn1 hdt1 hul hedge c4 hlow e3
  have htu : t ≠ u := fun e => by subst e; rw [hdn1] at c4; cases c4
  have hC := hC.symm
  refine zc (by omega) ?_
  refine ⟨(i + 1, yd d u (x.1 + C), F', m'), ?_, ⟨by dsimp only; omega, rfl, e1, e2, e4, ?_, ?_, hcb2, ?_⟩, ⟨Tq, Tq, Tq, Tq, Tq, Tq, Tq, Tq, Tq, Tq, Tv⟩, ⟨rfl, Tv⟩⟩
  ·show 8 - (i + 1) < 8 - i
   omega
  ·refine L9 hnote (fun v hv hc => ?_)
   have hvu : v = u := by
    rw [hU] at hv
    omega
   subst hvu
   dsimp only
   rw [j9, xi htu, hdt1, <- hC]
   omega
  ·dsimp only
   rw [xi htu]
   exact hdt1
  ·dsimp only
   rw [e3.length_eq, List.length_cons]
   omega
 obtain ⟨y, f1, f2, rfl⟩ := next (fun hc v hv => by
  have : v = u := by omega
  subst this
  omega)
 refine zc (by omega) ?_
 exact ⟨(i + 1, d, F, m), f1, f2, ⟨Tq, Tq, Tq, Tq, Tq, Tq, Tq, Tq, Tq, Tq, Tv⟩, ⟨rfl, Tv⟩⟩
set_option maxHeartbeats 4000000 in
set_option maxRecDepth 20000 in
theorem lz {S : Store} {nb : Nat} {g : Gnd} (hg : zl g) {l : List Bld} {c s : Int} (hn : S.obj nb = some (.cells (Ad g l c s))) (goal : Nat) (hgo : goal < g.T.length) (R : AV -> Store -> Prop)
  (h : ∀ b, Fresh S b -> R (.s (.slice (some ⟨b, 0, none⟩) g.T.length g.T.length)) (S.setObj b (.cells (il g.T.length (qh g (zv g l c s) c (xd g (zv g l c s) c goal)))))) :
  ACalls Tryz.prog 423 [ptr nb, int (goal : Nat)] S R := by
 have ha := y9 hg
 have hT : g.T.length <= 16384 := by omega
 refine ACalls.of_body (c := cfg 71) zb Tryz.func423 (by rfl) (by rfl) (by rfl) (by rfl) ?_
 refine zqy hg hn goal hgo _ (fun b hf hdb => ?_)
 generalize xd g (zv g l c s) c goal = d at *
 refine ⟨by decide, ?_⟩
 refine Vy (-1) g.T.length (by omega) (by omega) _ _ (fun b2 hf2 => ?_)
 have hbb : b ≠ b2 := fun e => by
  have := hf2.1
  rw [<- e, zd] at this; cases this
 rw [<- g8 g (zv g l c s) c d]
 have hfo := fun f => ln (n := g.T.length) hf hf2 hn d f
 have hfd := fun f => lr (S := S) (n := g.T.length) hbb d f
 have hsf := fun f f' => lm (S := S) (b := b) (b2 := b2) (n := g.T.length) d f f'
 have hff := fun f => lq (S := S) (b := b) (b2 := b2) (n := g.T.length) d f
 refine AWp.loop (σ := Nat) ⟨fun i => [(0, .av (ptr nb)), (5, .av (.s (.slice (some ⟨b, 0, none⟩) g.T.length g.T.length))), (6, .av (.s (.slice (some ⟨b2, 0, none⟩) g.T.length g.T.length))), (20, .av (.s (.slice (some ⟨b, 0, none⟩) g.T.length g.T.length))), (21, .av (int (g.T.length : Nat))), (22, .av (int (i : Nat)))], fun _ => [],
  fun i st' => i <= g.T.length /\ st' = xj S b b2 g.T.length d (jv g (zv g l c s) c d i), fun i => g.T.length - i⟩ zb ?_ ?_
 ·exact ⟨0, Tv, ⟨Nat.zero_le _, rfl⟩, ⟨Tq, Tq, Tq, Tq, Tq, Tq, Tv⟩, Tv⟩
 rintro i st' ⟨hi, rfl⟩
 refine bcd (fun c1 => ?_) (fun c1 => ?_)
 rotate_left
 ·have : i = g.T.length := by omega
  subst this
  refine qq (Tt) (ls hf hbb _ _) ?_
  rw [g9]
  exact h b2 (lp hbb hf2)
 have hlt : i < g.T.length := by omega
 -- on with the next tile
 have next : ∀ f, f = jv g (zv g l c s) c d (i + 1) -> ∃ k : Nat, g.T.length - k < g.T.length - i /\ (k <= g.T.length /\ xj S b b2 g.T.length d f = xj S b b2 g.T.length d (jv g (zv g l c s) c d k)) /\ k = i + 1 := fun f e => ⟨i + 1, by omega, ⟨by omega, by rw [e]⟩, rfl⟩
 refine ⟨i, rfl, hlt, ?_⟩
 refine za (o := (xj S b b2 g.T.length d _).obj b) _ (hfd _) ?_
 refine za _ (kr hlt) ?_
 refine bcd (fun c2 => ?_) (fun c2 => ?_)
 ·obtain ⟨k, f1, f2, rfl⟩ := next _ (Rn (ii c2)).symm
  refine zc (by omega) ?_
  exact ⟨i + 1, f1, f2, ⟨Tq, Tq, Tq, Tq, Tq, Tq, Tv⟩, Tv⟩
 refine za (o := (xj S b b2 g.T.length d _).obj nb) _ (hfo _) ?_
 refine Lo g hg i hlt _ _ ?_
 refine AWp.loop (σ := Nat) ⟨fun j => [(0, .av (ptr nb)), (5, .av (.s (.slice (some ⟨b, 0, none⟩) g.T.length g.T.length))), (6, .av (.s (.slice (some ⟨b2, 0, none⟩) g.T.length g.T.length))), (7, .av (int (i : Nat))), (8, .av (int (d i))), (9, .bx 9 0), (20, .av (.s (.slice (some ⟨b, 0, none⟩) g.T.length g.T.length))), (21, .av (int (g.T.length : Nat))), (22, .av (int (i : Nat))), (35, .av (Gj g i)), (36, .av (int (j : Nat)))], fun _ => [(9, il 8 (zx g i))],
  fun j st' => j <= 8 /\ st' = xj S b b2 g.T.length d (jv g (zv g l c s) c d i) /\ ∀ w, w < j -> ¬ Bi g (zv g l c s) c d i w, fun j => 8 - j⟩ zb ?_ ?_
 ·exact ⟨0, Tv, ⟨Nat.zero_le _, rfl, fun w hw => absurd hw (Nat.not_lt_zero w)⟩, ⟨Tq, Tq, Tq, Tq, Tq, Tq, Tq, Tq, Tq, Tq, Tq, Tv⟩, ⟨rfl, Tv⟩⟩
 rintro j st' ⟨hj, rfl, hno⟩
 refine bcd (fun c3 => ?_) (fun c3 => ?_)
 rotate_left
 ·have : j = 8 := by omega
  subst this
  obtain ⟨k, f1, f2, rfl⟩ := next _ (Rn (ig c2 hno)).symm
  refine zc (by omega) ?_
  exact ⟨i + 1, f1, f2, ⟨Tq, Tq, Tq, Tq, Tq, Tq, Tv⟩, Tv⟩
 have hj8 : j < 8 := by omega
 have hskip : ¬ Bi g (zv g l c s) c d i j -> ∃ k : Nat, 8 - k < 8 - j /\ (k <= 8 /\ xj S b b2 g.T.length d (jv g (zv g l c s) c d i) = xj S b b2 g.T.length d (jv g (zv g l c s) c d i) /\ ∀ w, w < k -> ¬ Bi g (zv g l c s) c d i w) /\ k = j + 1 := fun hh => ⟨j + 1, by omega, ⟨by omega, rfl, fun w hw => by
  by_cases e : w = j
  ·subst e; exact hh
  ·exact hno w (by omega)⟩, rfl⟩
 have hyes : Bi g (zv g l c s) c d i j -> qh g (zv g l c s) c d i = (j : Int) := fun hh => ic c2 hj8 hh hno
 refine ⟨j, rfl, hj8, ?_⟩
 refine za _ (Ot hj8) ?_
 refine Sm hg (hfo _) i hlt j hj8 _ ?_
 have hsb := Sn g (zv g l c s) c i j
 have hor := Lp hg (t := i) hj8
 have hfr : 0 < yl g (zv g l c s) c i j -> 0 <= zx g i j := fun hp => (O2 (M5 (g := g) (ok := zv g l c s) (c := c) (t := i) (way := j) (by omega))).1
 unfold Bi at hskip hyes
 generalize yl g (zv g l c s) c i j = C at *
 generalize zx g i j = U at *
 refine bcd (fun c4 => ?_) (fun c4 => ?_)
 rotate_left
 ·obtain ⟨k, f1, f2, rfl⟩ := hskip (fun hh => c4 hh.1)
  refine zc (by omega) ?_
  exact ⟨j + 1, f1, f2, ⟨Tq, Tq, Tq, Tq, Tq, Tq, Tq, Tq, Tq, Tq, Tq, Tv⟩, ⟨rfl, Tv⟩⟩
 have hU0 := hfr c4
 obtain ⟨u, rfl, hul⟩ : ∃ u : Nat, U = (u : Int) /\ u < g.T.length := by
  rcases hor with h1 | h1
  ·omega
  ·exact h1
 rw [Int.toNat_natCast] at hskip hyes
 have hdu := hdb u
 refine ⟨u, rfl, hul, ?_⟩
 refine za (o := (xj S b b2 g.T.length d _).obj b) _ (hfd _) ?_
 refine za _ (kr hul) ?_
 refine bcd (fun c5 => ?_) (fun c5 => ?_)
 rotate_left
 ·obtain ⟨k, f1, f2, rfl⟩ := hskip (fun hh => c5 hh.2.1)
  refine zc (by omega) ?_
  exact ⟨j + 1, f1, f2, ⟨Tq, Tq, Tq, Tq, Tq, Tq, Tq, Tq, Tq, Tq, Tq, Tv⟩, ⟨rfl, Tv⟩⟩
 refine ⟨u, rfl, hul, ?_⟩
 refine za (o := (xj S b b2 g.T.length d _).obj b) _ (hfd _) ?_
 refine za _ (kr hul) ?_
 refine zc (by omega) ?_
 refine yp (fun c6 => ?_) (fun c6 => ?_)
 rotate_left
 ·obtain ⟨k, f1, f2, rfl⟩ := hskip (fun hh => c6 hh.2.2)
  refine zc (by omega) ?_
  exact ⟨j + 1, f1, f2, ⟨Tq, Tq, Tq, Tq, Tq, Tq, Tq, Tq, Tq, Tq, Tq, Tv⟩, ⟨rfl, Tv⟩⟩
 have hw := hyes ⟨c4, c5, c6⟩
 refine ⟨i, rfl, hlt, ?_⟩
 refine qd (i := ti3) (v := int (j : Nat)) (b := b2) (o := 0 + i * 1) (l := il g.T.length (jv g (zv g l c s) c d i)) (st2 := xj S b b2 g.T.length d (jv g (zv g l c s) c d (i + 1))) rfl rfl rfl (hff _) (by rw [qc]; omega) ?_ ?_
 ·rw [Ko _ _ _ _ hlt, hsf, Ro, hw]
 obtain ⟨k, f1, f2, rfl⟩ := next _ rfl
 refine zc (by omega) ?_
 exact ⟨i + 1, f1, f2, ⟨Tq, Tq, Tq, Tq, Tq, Tq, Tv⟩, Tv⟩
/-- A mover: a stand, and who tells ways. -/
def jr : AV := .s (.iface 177 (.agg #[]))
structure MoverG (gv : AV) (F G : Store) (mb s p : Nat) (w : Wld) (v : AV) (L : List Ent) (o0 o1 o2 : AV) : Prop where
 S : StandR F G s p w v L o0 o1 o2
 hx : G.obj mb = some (.cells [ptr s, gv])
 ox : qv v mb
 os : qv v s
 hL : L.length <= w.U.length
 hF : j3 w L
/-- The mover that reckons each time. -/
abbrev Mover (F G : Store) (mb s p : Nat) (w : Wld) (v : AV) (L : List Ent) (o0 o1 o2 : AV) : Prop := MoverG jr F G mb s p w v L o0 o1 o2
theorem MoverG.ne {gv : AV} {F G : Store} {mb s p : Nat} {w : Wld} {v : AV} {L : List Ent} {o0 o1 o2 : AV} (h : MoverG gv F G mb s p w v L o0 o1 o2) : mb ≠ s := fun e => by
 have := h.S.hs
 rw [<- e, h.hx] at this
 cases this
theorem MoverG.m {gv : AV} {F F' G : Store} {mb s p : Nat} {w w' : Wld} {v : AV} {L : List Ent} {o0 o1 o2 q0 q1 q2 : AV} (h : MoverG gv F G mb s p w v L o0 o1 o2) : (F'.un (svS G s w' v q0 q1 q2 p)).obj mb = some (.cells [ptr s, gv]) :=
 zf (by
  show (G.setObj s _).obj mb = _
  rw [zq h.ne]
  exact h.hx)
theorem MoverG.s {gv : AV} {F F' G : Store} {mb s p : Nat} {w : Wld} {v : AV} {L : List Ent} {o0 o1 o2 q0 q1 q2 : AV} (h : MoverG gv F G mb s p w v L o0 o1 o2) : (F'.un (svS G s w v q0 q1 q2 p)).obj s = some (.cells (svC w v q0 q1 q2 p)) := zf (k5 _ _ _ _ _ _ _ _)
/-- After a unit is put. -/
theorem MoverG.put {gv : AV} {F G F' G' : Store} {mb s p i : Nat} {w : Wld} {v : AV} {L : List Ent} {o0 o1 o2 q0 q1 q2 : AV} (h : MoverG gv F G mb s p w v L o0 o1 o2) (hr : yf w.U) (hi : i < w.U.length) {u : Unt} (hid : w.U[i].id = u.id) (g1 : StandR F' G' s p { w with U := w.U.set i u } v (ve L u) q0 q1 q2)
  (g2 : ∀ q, qv v q -> G'.obj q = G.obj q) : MoverG gv F' G' mb s p (ya w u) v (ve L u) q0 q1 q2 := by
 rw [Az hr hi hid.symm]
 have hF3 := Wl h.hF hr hi (u := u) hid
 refine ⟨g1, by rw [g2 mb h.ox]; exact h.hx, h.ox, h.os, ?_, hF3⟩
 obtain ⟨_, _, _, _, _, _, _, _, inv⟩ := g1.hc
 exact Wm inv.n1 hF3
theorem N9 {gv : AV} {F G : Store} {mb s p : Nat} {w : Wld} {v : AV} {L : List Ent} {o0 o1 o2 : AV} (hW : MoverG gv F G mb s p w v L o0 o1 o2) (hm : MayF w) (hn : ∀ u ∈ w.U, u.pos.ok) {i : Nat} (hi : i < w.U.length) (u : Unt) (hid : w.U[i].id = u.id) (hp : u.pos.ok) (R : AV -> Store -> Prop)
  (h : ∀ F' G' L', MoverG gv F' G' mb s p (ya w u) v L' o0 o1 o2 -> R (.tup []) (F'.un (svS G' s (ya w u) v o0 o1 o2 p))) :
  ACalls Tryz.prog 95 [ptr s, .agg (ze u)] (F.un (svS G s w v o0 o1 o2 p)) R := by
 have hU := hm.hU
 refine zmv hW.S hW.os hm.hr (by omega) (by have := hW.hL; omega) (Hk hW.hF hn) hi u hid hp R fun F' G' g1 g2 => ?_
 have e := Az (w := w) hm.hr hi hid.symm
 have := h F' G' _ (hW.put hm.hr hi hid g1 g2)
 rw [e] at this
 exact this
set_option maxHeartbeats 2000000 in
set_option maxRecDepth 20000 in
theorem R3 {gv : AV} {F G : Store} {mb s p : Nat} {w : Wld} {v : AV} {L : List Ent} {o0 o1 o2 : AV} (hW : MoverG gv F G mb s p w v L o0 o1 o2) (hm : MayF w) (hn : ∀ u ∈ w.U, u.pos.ok) {i : Nat} (hi : i < w.U.length) (d : Vc) (hd : d.ok) (R : AV -> Store -> Prop)
  (h : ∀ F' G' L' q0 q1 q2, MoverG gv F' G' mb s p (yq w w.U[i] d) v L' q0 q1 q2 -> R (int (qt w w.U[i] d)) (F'.un (svS G' s (yq w w.U[i] d) v q0 q1 q2 p))) :
  ACalls Tryz.prog 52 [ptr mb, .agg (ze w.U[i]), .agg (zk d)] (F.un (svS G s w v o0 o1 o2 p)) R := by
 have hU := hm.hU
 have hB := hm.hB
 have hnd := Md hd
 have hpk := hn _ (List.getElem_mem hi)
 unfold yq qt at h
 have hhalf := fun k => Ow hnd k
 have hzero := fun n k => R4 (w := w) (u := w.U[i]) (v := ym d) (n := n) (k := k)
 have hnext := fun n k => R6 (w := w) (u := w.U[i]) (v := ym d) (n := n) (k := k)
 have hsome := fun n k => R5 (w := w) (u := w.U[i]) (v := ym d) (n := n) (k := k)
 have hhv : ∀ k, qz (ym d) k = ((ym d).1.tdiv ((2 ^ k : Nat) : Int), (ym d).2.tdiv ((2 ^ k : Nat) : Int)) := fun k => rfl
 refine ACalls.of_body (c := cfg 53) zb Tryz.func52 (by rfl) (by rfl) (by rfl) (by rfl) ?_
 refine Me d _ _ ?_
 generalize ym d = nd at *
 refine AWp.loop (σ := Nat × Store × AV × AV × AV) ⟨fun x => [(0, .av (ptr mb)), (4, .bx 4 0), (5, .bx 5 0), (12, .av (int (x.1 : Nat)))], fun _ => [(4, ze w.U[i]), (5, zk nd)],
  fun x st' => x.1 <= 5 /\ st' = x.2.1.un (svS G s w v x.2.2.1 x.2.2.2.1 x.2.2.2.2 p) /\ StandR x.2.1 G s p w v L x.2.2.1 x.2.2.2.1 x.2.2.2.2 /\ yy w w.U[i] nd 5 0 = yy w w.U[i] nd (5 - x.1) x.1, fun x => 5 - x.1⟩ zb ?_ ?_
 ·exact ⟨(0, F, o0, o1, o2), Tv, ⟨Nat.zero_le _, rfl, hW.S, rfl⟩, ⟨Tq, Tq, Tq, Tq, Tv⟩, ⟨rfl, rfl, Tv⟩⟩
 rintro ⟨k, F1, q0, q1, q2⟩ st' ⟨hk, rfl, hS1, hT⟩
 dsimp only at hk hS1 hT ⊢
 refine bcd (fun c1 => ?_) (fun c1 => ?_)
 rotate_left
 ·have : k = 5 := by omega
  subst this
  have hT : yy w w.U[i] nd 5 0 = none := hT
  rw [hT] at h
  exact ret (h F1 G L q0 q1 q2 ⟨hS1, hW.hx, hW.ox, hW.os, hW.hL, hW.hF⟩)
 have hk5 : k < 5 := by omega
 obtain ⟨n, hn5⟩ : ∃ n, 5 - k = n + 1 := ⟨4 - k, by omega⟩
 rw [hn5] at hT
 have hsh := M9 hk5
 have hkv := hhv k
 have hh := hhalf k
 have hp2 : ((2 ^ k : Nat) : Int) ≠ 0 := by have : 0 < 2 ^ k := Nat.pow_pos (by decide); omega
 rw [<- hsh] at hkv hp2
 have hh1 : z6 (nd.1.tdiv (IntKind.i64.wrap (1 * 2 ^ (min ((k : Int)).toNat IntKind.i64.bits)))) := by
  have := hh.1
  rw [hkv] at this
  exact ⟨by dsimp only at this; omega, by dsimp only at this; omega⟩
 have hh2 : z6 (nd.2.tdiv (IntKind.i64.wrap (1 * 2 ^ (min ((k : Int)).toNat IntKind.i64.bits)))) := by
  have := hh.2
  rw [hkv] at this
  exact ⟨by dsimp only at this; omega, by dsimp only at this; omega⟩
 have hz0 := hzero n k
 have hnx := hnext n k
 have hsm := hsome n k
 refine ADraw.of_sched zb (by rfl) (by rfl) Vf (by rfl) ?_
 refine ⟨by omega, ?_⟩
 refine ⟨hp2, zc hh1 ?_⟩
 refine ⟨by omega, ?_⟩
 refine ⟨hp2, zc hh2 ?_⟩
 refine ⟨⟨?_, ?_⟩, Tv⟩
 ·repeat (first | exact Tv | refine ⟨rfl, ?_⟩ | refine ⟨⟨by omega, rfl⟩, ?_⟩ | refine ⟨⟨hp2, zc hh1 rfl⟩, ?_⟩ | refine ⟨⟨hp2, zc hh2 rfl⟩, ?_⟩)
 refine ⟨⟨Tv, ?_⟩, Tv⟩
 rw [hkv] at hz0 hnx hsm hh
 generalize nd.1.tdiv (IntKind.i64.wrap (1 * 2 ^ (min ((k : Int)).toNat IntKind.i64.bits))) = a at *
 generalize nd.2.tdiv (IntKind.i64.wrap (1 * 2 ^ (min ((k : Int)).toNat IntKind.i64.bits))) = b at *
 refine zg (fun c2 => ?_) (fun c2 => ?_)
 ·have e : (a, b) = ((0 : Int), (0 : Int)) := by
   simp only [Bool.and_eq_true, beq_iff_eq] at c2
   exact Prod.ext c2.1 c2.2.1
  rw [hz0 e] at hT
  rw [hT] at h
  exact ret (h F1 G L q0 q1 q2 ⟨hS1, hW.hx, hW.ox, hW.os, hW.hL, hW.hF⟩)
 have hne : (a, b) ≠ ((0 : Int), (0 : Int)) := fun e => by
  cases e
  exact absurd c2 (by decide)
 refine Mi w.U[i].pos (a, b) hpk (Fs hh) _ _ ?_
 have hnp := Fs (N7 w.U[i].pos (a, b))
 have hnx := hnx hne
 have hsm := hsm hne
 generalize qi w.U[i].pos (a, b) = np at *
 refine ADraw.of_sched zb (by rfl) (by rfl) Ve (by rfl) ?_
 refine za (o := (F1.un (svS G s w v q0 q1 q2 p)).obj mb) _ hW.m ?_
 refine ⟨zia hS1 hm.hg (by omega) hm.hb hm.hr (by omega) hn hW.hL hW.hF w.U[i].id w.U[i].kind np hnp _ (fun z F2 a0 a1 a2 hz hS2 => ⟨Tv, ?_⟩), Tv⟩
 refine zg (fun c3 => ?_) (fun c3 => ?_)
 rotate_left
 ·rw [hnx (fun hh => by rw [hz.2 hh] at c3; cases c3)] at hT
  refine zc (by omega) ?_
  refine ⟨(k + 1, F2, a0, a1, a2), ?_, ⟨by dsimp only; omega, rfl, hS2, ?_⟩, ⟨Tq, Tq, Tq, Tq, Tv⟩, ⟨rfl, rfl, Tv⟩⟩
  ·show 5 - (k + 1) < 5 - k
   omega
  ·show yy w w.U[i] nd 5 0 = yy w w.U[i] nd (5 - (k + 1)) (k + 1)
   rw [hT]
   congr 1
   omega
 rw [hsm (hz.1 c3)] at hT
 rw [hT] at h
 have hW2 : MoverG gv F2 G mb s p w v L a0 a1 a2 := ⟨hS2, hW.hx, hW.ox, hW.os, hW.hL, hW.hF⟩
 refine ADraw.of_sched zb (by rfl) (by rfl) Vg (by rfl) ?_
 refine za (o := (F2.un (svS G s w v a0 a1 a2 p)).obj mb) _ hW.m ?_
 refine ⟨N9 hW2 hm hn hi { w.U[i] with pos := np } rfl hnp _ (fun F3 G3 L3 hW3 => ⟨Tv, ?_⟩), Tv⟩
 exact ret (h F3 G3 L3 a0 a1 a2 hW3)
theorem zr0 {gv : AV} {F G : Store} {mb s p : Nat} {w : Wld} {v : AV} {L : List Ent} {o0 o1 o2 : AV} (hW : MoverG gv F G mb s p w v L o0 o1 o2) (hm : MayF w) (hn : ∀ u ∈ w.U, u.pos.ok) {i : Nat} (hi : i < w.U.length) (u : Unt) (hid : w.U[i].id = u.id) (hp : u.pos.ok) (z : Int) (R : AV -> Store -> Prop)
  (h : ∀ F' G' L', MoverG gv F' G' mb s p (ya w (j6 z u)) v L' o0 o1 o2 -> R (.tup []) (F'.un (svS G' s (ya w (j6 z u)) v o0 o1 o2 p))) :
  ACalls Tryz.prog 230 [ptr mb, .agg (ze u), int z] (F.un (svS G s w v o0 o1 o2 p)) R := by
 refine ACalls.of_body (c := cfg 17) zb Tryz.func230 (by rfl) (by rfl) (by rfl) (by rfl) ?_
 refine ADraw.of_sched zb (by rfl) (by rfl) zjy (by rfl) ?_
 refine za (o := (F.un (svS G s w v o0 o1 o2 p)).obj mb) _ hW.m ?_
 refine ⟨N9 hW hm hn hi (j6 z u) hid hp _ (fun F3 G3 L3 hW3 => ⟨Tv, ?_⟩), Tv⟩
 exact ret (h F3 G3 L3 hW3)
set_option maxHeartbeats 2000000 in
set_option maxRecDepth 20000 in
theorem zpu {gv : AV} {F G : Store} {mb s p : Nat} {w : Wld} {v : AV} {L : List Ent} {o0 o1 o2 : AV} (hW : MoverG gv F G mb s p w v L o0 o1 o2) (hm : MayF w) (hn : ∀ u ∈ w.U, u.pos.ok) (hmap : ∀ u ∈ w.U, u.inn = 0 -> qj u.pos) {i : Nat} (hi : i < w.U.length) (h0 : w.U[i].inn = 0) (R : AV -> Store -> Prop)
  (h : ∀ F' G' L' q0 q1 q2, MoverG gv F' G' mb s p (Ag w w.U[i]) v L' q0 q1 q2 -> R (.tup []) (F'.un (svS G' s (Ag w w.U[i]) v q0 q1 q2 p))) :
  ACalls Tryz.prog 151 [ptr mb, .agg (ze w.U[i])] (F.un (svS G s w v o0 o1 o2 p)) R := by
 have hU := hm.hU
 have hpu := hmap _ (List.getElem_mem hi) h0
 have hkr := vy w.U[i].kind
 have hks := Sv w.U[i].kind
 have htiny := zpt hpu (fun x hx h1 => hmap x hx h1) hU
 have hidl := fun (us : List Unt) (h1 : Be w w.U[i].pos (zm w.U[i].kind + 16384 + 81920) us) h2 => zps (u := w.U[i]) hm.hr h1 h2
 unfold Ag at h
 refine ACalls.of_body (c := cfg 55) zb Tryz.func151 (by rfl) (by rfl) (by rfl) (by rfl) ?_
 refine qw _ _ _ ?_
 refine ADraw.of_sched zb (by rfl) (by rfl) zkj (by rfl) ?_
 refine za (o := (F.un (svS G s w v o0 o1 o2 p)).obj mb) _ hW.m ?_
 refine zc (by omega) ?_
 refine ⟨Sx hW.S hm.hr (by omega) hn hW.hL hW.hF w.U[i].pos (vw hpu) (zm w.U[i].kind + 16384) (by omega) _ (fun F1 us hS1 hus hss hul => ⟨Tv, ?_⟩), Tv⟩
 have hW1 : MoverG gv F1 G mb s p w v L o0 o1 o2 := ⟨hS1, hW.hx, hW.ox, hW.os, hW.hL, hW.hF⟩
 have hid := hidl us hus hss
 have hnv : ∀ k, nV ((us.take k).foldl (jd w.U[i]) (0, 0)) := fun k => Wt _ ⟨⟨by decide, by decide⟩, ⟨by decide, by decide⟩⟩
 refine AWp.loop (σ := Nat) ⟨fun k => [(0, .av (ptr mb)), (3, .bx 3 0), (4, .bx 4 0), (5, .bx 5 0), (20, .av (lst 10 ze us)), (21, .av (int (us.length : Nat))), (22, .av (int (k : Nat)))], fun k => [(3, ze w.U[i]), (4, vx w.U[i].kind), (5, zk ((us.take k).foldl (jd w.U[i]) (0, 0)))],
  fun k st' => k <= us.length /\ st' = F1.un (svS G s w v o0 o1 o2 p), fun k => us.length - k⟩ zb ?_ ?_
 ·refine ⟨0, Tv, ⟨Nat.zero_le _, rfl⟩, ⟨Tq, Tq, Tq, Tq, Tq, ?_, Tq, Tv⟩, ⟨rfl, rfl, rfl, Tv⟩⟩
  exact LV.le_int (by rw [zu])
 rintro k st' ⟨hk, rfl⟩
 refine bcd (fun c1 => ?_) (fun c1 => ?_)
 rotate_left
 ·have : k = us.length := by omega
  have hv : (us.take k).foldl (jd w.U[i]) (0, 0) = F4 w w.U[i] := by
   rw [this, List.take_length, hid]
  rw [<- hv] at h htiny
  have hq4 : (kp w.U[i].kind).tdiv 4 = kp w.U[i].kind / 4 := Int.tdiv_eq_ediv_of_nonneg (by omega)
  refine ADraw.of_sched zb (by rfl) (by rfl) zkh (by rfl) ?_
  refine ⟨by decide, zc (by rw [hq4]; omega) ?_⟩
  refine ⟨Li ((us.take k).foldl (jd w.U[i]) (0, 0)) ((kp w.U[i].kind).tdiv 4) htiny (by rw [hq4]; omega) _ _ ⟨(by repeat (first | exact Tv | refine ⟨rfl, ?_⟩ | refine ⟨optR (optR (optR (za _ (zd _ _ _) rfl))), ?_⟩)), ?_⟩, Tv⟩
  refine ⟨R3 hW1 hm hn hi _ (Rs htiny) _ (fun F3 G3 L3 a0 a1 a2 hW3 => ⟨Tv, ?_⟩), Tv⟩
  exact ret (h F3 G3 L3 a0 a1 a2 hW3)
 have hlt : k < us.length := by omega
 have hx := (hus us[k]).1 (List.getElem_mem hlt)
 have hpx := hmap _ hx.1.1 hx.1.2
 have hkx := vy us[k].kind
 refine ⟨k, rfl, za _ (zj hlt) ?_⟩
 have hstep : (us.take (k + 1)).foldl (jd w.U[i]) (0, 0) = jd w.U[i] ((us.take k).foldl (jd w.U[i]) (0, 0)) us[k] := by
  rw [List.take_succ_eq_append_getElem hlt, List.foldl_append]
  rfl
 refine qa (fun c2 => ?_) (fun c2 => ?_)
 rotate_left
 ·have hst : (us.take (k + 1)).foldl (jd w.U[i]) (0, 0) = (us.take k).foldl (jd w.U[i]) (0, 0) := by
   rw [hstep]
   unfold jd
   rw [if_neg (fun hh => hh c2)]
  refine zc (by omega) ?_
  refine ⟨k + 1, ?_, ⟨hlt, rfl⟩, ⟨Tq, Tq, Tq, Tq, Tq, Tq, Tq, Tv⟩, ⟨rfl, rfl, congrArg (fun x => some (zk x)) hst.symm, Tv⟩⟩
  show us.length - (k + 1) < us.length - k
  omega
 have hst : (us.take (k + 1)).foldl (jd w.U[i]) (0, 0) = qi ((us.take k).foldl (jd w.U[i]) (0, 0)) (kg w.U[i].pos (zm w.U[i].kind + zm us[k].kind + 16384) us[k].pos) := by
  rw [hstep]
  unfold jd
  rw [if_pos c2]
 have hps := Wb hpu hpx (r := zm w.U[i].kind + zm us[k].kind + 16384) (by omega)
 have hnk := hnv k
 refine ADraw.of_sched zb (by rfl) (by rfl) zki (by rfl) ?_
 refine ⟨qw _ _ _ ⟨(by repeat (first | exact Tv | refine ⟨rfl, ?_⟩ | refine ⟨optR (optR (optR (za _ (zd _ _ _) rfl))), ?_⟩)), ?_⟩, Tv⟩
 refine zc (by omega) ?_
 refine zc (by omega) ?_
 refine ⟨ziq w.U[i].pos (zm w.U[i].kind + zm us[k].kind + 16384) us[k].pos hpu hpx (by omega) _ _ ⟨(by repeat (first | exact Tv | refine ⟨rfl, ?_⟩ | refine ⟨optR (optR (optR (za _ (zd _ _ _) rfl))), ?_⟩)), ?_⟩, Tv⟩
 refine ⟨Mi _ _ (Fs hnk) ⟨⟨by omega, by omega⟩, ⟨by omega, by omega⟩⟩ _ _ ⟨(by repeat (first | exact Tv | refine ⟨rfl, ?_⟩ | refine ⟨optR (optR (optR (za _ (zd _ _ _) rfl))), ?_⟩)), ?_⟩, Tv⟩
 refine ⟨⟨(by repeat (first | exact Tv | refine ⟨rfl, ?_⟩ | refine ⟨optR (optR (optR (za _ (zd _ _ _) rfl))), ?_⟩)), ?_⟩, Tv⟩
 refine zc (by omega) ?_
 refine ⟨k + 1, ?_, ⟨hlt, rfl⟩, ⟨Tq, Tq, Tq, Tq, Tq, Tq, Tq, Tv⟩, ⟨rfl, rfl, congrArg (fun x => some (zk x)) hst.symm, Tv⟩⟩
 show us.length - (k + 1) < us.length - k
 omega
theorem Wc (w : World) (T : Nat -> Nat -> Prop) : VRel w T (.agg []) (.agg #[]) := .agg [] #[] rfl (fun i x y hx => by simp at hx)
theorem zn3 : Hm Tryz.prog 177 "Net" 438 false = true := by kernel_rfl
theorem gz : Hm Tryz.prog 177 "Ways" 439 false = true := by kernel_rfl
theorem zn4 : Meets Tryz.prog 177 (.agg #[]) "Net" 438 (.agg []) := Meets.valB zn3 Wc
theorem g7 : Meets Tryz.prog 177 (.agg #[]) "Ways" 439 (.agg []) := Meets.valB gz Wc
theorem zm7 (g : Gnd) (hg : zl g) (l : List Bld) (hl : l.length <= 1000000000000) (hb : ∀ b ∈ l, z7 b /\ onP g b) (c s : Int) (hs : 0 <= s /\ s <= 3) (st : Store) (R : AV -> Store -> Prop) (h : ∀ b, Fresh st b -> R (ptr b) (st.setObj b (.cells (Ad g l c s)))) :
  ACalls Tryz.prog 438 [.agg [], .agg (zt g), lst 6 zp l, int c, int s] st R := by
 refine ACalls.of_body (c := cfg 16) zb Tryz.func438 (by rfl) (by rfl) (by rfl) (by rfl) ?_
 refine cd g hg l hl hb c s hs _ _ (fun b hf => ?_)
 exact ret (h b hf)
theorem zmu (g : Gnd) (hg : zl g) (l : List Bld) (hl : l.length <= 1000000000000) (hb : ∀ b ∈ l, z7 b /\ onP g b) (c s : Int) (hs : 0 <= s /\ s <= 3) (goal : Nat) (hgo : goal < g.T.length) (st : Store) (R : AV -> Store -> Prop)
  (h : ∀ b, Fresh st b -> R (.s (.slice (some ⟨b, 0, none⟩) g.T.length g.T.length)) (st.setObj b (.cells (il g.T.length (qh g (zv g l c s) c (xd g (zv g l c s) c goal)))))) :
  ACalls Tryz.prog 439 [.agg [], .agg (zt g), lst 6 zp l, int c, int s, int (goal : Nat)] st R := by
 refine ACalls.of_body (c := cfg 20) zb Tryz.func439 (by rfl) (by rfl) (by rfl) (by rfl) ?_
 refine cd g hg l hl hb c s hs _ _ (fun nb hf => ?_)
 refine lz hg (zd _ _ _) goal hgo _ (fun b hf2 => ?_)
 have hnb : nb ≠ b := fun e => by
  have := hf2.1
  rw [<- e, zd] at this; cases this
 have hfb : Fresh st b := by
  have := hf2
  unfold Fresh at this ⊢
  rw [zq (Ne.symm hnb)] at this
  exact this
 refine qq (Tt) ?_ (h b hfb)
 rw [Df (Ne.symm hnb)]
 refine Ah ?_
 rw [zq hnb]
 exact hf.1
theorem zpm {S : Store} {b n : Nat} {f : Nat -> Int} (hb : S.obj b = some (.cells (il n f))) (hn : n <= 1000000) (x : Int) (R : AV -> Store -> Prop) (h : ∀ r : Int, ((0 : Int) <= r ↔ (List.range n).any (fun j => f j == x) = true) -> R (int r) S) :
  ACalls Tryz.prog 343 [.s (.slice (some ⟨b, 0, none⟩) n n), int x] S R := by
 refine ACalls.of_body (c := cfg 19) zb Tryz.func343 (by rfl) (by rfl) (by rfl) (by rfl) ?_
 refine AWp.loop (σ := Nat) ⟨fun i => [(0, .av (.s (.slice (some ⟨b, 0, none⟩) n n))), (1, .av (int x)), (7, .av (int (n : Nat))), (8, .av (int (i : Nat)))], fun _ => [],
  fun i st' => i <= n /\ st' = S /\ ∀ j, j < i -> (f j == x) = false, fun i => n - i⟩ zb ?_ ?_
 ·exact ⟨0, Tv, ⟨Nat.zero_le _, rfl, fun j hj => absurd hj (Nat.not_lt_zero j)⟩, ⟨Tq, Tq, Tq, Tq, Tv⟩, Tv⟩
 rintro i st' ⟨hi, rfl, hall⟩
 refine bcd (fun c1 => ?_) (fun c1 => ?_)
 rotate_left
 ·have : i = n := by omega
  subst this
  refine ret (h (-1) ?_)
  rw [zur hall]
  simp
 have hlt : i < n := by omega
 refine ⟨i, rfl, hlt, ?_⟩
 refine za (o := st'.obj b) _ hb ?_
 refine za _ (kr hlt) ?_
 refine yp (fun c2 => ?_) (fun c2 => ?_)
 ·refine ret (h i ?_)
  rw [zus hlt (by rw [c2]; simp)]
  simp
 ·refine zc (by omega) ?_
  refine ⟨i + 1, ?_, ⟨by omega, rfl, fun j hj => ?_⟩, ⟨Tq, Tq, Tq, Tq, Tv⟩, Tv⟩
  ·show n - (i + 1) < n - i
   omega
  ·by_cases e : j = i
   ·subst e
    rw [beq_eq_false_iff_ne]
    exact fun e => c2 e.symm
   ·exact hall j (by omega)
theorem zs6 {S : Store} {b n : Nat} {f : Nat -> Int} (hb : S.obj b = some (.cells (il n f))) (hn : n <= 1000000) (x : Int) (R : AV -> Store -> Prop) (h : R (V.bool ((List.range n).any (fun j => f j == x))) S) :
  ACalls Tryz.prog 299 [.s (.slice (some ⟨b, 0, none⟩) n n), int x] S R := by
 refine ACalls.of_body (c := cfg 9) zb Tryz.func299 (by rfl) (by rfl) (by rfl) (by rfl) ?_
 refine zpm hb hn x _ (fun r hr => ?_)
 have e : decide (r >= 0) = (List.range n).any (fun j => f j == x) := by
  rw [Bool.eq_iff_iff, decide_eq_true_iff]
  exact hr
 rw [<- e] at h
 exact ret h
end Go.Proofs
namespace Go.Proofs
open Go Go.V
set_option maxRecDepth 4000
theorem Mw {g : Gnd} (hg : zl g) {t : Int} (h : jq g t) : t = -1 \/ ∃ k : Nat, t = k /\ k < g.T.length := by
 rcases h with h | ⟨h1, h2⟩
 ·exact .inl h
 ·obtain ⟨k, rfl⟩ := Int.eq_ofNat_of_zero_le h1
  exact .inr ⟨k, rfl, by have := hg.2.2.1; omega⟩
theorem lu {w : Wld} {u : Unt} {d : Vc} (h : ¬ qt w u d < 5) : yq w u d = w := by
 unfold qt at h
 unfold yq
 cases hl : yy w u (ym d) 5 0 with
 | none => rfl
 | some r =>
  rw [hl] at h
  obtain ⟨k, q⟩ := r
  have := (Io _ _ hl).2.1.2
  dsimp only at this h
  exact absurd (by omega) h
/-- A guide behind its interface. -/
abbrev gvOf (gt : TypeId) (gx : Value) : AV := .s (.iface gt gx)
theorem un_comm {a g : Store} (hd : zi a g) : a.un g = g.un a := by
 show Store.mk _ _ = Store.mk _ _
 congr 1
 ·funext i
  show (match g.obj i with | some x => some x | none => a.obj i) = match a.obj i with | some x => some x | none => g.obj i
  cases h1 : a.obj i with
  | none => cases g.obj i <;> rfl
  | some x => rw [(ki (hd i (ks h1))).1]
 ·funext i
  show (match g.tok i with | some x => some x | none => a.tok i) = match a.tok i with | some x => some x | none => g.tok i
  cases h1 : a.tok i with
  | none => cases g.tok i <;> rfl
  | some x => rw [(ki (hd i (Dr h1))).2]
theorem Ld {a g : Store} (h : zi a g) : zi g a := fun b h1 h2 => h b h2 h1
/-- A guide: 'K n' holds of its own memory; so often it was asked for ways. -/
structure GuideK (gt : TypeId) (gx : Value) (K : Nat -> Store -> Prop) (M : Nat) (w : Wld) : Prop where
 net : ∀ {n : Nat} {N : Store} {c s : Int}, K n N -> (c = 0 \/ c = 1 \/ c = 2) -> (0 <= s /\ s <= 3) -> ∀ R : AV -> Store -> Prop, (∀ b N', K n N' -> N'.obj b = some (.cells (Ad w.G w.B c s)) -> R (ptr b) N') ->
  ∃ g x, Meets Tryz.prog gt gx "Net" g x /\ ACalls Tryz.prog g [x, .agg (zt w.G), lst 6 zp w.B, int c, int s] N R
 ways : ∀ {n : Nat} {N : Store} {c s : Int}, K n N -> n < M -> (c = 0 \/ c = 1 \/ c = 2) -> (0 <= s /\ s <= 3) -> ∀ goal : Nat, goal < w.G.T.length -> ∀ R : AV -> Store -> Prop,
  (∀ b N', K (n + 1) N' -> N'.obj b = some (.cells (il w.G.T.length (qh w.G (zv w.G w.B c s) c (xd w.G (zv w.G w.B c s) c goal)))) -> R (.s (.slice (some ⟨b, 0, none⟩) w.G.T.length w.G.T.length)) N') ->
  ∃ g x, Meets Tryz.prog gt gx "Ways" g x /\ ACalls Tryz.prog g [x, .agg (zt w.G), lst 6 zp w.B, int c, int s, int (goal : Nat)] N R
theorem GuideK.netX {gt : TypeId} {gx : Value} {K : Nat -> Store -> Prop} {M n : Nat} {w : Wld} (hG : GuideK gt gx K M w) {X N : Store} (hd : zi X N) (hK : K n N) {c s : Int} (hc : c = 0 \/ c = 1 \/ c = 2) (hs : 0 <= s /\ s <= 3) (R : AV -> Store -> Prop)
  (h : ∀ b N2, zi X N2 -> K n N2 -> N2.obj b = some (.cells (Ad w.G w.B c s)) -> R (ptr b) (X.un N2)) : ∃ g x, Meets Tryz.prog gt gx "Net" g x /\ ACalls Tryz.prog g [x, .agg (zt w.G), lst 6 zp w.B, int c, int s] (X.un N) R := by
 obtain ⟨g, x, hm, hcl⟩ := hG.net hK hc hs (fun r S => ∃ b, r = ptr b /\ K n S /\ S.obj b = some (.cells (Ad w.G w.B c s))) (fun b N' h1 h2 => ⟨b, rfl, h1, h2⟩)
 refine ⟨g, x, hm, ?_⟩
 rw [un_comm hd]
 refine ACalls.frame (Ld hd) hcl ?_
 rintro r a' ⟨b, rfl, h1, h2⟩ hd2
 rw [un_comm hd2]
 exact h b a' (Ld hd2) h1 h2
theorem GuideK.waysX {gt : TypeId} {gx : Value} {K : Nat -> Store -> Prop} {M n : Nat} {w : Wld} (hG : GuideK gt gx K M w) {X N : Store} (hd : zi X N) (hK : K n N) (hn : n < M) {c s : Int} (hc : c = 0 \/ c = 1 \/ c = 2) (hs : 0 <= s /\ s <= 3) (goal : Nat) (hgo : goal < w.G.T.length) (R : AV -> Store -> Prop)
  (h : ∀ b N2, zi X N2 -> K (n + 1) N2 -> N2.obj b = some (.cells (il w.G.T.length (qh w.G (zv w.G w.B c s) c (xd w.G (zv w.G w.B c s) c goal)))) -> R (.s (.slice (some ⟨b, 0, none⟩) w.G.T.length w.G.T.length)) (X.un N2)) :
  ∃ g x, Meets Tryz.prog gt gx "Ways" g x /\ ACalls Tryz.prog g [x, .agg (zt w.G), lst 6 zp w.B, int c, int s, int (goal : Nat)] (X.un N) R := by
 obtain ⟨g, x, hm, hcl⟩ := hG.ways hK hn hc hs goal hgo (fun r S => ∃ b, r = .s (.slice (some ⟨b, 0, none⟩) w.G.T.length w.G.T.length) /\ K (n + 1) S /\ S.obj b = some (.cells (il w.G.T.length (qh w.G (zv w.G w.B c s) c (xd w.G (zv w.G w.B c s) c goal))))) (fun b N' h1 h2 => ⟨b, rfl, h1, h2⟩)
 refine ⟨g, x, hm, ?_⟩
 rw [un_comm hd]
 refine ACalls.frame (Ld hd) hcl ?_
 rintro r a' ⟨b, rfl, h1, h2⟩ hd2
 rw [un_comm hd2]
 exact h b a' (Ld hd2) h1 h2
set_option maxHeartbeats 4000000 in
set_option maxRecDepth 20000 in
theorem zo1 {gt : TypeId} {gx : Value} {K : Nat -> Store -> Prop} {M n : Nat} {w : Wld} (hG : GuideK gt gx K M w) {X N : Store} (hd : zi X N) (hK : K n N) {mb s p : Nat} {v o0 o1 o2 : AV} (hmbX : X.obj mb = some (.cells [ptr s, gvOf gt gx])) (hsX : X.obj s = some (.cells (svC w v o0 o1 o2 p))) (hm : MayF w) (u : Unt) (hnx : u.next = -1 \/ ∃ t : Nat, u.next = t /\ t < w.G.T.length) (own : Nat) (ho : own < w.G.T.length) (R : AV -> Store -> Prop)
  (h : ∀ N2, zi X N2 -> K n N2 -> R (V.bool (Dk w u own)) (X.un N2)) : ACalls Tryz.prog 232 [ptr mb, .agg (ze u), int (own : Nat)] (X.un N) R := by
 obtain ⟨S, hSe⟩ : ∃ S, X.un N = S := ⟨_, rfl⟩
 have hmb : S.obj mb = some (.cells [ptr s, gvOf gt gx]) := hSe ▸ y3 hd hmbX
 have hs : S.obj s = some (.cells (svC w v o0 o1 o2 p)) := hSe ▸ y3 hd hsX
 rw [hSe]
 have hB := hm.hB
 unfold Dk okU at h
 refine ACalls.of_awp (c := cfg 77 [9] []) zb Tryz.func232 (by rfl) (by rfl) (by rfl) (by rfl) ?_
 refine AWp.seq (AWp.of_vc zb ?_)
 refine AWp.meet (σ := Unit) ⟨fun _ => [(0, .av (ptr mb)), (2, .av (int (own : Nat))), (4, .bx 4 0), (7, .bx 7 0), (8, .bx 8 0)], fun _ => [(4, ze u), (7, zt w.G), (8, vx u.kind)], fun _ st' => st' = S⟩ zb ?_ ?_
 ·refine ADraw.of_sched zb (by rfl) (by rfl) zjx (by rfl) ?_
  refine za (o := S.obj mb) _ hmb ?_
  refine za (o := S.obj s) _ hs ?_
  exact ⟨qw _ _ _ ⟨(by repeat (first | exact Tv | refine ⟨rfl, ?_⟩ | refine ⟨za (o := S.obj mb) _ hmb rfl, ?_⟩ | refine ⟨za (o := S.obj s) _ hs rfl, ?_⟩)), ⟨⟨(by repeat (first | exact Tv | refine ⟨rfl, ?_⟩ | refine ⟨za (o := S.obj mb) _ hmb rfl, ?_⟩ | refine ⟨za (o := S.obj s) _ hs rfl, ?_⟩)), ⟨⟨(by repeat (first | exact Tv | refine ⟨rfl, ?_⟩ | refine ⟨za (o := S.obj mb) _ hmb rfl, ?_⟩ | refine ⟨za (o := S.obj s) _ hs rfl, ?_⟩)), ⟨⟨Tv, ⟨⟨Tv, ⟨(), rfl, ⟨Tq, Tq, Tq, Tq, Tq, Tv⟩, ⟨rfl, rfl, rfl, Tv⟩⟩⟩, Tv⟩⟩, Tv⟩⟩, Tv⟩⟩, ⟨⟨(by repeat (first | exact Tv | refine ⟨rfl, ?_⟩ | refine ⟨za (o := S.obj mb) _ hmb rfl, ?_⟩ | refine ⟨za (o := S.obj s) _ hs rfl, ?_⟩)), ⟨⟨(by repeat (first | exact Tv | refine ⟨rfl, ?_⟩ | refine ⟨za (o := S.obj mb) _ hmb rfl, ?_⟩ | refine ⟨za (o := S.obj s) _ hs rfl, ?_⟩)), ⟨⟨Tv, ⟨⟨Tv, ⟨(), rfl, ⟨Tq, Tq, Tq, Tq, Tq, Tv⟩, ⟨rfl, rfl, rfl, Tv⟩⟩⟩, Tv⟩⟩, Tv⟩⟩, Tv⟩⟩, Tv⟩⟩⟩, ⟨⟨(by repeat (first | exact Tv | refine ⟨rfl, ?_⟩ | refine ⟨za (o := S.obj mb) _ hmb rfl, ?_⟩ | refine ⟨za (o := S.obj s) _ hs rfl, ?_⟩)), ⟨qw _ _ _ ⟨(by repeat (first | exact Tv | refine ⟨rfl, ?_⟩ | refine ⟨za (o := S.obj mb) _ hmb rfl, ?_⟩ | refine ⟨za (o := S.obj s) _ hs rfl, ?_⟩)), ⟨⟨(by repeat (first | exact Tv | refine ⟨rfl, ?_⟩ | refine ⟨za (o := S.obj mb) _ hmb rfl, ?_⟩ | refine ⟨za (o := S.obj s) _ hs rfl, ?_⟩)), ⟨⟨Tv, ⟨⟨Tv, ⟨(), rfl, ⟨Tq, Tq, Tq, Tq, Tq, Tv⟩, ⟨rfl, rfl, rfl, Tv⟩⟩⟩, Tv⟩⟩, Tv⟩⟩, Tv⟩⟩, ⟨⟨(by repeat (first | exact Tv | refine ⟨rfl, ?_⟩ | refine ⟨za (o := S.obj mb) _ hmb rfl, ?_⟩ | refine ⟨za (o := S.obj s) _ hs rfl, ?_⟩)), ⟨qw _ _ _ ⟨(by repeat (first | exact Tv | refine ⟨rfl, ?_⟩ | refine ⟨za (o := S.obj mb) _ hmb rfl, ?_⟩ | refine ⟨za (o := S.obj s) _ hs rfl, ?_⟩)), ⟨⟨Tv, ⟨⟨Tv, ⟨(), rfl, ⟨Tq, Tq, Tq, Tq, Tq, Tv⟩, ⟨rfl, rfl, rfl, Tv⟩⟩⟩, Tv⟩⟩, Tv⟩⟩, Tv⟩⟩, Tv⟩⟩⟩, ⟨⟨(by repeat (first | exact Tv | refine ⟨rfl, ?_⟩ | refine ⟨za (o := S.obj mb) _ hmb rfl, ?_⟩ | refine ⟨za (o := S.obj s) _ hs rfl, ?_⟩)), ⟨qw _ _ _ ⟨(by repeat (first | exact Tv | refine ⟨rfl, ?_⟩ | refine ⟨za (o := S.obj mb) _ hmb rfl, ?_⟩ | refine ⟨za (o := S.obj s) _ hs rfl, ?_⟩)), ⟨⟨(by repeat (first | exact Tv | refine ⟨rfl, ?_⟩ | refine ⟨za (o := S.obj mb) _ hmb rfl, ?_⟩ | refine ⟨za (o := S.obj s) _ hs rfl, ?_⟩)), ⟨⟨Tv, ⟨⟨Tv, ⟨(), rfl, ⟨Tq, Tq, Tq, Tq, Tq, Tv⟩, ⟨rfl, rfl, rfl, Tv⟩⟩⟩, Tv⟩⟩, Tv⟩⟩, Tv⟩⟩, ⟨⟨(by repeat (first | exact Tv | refine ⟨rfl, ?_⟩ | refine ⟨za (o := S.obj mb) _ hmb rfl, ?_⟩ | refine ⟨za (o := S.obj s) _ hs rfl, ?_⟩)), ⟨qw _ _ _ ⟨(by repeat (first | exact Tv | refine ⟨rfl, ?_⟩ | refine ⟨za (o := S.obj mb) _ hmb rfl, ?_⟩ | refine ⟨za (o := S.obj s) _ hs rfl, ?_⟩)), ⟨⟨Tv, ⟨⟨Tv, ⟨(), rfl, ⟨Tq, Tq, Tq, Tq, Tq, Tv⟩, ⟨rfl, rfl, rfl, Tv⟩⟩⟩, Tv⟩⟩, Tv⟩⟩, Tv⟩⟩, Tv⟩⟩⟩, Tv⟩⟩⟩
 rintro _ st' rfl
 refine AWp.of_vc zb ?_
 have hk := bc u.kind
 refine ADraw.of_sched zb (by rfl) (by rfl) zjw (by rfl) ?_
 refine yp (fun c1 => ?_) (fun c1 => ?_)
 ·refine ⟨⟨(by repeat (first | exact Tv | refine ⟨rfl, ?_⟩ | refine ⟨optR (optR (optR (za _ (zd _ _ _) rfl))), ?_⟩)), ?_⟩, Tv⟩
  refine ⟨⟨(by repeat (first | exact Tv | refine ⟨rfl, ?_⟩ | refine ⟨optR (optR (optR (za _ (zd _ _ _) rfl))), ?_⟩)), ?_⟩, Tv⟩
  rw [decide_eq_true c1] at h
  have h0 := h N hd hK
  rw [hSe] at h0
  exact ret h0
 obtain ⟨t, ht, htl⟩ : ∃ t : Nat, u.next = t /\ t < w.G.T.length := by
  rcases hnx with h1 | h1
  ·exact absurd h1 c1
  ·exact h1
 rw [decide_eq_false c1, ht, Int.toNat_natCast] at h
 refine ⟨Kg w.G hm.hg t htl u.next ht _ _ ⟨(by repeat (first | exact Tv | refine ⟨rfl, ?_⟩ | refine ⟨optR (optR (optR (za _ (zd _ _ _) rfl))), ?_⟩)), ?_⟩, Tv⟩
 refine zg (fun c2 => ?_) (fun c2 => ?_)
 ·refine ⟨⟨(by repeat (first | exact Tv | refine ⟨rfl, ?_⟩ | refine ⟨optR (optR (optR (za _ (zd _ _ _) rfl))), ?_⟩)), ?_⟩, Tv⟩
  have e : u.pos = qf w.G t := by
   simp only [Bool.and_eq_true, beq_iff_eq] at c2
   exact Prod.ext c2.1 c2.2.1
  rw [decide_eq_true e] at h
  have h0 := h N hd hK
  rw [hSe] at h0
  exact ret h0
 have e : ¬ u.pos = qf w.G t := fun e => by
  simp only [e, Bool.and_eq_false_iff, beq_eq_false_iff_ne] at c2
  rcases c2 with c2 | c2 | c2
  ·exact c2 rfl
  ·exact c2 rfl
  ·cases c2
 rw [decide_eq_false e] at h
 refine za (o := st'.obj mb) _ hmb ?_
 refine za (o := st'.obj mb) _ hmb ?_
 refine za (o := st'.obj s) _ hs ?_
 subst hSe
 refine ⟨hG.netX hd hK (Fy u.kind) hk _ (fun b N2 hd2 hK2 hb2 => ⟨(by repeat (first | exact Tv | refine ⟨rfl, ?_⟩ | refine ⟨optR (optR (optR (za _ (zd _ _ _) rfl))), ?_⟩)), ?_⟩), Tv⟩
 have hmb2 : (X.un N2).obj b = some (.cells (Ad w.G w.B (yh u.kind) (x3 u.kind))) := zf hb2
 have h0 := h N2 hd2 hK2
 generalize X.un N2 = S2 at *
 refine za (o := S2.obj b) _ hmb2 ?_
 have htl2 : t < (blL w.G.T.length (zv w.G w.B (yh u.kind) (x3 u.kind))).length := by rw [j7]; exact htl
 refine ⟨t, ht, za _ (zj htl2) ?_⟩
 rw [D2 htl]
 refine z8 ?_
 refine zg (fun c3 => ?_) (fun c3 => ?_)
 rotate_left
 ·rw [c3] at h0
  exact ret h0
 rw [c3] at h0
 refine Lo w.G hm.hg own ho _ _ ?_
 intro b9 hf9
 have e9 : zy (List.replicate 8 (int 0)) 0 (il 8 (zx w.G own)) = il 8 (zx w.G own) := by
  unfold zy
  rw [qc]
  simp
 refine kf (i := ti334) (v := Gj w.G own) (xs := il 8 (zx w.G own)) (l := List.replicate 8 (int 0)) rfl rfl rfl (zd _ _ _) (by rw [qc, List.length_replicate]; decide) ?_
 rw [e9, yr]
 have h9 : (S2.setObj b9 (.cells (il 8 (zx w.G own)))).obj b9 = some (.cells (il 8 (zx w.G own))) := zd _ _ _
 have hback2 : (S2.setObj b9 (.cells (il 8 (zx w.G own)))).Has S2 := Ah hf9.1
 generalize S2.setObj b9 (.cells (il 8 (zx w.G own))) = S3 at *
 rw [zn9] at h0
 refine ADraw.of_sched zb (by rfl) (by rfl) zjv (by rfl) ?_
 refine qa (fun c4 => ?_) (fun c4 => ?_)
 rotate_left
 ·refine ⟨⟨(by repeat (first | exact Tv | refine ⟨rfl, ?_⟩ | refine ⟨optR (optR (optR (za _ (zd _ _ _) rfl))), ?_⟩)), ?_⟩, Tv⟩
  refine ⟨⟨Tv, ?_⟩, Tv⟩
  rw [decide_eq_false (fun hh => hh (ht.symm.trans c4))] at h0
  exact qq (Tt) hback2 h0
 refine ⟨zs6 h9 (by decide) u.next _ ⟨(by repeat (first | exact Tv | refine ⟨rfl, ?_⟩ | refine ⟨optR (optR (optR (za _ (zd _ _ _) rfl))), ?_⟩)), ?_⟩, Tv⟩
 refine ⟨⟨Tv, ?_⟩, Tv⟩
 rw [decide_eq_true (show (t : Int) ≠ (own : Int) from fun hh => c4 (ht.trans hh))] at h0
 rw [ht]
 exact qq (Tt) hback2 h0
set_option maxHeartbeats 4000000 in
set_option maxRecDepth 20000 in
theorem zn2 {gt : TypeId} {gx : Value} {K : Nat -> Store -> Prop} {M n : Nat} {w : Wld} (hG : GuideK gt gx K M w) (hnM : n < M) {X N : Store} (hd : zi X N) (hK : K n N) {mb s p : Nat} {v o0 o1 o2 : AV} (hmbX : X.obj mb = some (.cells [ptr s, gvOf gt gx])) (hsX : X.obj s = some (.cells (svC w v o0 o1 o2 p))) (hm : MayF w) (u : Unt) (goal : Nat) (hgo : u.goal = goal) (hgl : goal < w.G.T.length) (own : Nat) (ho : own < w.G.T.length) (R : AV -> Store -> Prop)
  (h : ∀ n2 N2, n2 <= n + 1 -> zi X N2 -> K n2 N2 -> R (int (Bd w u own)) (X.un N2)) : ACalls Tryz.prog 233 [ptr mb, .agg (ze u), int (own : Nat)] (X.un N) R := by
 obtain ⟨S, hSe⟩ : ∃ S, X.un N = S := ⟨_, rfl⟩
 have hmb : S.obj mb = some (.cells [ptr s, gvOf gt gx]) := hSe ▸ y3 hd hmbX
 have hs : S.obj s = some (.cells (svC w v o0 o1 o2 p)) := hSe ▸ y3 hd hsX
 rw [hSe]
 have hB := hm.hB
 unfold Bd okU at h
 have hk := bc u.kind
 rw [hgo, Int.toNat_natCast] at h
 refine ACalls.of_awp (c := cfg 60) zb Tryz.func233 (by rfl) (by rfl) (by rfl) (by rfl) ?_
 refine AWp.seq (AWp.of_vc zb ?_)
 refine AWp.meet (σ := Unit) ⟨fun _ => [(0, .av (ptr mb)), (2, .av (int (own : Nat))), (4, .bx 4 0), (7, .bx 7 0), (8, .bx 8 0)], fun _ => [(4, ze u), (7, zt w.G), (8, vx u.kind)], fun _ st' => st' = S⟩ zb ?_ ?_
 ·refine ADraw.of_sched zb (by rfl) (by rfl) zju (by rfl) ?_
  refine za (o := S.obj mb) _ hmb ?_
  refine za (o := S.obj s) _ hs ?_
  exact ⟨qw _ _ _ ⟨(by repeat (first | exact Tv | refine ⟨rfl, ?_⟩ | refine ⟨za (o := S.obj mb) _ hmb rfl, ?_⟩ | refine ⟨za (o := S.obj s) _ hs rfl, ?_⟩)), ⟨⟨(by repeat (first | exact Tv | refine ⟨rfl, ?_⟩ | refine ⟨za (o := S.obj mb) _ hmb rfl, ?_⟩ | refine ⟨za (o := S.obj s) _ hs rfl, ?_⟩)), ⟨⟨(by repeat (first | exact Tv | refine ⟨rfl, ?_⟩ | refine ⟨za (o := S.obj mb) _ hmb rfl, ?_⟩ | refine ⟨za (o := S.obj s) _ hs rfl, ?_⟩)), ⟨⟨Tv, ⟨⟨Tv, ⟨(), rfl, ⟨Tq, Tq, Tq, Tq, Tq, Tv⟩, ⟨rfl, rfl, rfl, Tv⟩⟩⟩, Tv⟩⟩, Tv⟩⟩, Tv⟩⟩, ⟨⟨(by repeat (first | exact Tv | refine ⟨rfl, ?_⟩ | refine ⟨za (o := S.obj mb) _ hmb rfl, ?_⟩ | refine ⟨za (o := S.obj s) _ hs rfl, ?_⟩)), ⟨⟨(by repeat (first | exact Tv | refine ⟨rfl, ?_⟩ | refine ⟨za (o := S.obj mb) _ hmb rfl, ?_⟩ | refine ⟨za (o := S.obj s) _ hs rfl, ?_⟩)), ⟨⟨Tv, ⟨⟨Tv, ⟨(), rfl, ⟨Tq, Tq, Tq, Tq, Tq, Tv⟩, ⟨rfl, rfl, rfl, Tv⟩⟩⟩, Tv⟩⟩, Tv⟩⟩, Tv⟩⟩, Tv⟩⟩⟩, ⟨⟨(by repeat (first | exact Tv | refine ⟨rfl, ?_⟩ | refine ⟨za (o := S.obj mb) _ hmb rfl, ?_⟩ | refine ⟨za (o := S.obj s) _ hs rfl, ?_⟩)), ⟨qw _ _ _ ⟨(by repeat (first | exact Tv | refine ⟨rfl, ?_⟩ | refine ⟨za (o := S.obj mb) _ hmb rfl, ?_⟩ | refine ⟨za (o := S.obj s) _ hs rfl, ?_⟩)), ⟨⟨(by repeat (first | exact Tv | refine ⟨rfl, ?_⟩ | refine ⟨za (o := S.obj mb) _ hmb rfl, ?_⟩ | refine ⟨za (o := S.obj s) _ hs rfl, ?_⟩)), ⟨⟨Tv, ⟨⟨Tv, ⟨(), rfl, ⟨Tq, Tq, Tq, Tq, Tq, Tv⟩, ⟨rfl, rfl, rfl, Tv⟩⟩⟩, Tv⟩⟩, Tv⟩⟩, Tv⟩⟩, ⟨⟨(by repeat (first | exact Tv | refine ⟨rfl, ?_⟩ | refine ⟨za (o := S.obj mb) _ hmb rfl, ?_⟩ | refine ⟨za (o := S.obj s) _ hs rfl, ?_⟩)), ⟨qw _ _ _ ⟨(by repeat (first | exact Tv | refine ⟨rfl, ?_⟩ | refine ⟨za (o := S.obj mb) _ hmb rfl, ?_⟩ | refine ⟨za (o := S.obj s) _ hs rfl, ?_⟩)), ⟨⟨Tv, ⟨⟨Tv, ⟨(), rfl, ⟨Tq, Tq, Tq, Tq, Tq, Tv⟩, ⟨rfl, rfl, rfl, Tv⟩⟩⟩, Tv⟩⟩, Tv⟩⟩, Tv⟩⟩, Tv⟩⟩⟩, ⟨⟨(by repeat (first | exact Tv | refine ⟨rfl, ?_⟩ | refine ⟨za (o := S.obj mb) _ hmb rfl, ?_⟩ | refine ⟨za (o := S.obj s) _ hs rfl, ?_⟩)), ⟨qw _ _ _ ⟨(by repeat (first | exact Tv | refine ⟨rfl, ?_⟩ | refine ⟨za (o := S.obj mb) _ hmb rfl, ?_⟩ | refine ⟨za (o := S.obj s) _ hs rfl, ?_⟩)), ⟨⟨(by repeat (first | exact Tv | refine ⟨rfl, ?_⟩ | refine ⟨za (o := S.obj mb) _ hmb rfl, ?_⟩ | refine ⟨za (o := S.obj s) _ hs rfl, ?_⟩)), ⟨⟨Tv, ⟨⟨Tv, ⟨(), rfl, ⟨Tq, Tq, Tq, Tq, Tq, Tv⟩, ⟨rfl, rfl, rfl, Tv⟩⟩⟩, Tv⟩⟩, Tv⟩⟩, Tv⟩⟩, ⟨⟨(by repeat (first | exact Tv | refine ⟨rfl, ?_⟩ | refine ⟨za (o := S.obj mb) _ hmb rfl, ?_⟩ | refine ⟨za (o := S.obj s) _ hs rfl, ?_⟩)), ⟨qw _ _ _ ⟨(by repeat (first | exact Tv | refine ⟨rfl, ?_⟩ | refine ⟨za (o := S.obj mb) _ hmb rfl, ?_⟩ | refine ⟨za (o := S.obj s) _ hs rfl, ?_⟩)), ⟨⟨Tv, ⟨⟨Tv, ⟨(), rfl, ⟨Tq, Tq, Tq, Tq, Tq, Tv⟩, ⟨rfl, rfl, rfl, Tv⟩⟩⟩, Tv⟩⟩, Tv⟩⟩, Tv⟩⟩, Tv⟩⟩⟩, Tv⟩⟩⟩
 rintro _ st' rfl
 refine AWp.of_vc zb ?_
 refine ADraw.of_sched zb (by rfl) (by rfl) zjt (by rfl) ?_
 refine ⟨Kg w.G hm.hg own ho (own : Nat) rfl _ _ ⟨(by repeat (first | exact Tv | refine ⟨rfl, ?_⟩ | refine ⟨optR (optR (optR (za _ (zd _ _ _) rfl))), ?_⟩)), ?_⟩, Tv⟩
 refine z8 ?_
 refine zg (fun c2 => ?_) (fun c2 => ?_)
 rotate_left
 ·have e : u.pos ≠ qf w.G own := fun e => by
   simp only [e, Bool.and_eq_false_iff, beq_eq_false_iff_ne] at c2
   rcases c2 with c2 | c2 | c2
   ·exact c2 rfl
   ·exact c2 rfl
   ·cases c2
  rw [if_pos e] at h
  have h0 := h n N (Nat.le_succ n) hd hK
  rw [hSe] at h0
  exact ret h0
 have e : ¬ u.pos ≠ qf w.G own := fun e => e (by
  simp only [Bool.and_eq_true, beq_iff_eq] at c2
  exact Prod.ext c2.1 c2.2.1)
 rw [if_neg e] at h
 dsimp only at h
 refine ADraw.of_sched zb (by rfl) (by rfl) zjs (by rfl) ?_
 refine za (o := st'.obj mb) _ hmb ?_
 refine za (o := st'.obj mb) _ hmb ?_
 refine za (o := st'.obj s) _ hs ?_
 refine ⟨?_, Tv⟩
 subst hSe
 show ∃ g x, Meets _ _ _ _ g x /\ ACalls _ g [x, _, _, _, _, int u.goal] _ _
 rw [hgo]
 refine hG.waysX hd hK hnM (Fy u.kind) hk goal hgl _ (fun b N2 hd2 hK2 hb2 => ⟨(by repeat (first | exact Tv | refine ⟨rfl, ?_⟩ | refine ⟨optR (optR (optR (za _ (zd _ _ _) rfl))), ?_⟩)), ?_⟩)
 have hmb2 : (X.un N2).obj b = some (.cells (il w.G.T.length (qh w.G (zv w.G w.B (yh u.kind) (x3 u.kind)) (yh u.kind) (xd w.G (zv w.G w.B (yh u.kind) (x3 u.kind)) (yh u.kind) goal)))) := zf hb2
 have h0 := h (n + 1) N2 (Nat.le_refl _) hd2 hK2
 generalize X.un N2 = S2 at *
 have hway := ij w.G (zv w.G w.B (yh u.kind) (x3 u.kind)) (yh u.kind) (xd w.G (zv w.G w.B (yh u.kind) (x3 u.kind)) (yh u.kind) goal) own
 have hhd := kr (f := qh w.G (zv w.G w.B (yh u.kind) (x3 u.kind)) (yh u.kind) (xd w.G (zv w.G w.B (yh u.kind) (x3 u.kind)) (yh u.kind) goal)) ho
 refine ⟨own, rfl, ho, ?_⟩
 refine za (o := S2.obj b) _ hmb2 ?_
 refine za _ hhd ?_
 generalize qh w.G (zv w.G w.B (yh u.kind) (x3 u.kind)) (yh u.kind) (xd w.G (zv w.G w.B (yh u.kind) (x3 u.kind)) (yh u.kind) goal) own = W at *
 refine ⟨⟨Tv, ?_⟩, Tv⟩
 refine bcd (fun c3 => ?_) (fun c3 => ?_)
 ·rw [if_pos c3] at h0
  exact ret h0
 rw [if_neg c3] at h0
 obtain ⟨j, hj, rfl⟩ : ∃ j : Nat, j < 8 /\ W = (j : Int) := by
  rcases hway with h1 | ⟨j, h1, h2, _⟩
  ·omega
  ·exact ⟨j, h1, h2⟩
 rw [Int.toNat_natCast] at h0
 refine Lo w.G hm.hg own ho _ _ ?_
 refine ⟨j, rfl, hj, ?_⟩
 refine za _ (Ot hj) ?_
 exact ret h0
theorem Wx {gv : AV} {F G N : Store} {mb s p : Nat} {w : Wld} {v : AV} {L : List Ent} {o0 o1 o2 : AV} (hW : MoverG gv F G mb s p w v L o0 o1 o2) (hd : zi (F.un (svS G s w v o0 o1 o2 p)) N) (hm : MayF w) (hn : ∀ u ∈ w.U, u.pos.ok) {i : Nat} (hi : i < w.U.length) (u : Unt) (hid : w.U[i].id = u.id) (hp : u.pos.ok) (R : AV -> Store -> Prop)
  (h : ∀ F' G' L', MoverG gv F' G' mb s p (ya w u) v L' o0 o1 o2 -> zi (F'.un (svS G' s (ya w u) v o0 o1 o2 p)) N -> R (.tup []) ((F'.un (svS G' s (ya w u) v o0 o1 o2 p)).un N)) : ACalls Tryz.prog 95 [ptr s, .agg (ze u)] ((F.un (svS G s w v o0 o1 o2 p)).un N) R := by
 refine ACalls.frame hd (N9 hW hm hn hi u hid hp (fun r S => ∃ F' G' L', MoverG gv F' G' mb s p (ya w u) v L' o0 o1 o2 /\ S = F'.un (svS G' s (ya w u) v o0 o1 o2 p) /\ r = .tup []) (fun F' G' L' h => ⟨F', G', L', h, rfl, rfl⟩)) ?_
 rintro r a' ⟨F', G', L', h1, rfl, rfl⟩ hd2
 exact h F' G' L' h1 hd2
theorem Pf {gv : AV} {F G N : Store} {mb s p : Nat} {w : Wld} {v : AV} {L : List Ent} {o0 o1 o2 : AV} (hW : MoverG gv F G mb s p w v L o0 o1 o2) (hd : zi (F.un (svS G s w v o0 o1 o2 p)) N) (hm : MayF w) (hn : ∀ u ∈ w.U, u.pos.ok) {i : Nat} (hi : i < w.U.length) (u : Unt) (hid : w.U[i].id = u.id) (hp : u.pos.ok) (z : Int) (R : AV -> Store -> Prop)
  (h : ∀ F' G' L', MoverG gv F' G' mb s p (ya w (j6 z u)) v L' o0 o1 o2 -> zi (F'.un (svS G' s (ya w (j6 z u)) v o0 o1 o2 p)) N -> R (.tup []) ((F'.un (svS G' s (ya w (j6 z u)) v o0 o1 o2 p)).un N)) : ACalls Tryz.prog 230 [ptr mb, .agg (ze u), int z] ((F.un (svS G s w v o0 o1 o2 p)).un N) R := by
 refine ACalls.frame hd (zr0 hW hm hn hi u hid hp z (fun r S => ∃ F' G' L', MoverG gv F' G' mb s p (ya w (j6 z u)) v L' o0 o1 o2 /\ S = F'.un (svS G' s (ya w (j6 z u)) v o0 o1 o2 p) /\ r = .tup []) (fun F' G' L' h => ⟨F', G', L', h, rfl, rfl⟩)) ?_
 rintro r a' ⟨F', G', L', h1, rfl, rfl⟩ hd2
 exact h F' G' L' h1 hd2
theorem lw {gv : AV} {F G N : Store} {mb s p : Nat} {w : Wld} {v : AV} {L : List Ent} {o0 o1 o2 : AV} (hW : MoverG gv F G mb s p w v L o0 o1 o2) (hd : zi (F.un (svS G s w v o0 o1 o2 p)) N) (hm : MayF w) (hn : ∀ u ∈ w.U, u.pos.ok) {i : Nat} (hi : i < w.U.length) (d : Vc) (hdv : d.ok) (R : AV -> Store -> Prop)
  (h : ∀ F' G' L' q0 q1 q2, MoverG gv F' G' mb s p (yq w w.U[i] d) v L' q0 q1 q2 -> zi (F'.un (svS G' s (yq w w.U[i] d) v q0 q1 q2 p)) N -> R (int (qt w w.U[i] d)) ((F'.un (svS G' s (yq w w.U[i] d) v q0 q1 q2 p)).un N)) : ACalls Tryz.prog 52 [ptr mb, .agg (ze w.U[i]), .agg (zk d)] ((F.un (svS G s w v o0 o1 o2 p)).un N) R := by
 refine ACalls.frame hd (R3 hW hm hn hi d hdv (fun r S => ∃ F' G' L' q0 q1 q2, MoverG gv F' G' mb s p (yq w w.U[i] d) v L' q0 q1 q2 /\ S = F'.un (svS G' s (yq w w.U[i] d) v q0 q1 q2 p) /\ r = int (qt w w.U[i] d)) (fun F' G' L' q0 q1 q2 h => ⟨F', G', L', q0, q1, q2, h, rfl, rfl⟩)) ?_
 rintro r a' ⟨F', G', L', q0, q1, q2, h1, rfl, rfl⟩ hd2
 exact h F' G' L' q0 q1 q2 h1 hd2
theorem zpv {gv : AV} {F G N : Store} {mb s p : Nat} {w : Wld} {v : AV} {L : List Ent} {o0 o1 o2 : AV} (hW : MoverG gv F G mb s p w v L o0 o1 o2) (hd : zi (F.un (svS G s w v o0 o1 o2 p)) N) (hm : MayF w) (hn : ∀ u ∈ w.U, u.pos.ok) (hmap : ∀ u ∈ w.U, u.inn = 0 -> qj u.pos) {i : Nat} (hi : i < w.U.length) (h0 : w.U[i].inn = 0) (R : AV -> Store -> Prop)
  (h : ∀ F' G' L' q0 q1 q2, MoverG gv F' G' mb s p (Ag w w.U[i]) v L' q0 q1 q2 -> zi (F'.un (svS G' s (Ag w w.U[i]) v q0 q1 q2 p)) N -> R (.tup []) ((F'.un (svS G' s (Ag w w.U[i]) v q0 q1 q2 p)).un N)) : ACalls Tryz.prog 151 [ptr mb, .agg (ze w.U[i])] ((F.un (svS G s w v o0 o1 o2 p)).un N) R := by
 refine ACalls.frame hd (zpu hW hm hn hmap hi h0 (fun r S => ∃ F' G' L' q0 q1 q2, MoverG gv F' G' mb s p (Ag w w.U[i]) v L' q0 q1 q2 /\ S = F'.un (svS G' s (Ag w w.U[i]) v q0 q1 q2 p) /\ r = .tup []) (fun F' G' L' q0 q1 q2 h => ⟨F', G', L', q0, q1, q2, h, rfl, rfl⟩)) ?_
 rintro r a' ⟨F', G', L', q0, q1, q2, h1, rfl, rfl⟩ hd2
 exact h F' G' L' q0 q1 q2 h1 hd2
set_option maxHeartbeats 4000000 in
set_option maxRecDepth 20000 in
theorem zqs {gt : TypeId} {gx : Value} {K : Nat -> Store -> Prop} {M n : Nat} {w : Wld} (hG : GuideK gt gx K M w) (hnM : n < M) {F G N : Store} {mb s p : Nat} {v : AV} {L : List Ent} {o0 o1 o2 : AV} (hW : MoverG (gvOf gt gx) F G mb s p w v L o0 o1 o2) (hd : zi (F.un (svS G s w v o0 o1 o2 p)) N) (hK : K n N) (hmay : yg w) (hn : ∀ u ∈ w.U, u.pos.ok) {i : Nat} (hi : i < w.U.length) (h0 : w.U[i].inn = 0) (hgo : w.U[i].goal ≠ -1) (R : AV -> Store -> Prop)
  (h : ∀ F' G' L' q0 q1 q2 n2 N2, n2 <= n + 1 -> MoverG (gvOf gt gx) F' G' mb s p (Ds w w.U[i]) v L' q0 q1 q2 -> zi (F'.un (svS G' s (Ds w w.U[i]) v q0 q1 q2 p)) N2 -> K n2 N2 -> R (.tup []) ((F'.un (svS G' s (Ds w w.U[i]) v q0 q1 q2 p)).un N2)) :
  ACalls Tryz.prog 152 [ptr mb, .agg (ze w.U[i])] ((F.un (svS G s w v o0 o1 o2 p)).un N) R := by
 have hm := vt hmay
 have hut := la hmay hi
 have hon := Wk hmay hi h0
 have hown := zne hmay hi h0
 have hmp := Ob hmay (List.getElem_mem hi) h0
 obtain ⟨goal, hgq, hgl⟩ : ∃ k : Nat, w.U[i].goal = k /\ k < w.G.T.length := by
  rcases Mw hm.hg hut.2.1.1 with h1 | h1
  ·exact absurd h1 hgo
  ·exact h1
 have hnx := Mw hm.hg hut.2.1.2.1
 have hstk := hut.2.1.2.2
 have hnt := zn1 (w := w) hm.hg (u := w.U[i]) hown
 have hgoes : Ds w w.U[i] = if w.U[i].pos = qf w.G goal then ya w (j6 2 w.U[i]) else if Dk w w.U[i] (ja w.G w.U[i].pos) then (if Bd w w.U[i] (ja w.G w.U[i].pos) < 0 then ya w (j6 3 w.U[i]) else Bx w { w.U[i] with next := Bd w w.U[i] (ja w.G w.U[i].pos) }) else Bx w w.U[i] := by
  have e : w.U[i].goal.toNat = goal := by rw [hgq, Int.toNat_natCast]
  unfold Ds
  rw [e]
 have hlook1 : Dk w w.U[i] (ja w.G w.U[i].pos) = false -> w.U[i].next ≠ -1 := fun hh e => by
  unfold Dk at hh
  rw [decide_eq_true e] at hh
  simp at hh
 obtain ⟨own, hownE⟩ : ∃ own, ja w.G w.U[i].pos = own := ⟨_, rfl⟩
 rw [hownE] at hown hnt hgoes hlook1
 refine ACalls.of_awp (c := cfg 84) zb Tryz.func152 (by rfl) (by rfl) (by rfl) (by rfl) ?_
 refine AWp.seq (AWp.of_vc zb ?_)
 refine AWp.seq (AWp.of_vc zb ?_)
 refine za (o := ((F.un (svS G s w v o0 o1 o2 p)).un N).obj mb) _ (y3 hd hW.m) ?_
 refine za (o := ((F.un (svS G s w v o0 o1 o2 p)).un N).obj s) _ (y3 hd hW.s) ?_
 refine AWp.seq (AWp.of_vc zb ?_)
 refine ADraw.of_sched zb (by rfl) (by rfl) zkd (by rfl) ?_
 refine ⟨Kg w.G hm.hg goal hgl w.U[i].goal hgq _ _ ⟨(by repeat (first | exact Tv | refine ⟨rfl, ?_⟩ | refine ⟨optR (optR (optR (za _ (zd _ _ _) rfl))), ?_⟩)), ?_⟩, Tv⟩
 refine zg (fun c1 => ?_) (fun c1 => ?_)
 ·have e : w.U[i].pos = qf w.G goal := by
   simp only [Bool.and_eq_true, beq_iff_eq] at c1
   exact Prod.ext c1.1 c1.2.1
  rw [if_pos e] at hgoes
  rw [hgoes] at h
  refine Pf hW hd hm hn hi w.U[i] rfl (vw hmp) 2 _ (fun F3 G3 L3 hW3 hd3 => ?_)
  exact ret (h F3 G3 L3 o0 o1 o2 n N (Nat.le_succ n) hW3 hd3 hK)
 have e : ¬ w.U[i].pos = qf w.G goal := fun e => by
  simp only [e, Bool.and_eq_false_iff, beq_eq_false_iff_ne] at c1
  rcases c1 with c1 | c1 | c1
  ·exact c1 rfl
  ·exact c1 rfl
  ·cases c1
 rw [if_neg e] at hgoes
 refine AWp.meet (σ := Nat × Nat × Store) ⟨fun q => [(0, .av (ptr mb)), (3, .bx 3 0), (4, .bx 4 0)], fun q => [(3, ze { w.U[i] with next := (q.1 : Int) }), (4, zt w.G)], fun q st' => st' = (F.un (svS G s w v o0 o1 o2 p)).un q.2.2 /\ q.1 < w.G.T.length /\ Ds w w.U[i] = Bx w { w.U[i] with next := (q.1 : Int) } /\ q.2.1 <= n + 1 /\ zi (F.un (svS G s w v o0 o1 o2 p)) q.2.2 /\ K q.2.1 q.2.2⟩ zb ?_ ?_
 ·refine lj w.G hm.hg w.U[i].pos hon _ _ ?_
  rw [hownE]
  refine zo1 hG hd hK hW.m hW.s hm w.U[i] hnx own hown _ (fun N2 hd2 hK2 => ?_)
  refine zg (fun c2 => ?_) (fun c2 => ?_)
  rotate_left
  ·rw [if_neg (by rw [c2]; decide)] at hgoes
   obtain ⟨t, ht, htl⟩ : ∃ k : Nat, w.U[i].next = k /\ k < w.G.T.length := by
    rcases hnx with h1 | h1
    ·exact absurd h1 (hlook1 c2)
    ·exact h1
   have e2 : { w.U[i] with next := (t : Int) } = w.U[i] := by rw [<- ht]
   refine ⟨(t, n, N2), ⟨rfl, htl, by dsimp only; rw [e2]; exact hgoes, Nat.le_succ n, hd2, hK2⟩, ⟨Tq, Tq, Tq, Tv⟩, ⟨?_, rfl, Tv⟩⟩
   dsimp only
   rw [e2]
   rfl
  rw [if_pos c2] at hgoes
  refine zn2 hG hnM hd2 hK2 hW.m hW.s hm w.U[i] goal hgq hgl own hown _ (fun n3 N3 hn3 hd3 hK3 => ?_)
  generalize Bd w w.U[i] own = nx at *
  refine bcd (fun c3 => ?_) (fun c3 => ?_)
  ·rw [if_pos c3] at hgoes
   rw [hgoes] at h
   refine Pf hW hd3 hm hn hi { w.U[i] with next := nx } rfl (vw hmp) 3 _ (fun F3 G3 L3 hW3 hd4 => ?_)
   exact ret (h F3 G3 L3 o0 o1 o2 n3 N3 hn3 hW3 hd4 hK3)
  rw [if_neg c3] at hgoes
  obtain ⟨t, rfl, htl⟩ : ∃ k : Nat, nx = k /\ k < w.G.T.length := by
   rcases Mw hm.hg hnt with h1 | h1
   ·omega
   ·exact h1
  exact ⟨(t, n3, N3), ⟨rfl, htl, hgoes, hn3, hd3, hK3⟩, ⟨Tq, Tq, Tq, Tv⟩, ⟨rfl, rfl, Tv⟩⟩
 clear hd hK
 rintro ⟨t, n2, N2⟩ st' ⟨rfl, htl, hgoes, hn2, hd, hK⟩
 dsimp only at htl hgoes hn2 hd hK ⊢
 rw [hgoes] at h
 have hid : ({ w.U[i] with next := (t : Int), stuck := 0 } : Unt).id = w.U[i].id := rfl
 have hmay1 : yg (ya w { w.U[i] with next := (t : Int), stuck := 0 }) := zow hmay hi h0 rfl (lc hut hgo (Mv hm.hg htl) (by omega))
 obtain ⟨hi1, he1⟩ := V7 hm.hr hi hid
 have hn1 : ∀ x ∈ (ya w { w.U[i] with next := (t : Int), stuck := 0 }).U, x.pos.ok := fun x hx => by
  obtain ⟨j, hj, rfl⟩ := List.getElem_of_mem hx
  rw [V6] at hj
  by_cases hji : j = i
  ·subst hji
   rw [he1]
   exact vw hmp
  ·rw [zmz hm.hr hi hid hj hji]
   exact hn _ (List.getElem_mem hj)
 have hks := Sv w.U[i].kind
 have hcm := ztl hm.hg htl
 have hway := Ij hmp hcm
 unfold Bx at h
 dsimp only at h
 rw [Int.toNat_natCast] at h
 have hpp : ∀ x : Unt, x.id = w.U[i].id -> ya (ya w { w.U[i] with next := (t : Int), stuck := 0 }) x = ya w x := fun x hx => zmy w hx.symm
 refine AWp.of_vc zb ?_
 refine ADraw.of_sched zb (by rfl) (by rfl) zkg (by rfl) ?_
 refine za (o := ((F.un (svS G s w v o0 o1 o2 p)).un N2).obj mb) _ (y3 hd hW.m) ?_
 refine ⟨Wx hW hd hm hn hi { w.U[i] with next := (t : Int), stuck := 0 } rfl (vw hmp) _ (fun F1 G1 L1 hW1 hd1 => ⟨Tv, ?_⟩), Tv⟩
 generalize hw1 : ya w { w.U[i] with next := (t : Int), stuck := 0 } = w1 at *
 have hm1 := vt hmay1
 have hG1 : w1.G = w.G := by rw [<- hw1]; rfl
 have htry := lw hW1 hd1 hm1 hn1 hi1
 rw [he1] at htry
 refine ADraw.of_sched zb (by rfl) (by rfl) zkf (by rfl) ?_
 refine ⟨Kg w.G hm.hg t htl (t : Nat) rfl _ _ ⟨(by repeat (first | exact Tv | refine ⟨rfl, ?_⟩ | refine ⟨optR (optR (optR (za _ (zd _ _ _) rfl))), ?_⟩)), ?_⟩, Tv⟩
 refine ⟨qw _ _ _ ⟨(by repeat (first | exact Tv | refine ⟨rfl, ?_⟩ | refine ⟨optR (optR (optR (za _ (zd _ _ _) rfl))), ?_⟩)), ?_⟩, Tv⟩
 refine ⟨l0 w.U[i].pos (qf w.G t) (kp w.U[i].kind) hmp hcm (by omega) _ _ ⟨(by repeat (first | exact Tv | refine ⟨rfl, ?_⟩ | refine ⟨optR (optR (optR (za _ (zd _ _ _) rfl))), ?_⟩)), ?_⟩, Tv⟩
 refine ⟨htry (Ip w.U[i].pos (qf w.G t) (kp w.U[i].kind)) (Rs hway) _ (fun F2 G2 L2 a0 a1 a2 hW2 hd2 => ⟨(by repeat (first | exact Tv | refine ⟨rfl, ?_⟩ | refine ⟨optR (optR (optR (za _ (zd _ _ _) rfl))), ?_⟩)), ?_⟩), Tv⟩
 refine bcd (fun c4 => ?_) (fun c4 => ?_)
 ·rw [if_pos c4] at h
  exact ret (h F2 G2 L2 a0 a1 a2 n2 N2 hn2 hW2 hd2 hK)
 rw [if_neg c4] at h
 rw [lu c4] at hW2 hd2 ⊢
 refine zc (v := w.U[i].stuck + 1) (by omega) ?_
 refine yp (fun c5 => ?_) (fun c5 => ?_)
 ·rw [if_pos c5] at h
  refine Pf hW2 hd2 hm1 hn1 hi1 { w.U[i] with next := -1, stuck := w.U[i].stuck + 1 } (by rw [he1]) (vw hmp) 4 _ (fun F3 G3 L3 hW3 hd3 => ?_)
  have e3 := hpp (j6 4 { w.U[i] with next := -1, stuck := w.U[i].stuck + 1 }) rfl
  rw [e3] at hW3 hd3 ⊢
  exact ret (h F3 G3 L3 a0 a1 a2 n2 N2 hn2 hW3 hd3 hK)
 rw [if_neg c5] at h
 refine ADraw.of_sched zb (by rfl) (by rfl) zke (by rfl) ?_
 refine za (o := ((F2.un (svS G2 s w1 v a0 a1 a2 p)).un N2).obj mb) _ (y3 hd2 hW2.m) ?_
 refine ⟨Wx hW2 hd2 hm1 hn1 hi1 { w.U[i] with next := -1, stuck := w.U[i].stuck + 1 } (by rw [he1]) (vw hmp) _ (fun F3 G3 L3 hW3 hd3 => ⟨Tv, ?_⟩), Tv⟩
 have e3 := hpp { w.U[i] with next := -1, stuck := w.U[i].stuck + 1 } rfl
 rw [e3] at hW3 hd3 ⊢
 exact ret (h F3 G3 L3 a0 a1 a2 n2 N2 hn2 hW3 hd3 hK)
theorem li {gt : TypeId} {gx : Value} {K : Nat -> Store -> Prop} {M n : Nat} {w : Wld} (hG : GuideK gt gx K M w) (hnM : n < M) {F G N : Store} {mb s p : Nat} {v : AV} {L : List Ent} {o0 o1 o2 : AV} (hW : MoverG (gvOf gt gx) F G mb s p w v L o0 o1 o2) (hd : zi (F.un (svS G s w v o0 o1 o2 p)) N) (hK : K n N) (hmay : yg w) (hn : ∀ u ∈ w.U, u.pos.ok) {i : Nat} (hi : i < w.U.length) (h0 : w.U[i].inn = 0) (R : AV -> Store -> Prop)
  (h : ∀ F' G' L' q0 q1 q2 n2 N2, n2 <= n + 1 -> MoverG (gvOf gt gx) F' G' mb s p (kl w w.U[i]) v L' q0 q1 q2 -> zi (F'.un (svS G' s (kl w w.U[i]) v q0 q1 q2 p)) N2 -> K n2 N2 -> R (.tup []) ((F'.un (svS G' s (kl w w.U[i]) v q0 q1 q2 p)).un N2)) :
  ACalls Tryz.prog 98 [ptr mb, .agg (ze w.U[i])] ((F.un (svS G s w v o0 o1 o2 p)).un N) R := by
 unfold kl at h
 refine ACalls.of_body (c := cfg 13) zb Tryz.func98 (by rfl) (by rfl) (by rfl) (by rfl) ?_
 refine yp (fun c1 => ?_) (fun c1 => ?_)
 ·rw [if_pos c1] at h
  exact zpv hW hd (vt hmay) hn (fun u hu h1 => Ob hmay hu h1) hi h0 _ (fun F3 G3 L3 a0 a1 a2 hW3 hd3 => ret (h F3 G3 L3 a0 a1 a2 n N (Nat.le_succ n) hW3 hd3 hK))
 ·rw [if_neg c1] at h
  exact zqs hG hnM hW hd hK hmay hn hi h0 c1 _ (fun F3 G3 L3 a0 a1 a2 n2 N2 hn2 hW3 hd3 hK3 => ret (h F3 G3 L3 a0 a1 a2 n2 N2 hn2 hW3 hd3 hK3))
end Go.Proofs
