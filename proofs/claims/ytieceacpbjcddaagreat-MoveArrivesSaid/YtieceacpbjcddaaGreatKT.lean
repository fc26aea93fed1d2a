/- Ground of laws of thronglaw24: contracts and plain lemmas; no condition beyond the row's own. -/
import Derived.Test.YtieceacpbjcddaaGreatKS
import Derived.Test.YtieceacpbjcddaaGreatKR
import Derived.Test.YtieceacpbjcddaaGreatKK
set_option linter.unusedSimpArgs false
set_option linter.unusedVariables false
set_option linter.defProp false
namespace Go.Proofs
open Go Go.V
set_option maxRecDepth 4000
set_option maxRecDepth 20000 in
theorem W1 (g : Gnd) (x y : Int) (st : Store) (R : AV -> Store -> Prop) (h : ∀ z : Bool, (z = true ↔ onG g x y) -> R (bool z) st) : ACalls Tryz.prog 315 [.agg (zr g), int x, int y] st R := by
 refine ACalls.of_body (c := cfg 25) zb Tryz.func315 (by rfl) (by rfl) (by rfl) (by rfl) ?_
 repeat' (first | refine bcd (fun _ => ?_) (fun _ => ?_) | refine zh (fun _ => ?_) (fun _ => ?_) | refine zc (by omega) ?_ | fail)
 all_goals
  refine ret (h _ ?_)
  unfold onG
  simp only [decide_eq_true_eq, decide_eq_false_iff_not, Bool.false_eq_true, false_iff, true_iff, beq_iff_eq, bne_iff_ne, beq_eq_false_iff_ne, ne_eq, reduceCtorEq] at *
  omega
theorem min2_eq (a b : Int) : min2 a b = min a b := by
 unfold min2
 by_cases h : b < a
 ·rw [decide_eq_true h]; show b = _; omega
 ·rw [decide_eq_false h]; show a = _; omega
theorem Ws (g : Gnd) (hg : zi g) (f : Nat -> Int) (hf : ∀ t, t < g.T.length -> 0 <= f t /\ f t <= 128) (t : Nat) (ht : t < g.T.length) (ws : List (Int × Int)) (hw : ∀ d ∈ ws, (d.1 ≠ 0 \/ d.2 ≠ 0) /\ (-1 <= d.1 /\ d.1 <= 1) /\ (-1 <= d.2 /\ d.2 <= 1)) (hwl : ws.length <= 100) (b : Nat) (st : Store) (R : AV -> Store -> Prop)
  (h : R (.tup []) (st.setObj b (.cells (il g.T.length (Fp g f ws t))))) : ACalls Tryz.prog 379 [.agg (zr g), blV b g.T.length, int t, lst 2 Di ws] (st.setObj b (.cells (il g.T.length f))) R := by
 have hm := yw hg
 have htb := wo hg (t := t) (by omega)
 have hq := Cg (t := t) hg.1.1
 have hq2 := Ch (t := t) hg.1.1
 have hg1 := hg.1
 have hg2 := hg.2.1
 unfold Fp at h
 have hx : ∃ x, x = (t : Int) % g.W := ⟨_, rfl⟩
 have hy : ∃ y, y = (t : Int) / g.W := ⟨_, rfl⟩
 obtain ⟨x, hx⟩ := hx
 obtain ⟨y, hy⟩ := hy
 rw [<- hx, <- hy] at h htb
 rw [<- hx] at hq
 rw [<- hy] at hq2
 refine ACalls.of_body (c := cfg 63) zb Tryz.func379 (by rfl) (by rfl) (by rfl) (by rfl) ?_
 refine ADraw.of_sched zb (by rfl) (by rfl) zls (by rfl) ?_
 refine ⟨by omega, ?_⟩
 refine ⟨by omega, ?_⟩
 refine zc (by omega) ?_
 refine ⟨⟨(by repeat (first | exact Tv | refine ⟨rfl, ?_⟩ | refine ⟨optR (optR (optR (za _ (zd _ _ _) rfl))), ?_⟩)), ?_⟩, Tv⟩
 refine ⟨⟨Tv, ?_⟩, Tv⟩
 refine AWp.loop (σ := Nat) ⟨fun i => [(1, .av (blV b g.T.length)), (2, .av (int (t : Nat))), (4, .bx 4 0), (8, .av (int x)), (9, .av (int y)), (21, .av (lst 2 Di ws)), (22, .av (int (ws.length : Nat))), (23, .av (int (i : Nat)))], fun _ => [(4, zr g)],
  fun i st' => i <= ws.length /\ st' = st.setObj b (.cells (il g.T.length (setI f t (jt g f x y (f t) (ws.take i))))), fun i => ws.length - i⟩ zb ?_ ?_
 ·refine ⟨0, Tv, ⟨Nat.zero_le _, ?_⟩, ⟨Tq, Tq, Tq, ?_, ?_, Tq, ?_, Tq, Tv⟩, ⟨rfl, Tv⟩⟩
  ·rw [List.take_zero]
   show _ = st.setObj b (.cells (il g.T.length (setI f t (f t))))
   rw [zk0]
  ·rw [<- hq]; exact Tq
  ·rw [<- hq2]; exact Tq
  ·rw [<- zl (f := Di) ws]; exact Tq
 rintro i st' ⟨hi, rfl⟩
 refine bcd (fun h1 => ?_) (fun h1 => ?_)
 rotate_left
 ·have : i = ws.length := by omega
  subst this
  rw [List.take_length]
  exact ret h
 have hlt : i < ws.length := by omega
 have hd := hw _ (List.getElem_mem hlt)
 have hv := Oh hg hf x y (ws.take i) (f t) (hf t ht)
 have hsn := zpp g f x y (f t) ws hlt
 have hgs := zsp hg f (t := t) (jt g f x y (f t) (ws.take i)) hd.1
 rw [<- hx, <- hy] at hgs
 generalize hV : jt g f x y (f t) (ws.take i) = V0 at *
 have ho : (st.setObj b (.cells (il g.T.length (setI f t V0)))).obj b = some (.cells (il g.T.length (setI f t V0))) := zd _ _ _
 refine ⟨i, rfl, za _ (zn hlt) ?_⟩
 refine ⟨0, rfl, by decide, ?_⟩
 refine zc (by omega) ?_
 refine ⟨1, rfl, by decide, ?_⟩
 refine zc (by omega) ?_
 refine W1 g (x + ws[i].1) (y + ws[i].2) _ _ (fun z hz => ?_)
 have hgv := dj hg hf (x + ws[i].1) (y + ws[i].2)
 have fin : min V0 (gv g f (x + ws[i].1) (y + ws[i].2) + 1) = jt g f x y (f t) (ws.take (i + 1)) := hsn.symm
 refine zh (fun c1 => ?_) (fun c1 => ?_)
 ·have hon := hz.1 c1
  obtain ⟨e1, e2, e3, e4⟩ := j1 hg hon
  have hpos : 0 <= g.W * (y + ws[i].2) := Int.mul_nonneg (by omega) (by have := hon.2.1; omega)
  have hval : setI f t V0 (tl g (x + ws[i].1) (y + ws[i].2)) = gv g f (x + ws[i].1) (y + ws[i].2) := by
   rw [<- hgs]; unfold gv; rw [if_pos hon]
  refine ⟨0, rfl, by decide, ?_⟩
  refine zc (by omega) ?_
  refine ⟨1, rfl, by decide, ?_⟩
  refine zc (by omega) ?_
  refine zc (by omega) ?_
  refine zc (by omega) ?_
  refine ⟨tl g (x + ws[i].1) (y + ws[i].2), e1.symm, e2, ?_⟩
  refine za _ ho (za _ (jh e2) ?_)
  rw [hval]
  refine ⟨t, rfl, ht, ?_⟩
  refine za _ ho (za _ (jh ht) ?_)
  rw [Fy]
  refine zc (by omega) ?_
  refine ⟨t, rfl, ht, ?_⟩
  refine y7 (i := ti3) (v := int (min2 V0 (gv g f (x + ws[i].1) (y + ws[i].2) + 1))) (b := b) (o := 0 + t * 1) (l := il g.T.length (setI f t V0)) (st2 := st.setObj b (.cells (il g.T.length (setI f t (jt g f x y (f t) (ws.take (i + 1))))))) rfl rfl rfl ho (by rw [y9]; omega) ?_ ?_
  ·rw [yx, show 0 + t * 1 = t by omega, Bp ht, Nt, min2_eq, fin]
  refine zc (by omega) ?_
  refine ⟨i + 1, ?_, ⟨by omega, rfl⟩, ⟨Tq, Tq, Tq, Tq, Tq, Tq, Tq, Tq, Tv⟩, ⟨rfl, Tv⟩⟩
  show ws.length - (i + 1) < ws.length - i
  omega
 ·have hoff : ¬ onG g (x + ws[i].1) (y + ws[i].2) := fun hh => by have := hz.2 hh; rw [this] at c1; cases c1
  have hz0 : gv g f (x + ws[i].1) (y + ws[i].2) = 0 := if_neg hoff
  rw [hz0] at fin
  refine ⟨t, rfl, ht, ?_⟩
  refine za _ ho (za _ (jh ht) ?_)
  rw [Fy]
  refine zc (by omega) ?_
  refine ⟨t, rfl, ht, ?_⟩
  refine y7 (i := ti3) (v := int (min2 V0 (0 + 1))) (b := b) (o := 0 + t * 1) (l := il g.T.length (setI f t V0)) (st2 := st.setObj b (.cells (il g.T.length (setI f t (jt g f x y (f t) (ws.take (i + 1))))))) rfl rfl rfl ho (by rw [y9]; omega) ?_ ?_
  ·rw [yx, show 0 + t * 1 = t by omega, Bp ht, Nt, min2_eq, fin]
  refine zc (by omega) ?_
  refine ⟨i + 1, ?_, ⟨by omega, rfl⟩, ⟨Tq, Tq, Tq, Tq, Tq, Tq, Tq, Tq, Tv⟩, ⟨rfl, Tv⟩⟩
  show ws.length - (i + 1) < ws.length - i
  omega
def kn (o : Nat -> Bool) (t : Nat) : Int := if o t then 128 else 0
def vw (o : Nat -> Bool) (i t : Nat) : Int := if t < i then kn o t else 0
theorem Wy (o : Nat -> Bool) (n : Nat) : ∀ t, t < n -> 0 <= kn o t /\ kn o t <= 128 := fun t _ => by unfold kn; split <;> decide
def Wa (g : Gnd) (l : List Bld) (c : Int) : AV := lst 1 yn (ilL g.T.length (wu g (z6 g l c)))
theorem zn0 (g : Gnd) (hg : zi g) (l : List Bld) (hl : l.length <= 1000000000000) (hb : ∀ b ∈ l, yc b /\ onP g b) (c : Int) (st : Store) (R : AV -> Store -> Prop) (h : R (Wa g l c) st) :
  ACalls Tryz.prog 337 [.agg (zr g), lst 6 zz l, int c] st R := by
 have ha := yw hg
 have fwd_ok : ∀ d ∈ Gj, (d.1 ≠ 0 \/ d.2 ≠ 0) /\ (-1 <= d.1 /\ d.1 <= 1) /\ (-1 <= d.2 /\ d.2 <= 1) := by decide
 have bwd_ok : ∀ d ∈ Fc, (d.1 ≠ 0 \/ d.2 ≠ 0) /\ (-1 <= d.1 /\ d.1 <= 1) /\ (-1 <= d.2 /\ d.2 <= 1) := by decide
 refine ACalls.of_awp (c := cfg 63) zb Tryz.func337 (by rfl) (by rfl) (by rfl) (by rfl) ?_
 refine AWp.seq (AWp.of_vc zb ?_)
 refine AWp.seq (AWp.of_vc zb ?_)
 refine vm rfl (it := ti29) (ie := ti3) rfl rfl rfl rfl rfl (n := (rws u8C g.T).length) ?_ ?_ (fun b hf => ?_)
 ·rw [zl]; show 8 * _ <= _; omega
 ·rw [zl]; omega
 rw [zl, Kz]
 refine AWp.meetA (σ := Unit) ⟨fun _ => [(3, .bx 3 0), (7, .av (blV b g.T.length))], fun _ => [(3, zr g)], fun _ st' => st' = st.setObj b (.cells (il g.T.length (kn (z6 g l c))))⟩ ?_ ?_
 ·refine AWp.of_vc zb ?_
  refine D9 g hg l hl hb c _ _ ?_
  refine AWp.loop (σ := Nat) ⟨fun i => [(3, .bx 3 0), (7, .av (blV b g.T.length)), (19, .av (opV g l c)), (20, .av (int (g.T.length : Nat))), (21, .av (int (i : Nat)))], fun _ => [(3, zr g)],
   fun i st' => i <= g.T.length /\ st' = st.setObj b (.cells (il g.T.length (vw (z6 g l c) i))), fun i => g.T.length - i⟩ zb ?_ ?_
  ·refine ⟨0, Tv, ⟨Nat.zero_le _, ?_⟩, ⟨Tq, Tq, Tq, ?_, Tq, Tv⟩, ⟨rfl, Tv⟩⟩
   ·rw [show vw (z6 g l c) 0 = fun _ => 0 from funext fun t => if_neg (Nat.not_lt_zero t)]
   ·show LV.le (.av (int ((rws xi (blL g.T.length (z6 g l c))).length : Nat))) (.av (int (g.T.length : Nat)))
    rw [zl, qq]; exact Tq
  rintro i st' ⟨hi, rfl⟩
  refine bcd (fun h1 => ?_) (fun h1 => ?_)
  rotate_left
  ·have : i = g.T.length := by omega
   subst this
   refine ⟨(), ?_, ⟨Tq, Tq, Tv⟩, ⟨rfl, Tv⟩⟩
   show st.setObj b (.cells (il g.T.length (vw (z6 g l c) g.T.length))) = st.setObj b (.cells (il g.T.length (kn (z6 g l c))))
   rw [D5 (f := vw (z6 g l c) g.T.length) (g := kn (z6 g l c)) fun t ht => if_pos ht]
  have hlt : i < g.T.length := by omega
  have ho : (st.setObj b (.cells (il g.T.length (vw (z6 g l c) i)))).obj b = some (.cells (il g.T.length (vw (z6 g l c) i))) := zd _ _ _
  have hlt2 : i < (blL g.T.length (z6 g l c)).length := by rw [qq]; exact hlt
  have s2 : ∀ s, s ≠ i -> vw (z6 g l c) (i + 1) s = vw (z6 g l c) i s := fun s hs => by
   unfold vw
   by_cases h3 : s < i
   ·rw [if_pos h3, if_pos (by omega)]
   ·rw [if_neg h3, if_neg (by omega)]
  have s1 : vw (z6 g l c) (i + 1) i = kn (z6 g l c) i := if_pos (by omega)
  refine ⟨i, rfl, za _ (zn hlt2) ?_⟩
  refine zh (fun c1 => ?_) (fun c1 => ?_)
  ·rw [kr hlt] at c1
   refine ⟨i, rfl, hlt, ?_⟩
   refine y7 (i := ti3) (v := int 128) (b := b) (o := 0 + i * 1) (l := _) (st2 := st.setObj b (.cells (il g.T.length (vw (z6 g l c) (i + 1))))) rfl rfl rfl ho (by rw [y9]; omega) ?_ ?_
   ·rw [yx, show 0 + i * 1 = i by omega, <- dc hlt _ s2, s1]
    unfold kn
    rw [if_pos c1]
   refine zc (by omega) ?_
   refine ⟨i + 1, ?_, ⟨by omega, rfl⟩, ⟨Tq, Tq, Tq, Tq, Tq, Tv⟩, ⟨rfl, Tv⟩⟩
   show g.T.length - (i + 1) < g.T.length - i
   omega
  ·rw [kr hlt] at c1
   refine zc (by omega) ?_
   refine ⟨i + 1, ?_, ⟨by omega, ?_⟩, ⟨Tq, Tq, Tq, Tq, Tq, Tv⟩, ⟨rfl, Tv⟩⟩
   ·show g.T.length - (i + 1) < g.T.length - i
    omega
   ·refine congrArg (fun f => st.setObj b (.cells (il g.T.length f))) (funext fun s => ?_)
    by_cases h3 : s = i
    ·subst h3
     rw [s1]
     unfold kn vw
     rw [if_neg (by omega), if_neg (by rw [c1]; decide)]
    ·exact (s2 s h3).symm
 rintro _ _ rfl
 refine AWp.meetA (σ := Unit) ⟨fun _ => [(3, .bx 3 0), (7, .av (blV b g.T.length))], fun _ => [(3, zr g)], fun _ st' => st' = st.setObj b (.cells (il g.T.length (jq g (kn (z6 g l c)) g.T.length)))⟩ ?_ ?_
 ·refine AWp.of_vc zb ?_
  refine AWp.loop (σ := Nat) ⟨fun i => [(3, .bx 3 0), (7, .av (blV b g.T.length)), (32, .av (int (g.T.length : Nat))), (33, .av (int (i : Nat)))], fun _ => [(3, zr g)],
   fun i st' => i <= g.T.length /\ st' = st.setObj b (.cells (il g.T.length (jq g (kn (z6 g l c)) i))), fun i => g.T.length - i⟩ zb ?_ ?_
  ·exact ⟨0, Tv, ⟨Nat.zero_le _, rfl⟩, ⟨Tq, Tq, Tq, Tq, Tv⟩, ⟨rfl, Tv⟩⟩
  rintro i st' ⟨hi, rfl⟩
  refine bcd (fun h1 => ?_) (fun h1 => ?_)
  rotate_left
  ·have : i = g.T.length := by omega
   subst this
   exact ⟨(), rfl, ⟨Tq, Tq, Tv⟩, ⟨rfl, Tv⟩⟩
  have hlt : i < g.T.length := by omega
  refine ⟨by decide, ?_⟩
  refine Ws g hg (jq g (kn (z6 g l c)) i) (Nf hg (Wy _ _) i hi) i hlt Gj fwd_ok (by decide) b _ _ ?_
  refine zc (by omega) ?_
  refine ⟨i + 1, ?_, ⟨by omega, rfl⟩, ⟨Tq, Tq, Tq, Tq, Tv⟩, ⟨rfl, Tv⟩⟩
  show g.T.length - (i + 1) < g.T.length - i
  omega
 rintro _ _ rfl
 have hbA := Nf hg (Wy (z6 g l c) g.T.length) g.T.length (Nat.le_refl _)
 have hroom : wu g (z6 g l c) = k5 g (jq g (kn (z6 g l c)) g.T.length) g.T.length g.T.length := rfl
 generalize jq g (kn (z6 g l c)) g.T.length = FA at *
 refine AWp.meetA (σ := Unit) ⟨fun _ => [(7, .av (blV b g.T.length))], fun _ => [], fun _ st' => st' = st.setObj b (.cells (il g.T.length (wu g (z6 g l c))))⟩ ?_ ?_
 ·refine AWp.of_vc zb ?_
  refine zc (by omega) ?_
  refine AWp.loop (σ := Nat) ⟨fun j => [(3, .bx 3 0), (7, .av (blV b g.T.length)), (11, .av (int ((g.T.length : Int) - 1 - (j : Nat))))], fun _ => [(3, zr g)],
   fun j st' => j <= g.T.length /\ st' = st.setObj b (.cells (il g.T.length (k5 g FA g.T.length j))), fun j => g.T.length - j⟩ zb ?_ ?_
  ·refine ⟨0, Tv, ⟨Nat.zero_le _, rfl⟩, ⟨Tq, Tq, ?_, Tv⟩, ⟨rfl, Tv⟩⟩
   rw [show (g.T.length : Int) - 1 - ((0 : Nat) : Int) = (g.T.length : Int) - 1 by omega]; exact Tq
  rintro j st' ⟨hj, rfl⟩
  refine bcd (fun h1 => ?_) (fun h1 => ?_)
  rotate_left
  ·have : j = g.T.length := by omega
   subst this
   exact ⟨(), by rw [hroom], ⟨Tq, Tv⟩, Tv⟩
  have hlt : j < g.T.length := by omega
  refine ⟨by decide, ?_⟩
  refine ACalls.le (ys := [.agg (zr g), blV b g.T.length, int ((g.T.length - 1 - j : Nat) : Int), lst 2 Di Fc]) ⟨Tt, Tt, by rw [show (g.T.length : Int) - 1 - (j : Int) = ((g.T.length - 1 - j : Nat) : Int) by omega]; exact Tt, Tt, Tv⟩ ?_
  refine Ws g hg (k5 g FA g.T.length j) (Sw hg hbA j hj) (g.T.length - 1 - j) (by omega) Fc bwd_ok (by decide) b _ _ ?_
  refine zc (by omega) ?_
  refine ⟨j + 1, ?_, ⟨by omega, rfl⟩, ⟨Tq, Tq, ?_, Tv⟩, ⟨rfl, Tv⟩⟩
  ·show g.T.length - (j + 1) < g.T.length - j
   omega
  ·rw [show (g.T.length : Int) - 1 - ((j + 1 : Nat) : Int) = (g.T.length : Int) - 1 - (j : Nat) - 1 by omega]; exact Tq
 rintro _ _ rfl
 refine AWp.freeze (d := 7) (b := b) (k := 1) (n := g.T.length) (cap := g.T.length) (rows := rws yn (ilL g.T.length (wu g (z6 g l c)))) (pad := []) rfl ?_ ?_ ?_ (Nat.le_refl _) ?_ ?_ ?_
 ·rw [List.append_nil, Pe]; exact zd _ _ _
 ·exact hf.2
 ·rw [zl, kp]
 ·intro row hr
  obtain ⟨x, _, rfl⟩ := List.mem_map.1 hr
  rfl
 ·intro row hr y hy
  obtain ⟨x, _, rfl⟩ := List.mem_map.1 hr
  simp [yn] at hy
  exact ⟨_, hy, rfl⟩
 rw [Da hf.1]
 refine AWp.of_vc zb ?_
 exact ret h
def xu (g : Gnd) (l : List Bld) (c s : Int) (i t : Nat) : Bool := if t < i then zf g l c s t else false
theorem zuc (g : Gnd) (hg : zi g) (l : List Bld) (hl : l.length <= 1000000000000) (hb : ∀ b ∈ l, yc b /\ onP g b) (c s : Int) (hs : 0 <= s /\ s <= 3) (st : Store) (R : AV -> Store -> Prop) (h : R (Br g l c s) st) :
  ACalls Tryz.prog 250 [.agg (zr g), lst 6 zz l, int c, int s] st R := by
 have ha := yw hg
 refine ACalls.of_awp (c := cfg 34) zb Tryz.func250 (by rfl) (by rfl) (by rfl) (by rfl) ?_
 refine AWp.seq (AWp.of_vc zb ?_)
 refine AWp.seq (AWp.of_vc zb ?_)
 refine vm rfl (it := ti50) (ie := ti4) rfl rfl rfl rfl rfl (n := (rws u8C g.T).length) ?_ ?_ (fun b hf => ?_)
 ·rw [zl]; show 1 * _ <= _; omega
 ·rw [zl]; omega
 rw [zl, Dd]
 refine AWp.meetA (σ := Unit) ⟨fun _ => [(9, .av (blV b g.T.length))], fun _ => [], fun _ st' => st' = st.setObj b (.cells (bl g.T.length (zf g l c s)))⟩ ?_ ?_
 ·refine AWp.of_vc zb ?_
  refine zn0 g hg l hl hb c _ _ ?_
  refine AWp.loop (σ := Nat) ⟨fun i => [(3, .av (int s)), (9, .av (blV b g.T.length)), (19, .av (Wa g l c)), (20, .av (int (g.T.length : Nat))), (21, .av (int (i : Nat)))], fun _ => [],
   fun i st' => i <= g.T.length /\ st' = st.setObj b (.cells (bl g.T.length (xu g l c s i))), fun i => g.T.length - i⟩ zb ?_ ?_
  ·refine ⟨0, Tv, ⟨Nat.zero_le _, ?_⟩, ⟨Tq, Tq, Tq, ?_, Tq, Tv⟩, Tv⟩
   ·trivial
   ·show LV.le (.av (int ((rws yn (ilL g.T.length (wu g (z6 g l c)))).length : Nat))) (.av (int (g.T.length : Nat)))
    rw [zl, kp]; exact Tq
  rintro i st' ⟨hi, rfl⟩
  refine bcd (fun h1 => ?_) (fun h1 => ?_)
  rotate_left
  ·have : i = g.T.length := by omega
   subst this
   refine ⟨(), ?_, ⟨Tq, Tv⟩, Tv⟩
   show st.setObj b (.cells (bl g.T.length (xu g l c s g.T.length))) = st.setObj b (.cells (bl g.T.length (zf g l c s)))
   rw [Rh (f := xu g l c s g.T.length) (g := zf g l c s) fun t ht => if_pos ht]
  have hlt : i < g.T.length := by omega
  have ho : (st.setObj b (.cells (bl g.T.length (xu g l c s i)))).obj b = some (.cells (bl g.T.length (xu g l c s i))) := zd _ _ _
  have hlt2 : i < (ilL g.T.length (wu g (z6 g l c))).length := by rw [kp]; exact hlt
  have s2 : ∀ q, q ≠ i -> xu g l c s (i + 1) q = xu g l c s i q := fun q hq => by
   unfold xu
   grind
  have s1 : xu g l c s (i + 1) i = zf g l c s i := if_pos (by omega)
  refine ⟨i, rfl, za _ (zn hlt2) ?_⟩
  refine ⟨i, rfl, hlt, ?_⟩
  refine y7 (i := ti4) (v := V.bool (decide (s < (ilL g.T.length (wu g (z6 g l c)))[i]))) (b := b) (o := 0 + i * 1) (l := _) (st2 := st.setObj b (.cells (bl g.T.length (xu g l c s (i + 1))))) rfl rfl rfl ho (by rw [xp]; omega) ?_ ?_
  ·grind[yx,Af,Pf,zs7]
  refine zc (by omega) ?_
  refine ⟨i + 1, ?_, ⟨by omega, rfl⟩, ⟨Tq, Tq, Tq, Tq, Tq, Tv⟩, Tv⟩
  grind
 rintro _ _ rfl
 refine AWp.freeze (d := 9) (b := b) (k := 1) (n := g.T.length) (cap := g.T.length) (rows := rws xi (blL g.T.length (zf g l c s))) (pad := []) rfl ?_ ?_ ?_ (Nat.le_refl _) ?_ ?_ ?_
 ·rw [Hu]; exact zd _ _ _
 ·exact hf.2
 ·rw [zl, qq]
 ·intro row hr
  obtain ⟨x, _, rfl⟩ := List.mem_map.1 hr
  rfl
 ·intro row hr y hy
  obtain ⟨x, _, rfl⟩ := List.mem_map.1 hr
  simp [xi] at hy
  exact ⟨_, hy, rfl⟩
 rw [Da hf.1]
 refine AWp.of_vc zb ?_
 exact ret h
/-- A net, in an object. -/
def Au (g : Gnd) (l : List Bld) (c s : Int) : List AV := zr g ++ [int c, Br g l c s]
theorem dv (g : Gnd) (hg : zi g) (l : List Bld) (hl : l.length <= 1000000000000) (hb : ∀ b ∈ l, yc b /\ onP g b) (c s : Int) (hs : 0 <= s /\ s <= 3) (st : Store) (R : AV -> Store -> Prop) (h : ∀ b, Fresh st b -> R (ptr b) (st.setObj b (.cells (Au g l c s)))) :
  ACalls Tryz.prog 164 [.agg (zr g), lst 6 zz l, int c, int s] st R := by
 refine ACalls.of_body (c := cfg 18 [17] []) zb Tryz.func164 (by rfl) (by rfl) (by rfl) (by rfl) ?_
 refine ADraw.of_sched zb (by rfl) (by rfl) zmi (by rfl) ?_
 refine ⟨zuc g hg l hl hb c s hs _ _ ⟨(by repeat (first | exact Tv | refine ⟨rfl, ?_⟩ | refine ⟨optR (optR (optR (za _ (zd _ _ _) rfl))), ?_⟩)), ?_⟩, Tv⟩
 refine ⟨fun b hf => ⟨(by repeat (first | exact Tv | refine ⟨rfl, ?_⟩ | refine ⟨optR (optR (optR (za _ (zd _ _ _) rfl))), ?_⟩)), ?_⟩, Tv⟩
 refine ⟨⟨Tv, ?_⟩, Tv⟩
 exact ret (h b hf)
set_option maxRecDepth 10000 in
theorem Wb (g : Gnd) (hg : zi g) (t : Nat) (ht : t < g.T.length) (st : Store) (R : AV -> Store -> Prop) (h : R (wc (qo g t)) st) : ACalls Tryz.prog 70 [.agg (zr g), int t] st R := by
 have hm := yw hg
 have htb := wo hg (t := t) (by omega)
 have hq := Cg (t := t) hg.1.1
 have hq2 := Ch (t := t) hg.1.1
 have hg1 := hg.1
 have hg2 := hg.2.1
 unfold qo at h
 generalize (t : Int) % g.W = x at *
 generalize (t : Int) / g.W = y at *
 have hd : ∀ i, (hi : i < 8) -> -1 <= (dirL[i]'hi).1 /\ (dirL[i]'hi).1 <= 1 /\ -1 <= (dirL[i]'hi).2 /\ (dirL[i]'hi).2 <= 1 := by decide
 refine ACalls.of_body (c := cfg 64) zb Tryz.func70 (by rfl) (by rfl) (by rfl) (by rfl) ?_
 refine AWp.loop (σ := Nat × AV) ⟨fun s => [(1, .av (int (t : Nat))), (2, .bx 2 0), (5, .bx 5 0), (6, .bx 6 0), (7, .av s.2), (8, .av (int (s.1 : Nat)))], fun _ => [(2, zr g), (5, dirL.map fun d => int d.1), (6, dirL.map fun d => int d.2)],
  fun s st' => s.1 <= 8 /\ App 1 st s.2 (rws yn ((dirL.take s.1).map (qc g x y))) st', fun s => 8 - s.1⟩ zb ?_ ?_
 ·exact ⟨(0, _), Tv, ⟨Nat.zero_le _, App.start 1 st⟩, ⟨Tq, Tq, Tq, Tq, Tq, Tq, Tv⟩, ⟨rfl, rfl, rfl, Tv⟩⟩
 rintro ⟨i, v⟩ st' ⟨hi, ha⟩
 dsimp only at hi ha ⊢
 refine bcd (fun h1 => ?_) (fun h1 => ?_)
 rotate_left
 ·have : i = 8 := by omega
  subst this
  exact ⟨_, st, AV.le_trans ha.le (Tt), ha.has, h⟩
 have hlt : i < 8 := by omega
 have hdi := hd i hlt
 have hx5 : ((dirL.map fun d => int d.1).drop (0 + i * 1)).head? = some (int (dirL[i]'hlt).1) := by
  rw [List.head?_drop, show 0 + i * 1 = i by omega, List.getElem?_map, List.getElem?_eq_getElem hlt]; rfl
 have hx6 : ((dirL.map fun d => int d.2).drop (0 + i * 1)).head? = some (int (dirL[i]'hlt).2) := by
  rw [List.head?_drop, show 0 + i * 1 = i by omega, List.getElem?_map, List.getElem?_eq_getElem hlt]; rfl
 have hstep : (dirL.take (i + 1)).map (qc g x y) = (dirL.take i).map (qc g x y) ++ [qc g x y (dirL[i]'hlt)] := by
  rw [List.take_succ_eq_append_getElem hlt, List.map_append]; rfl
 have hlen : ((dirL.take i).map (qc g x y)).length <= 8 := by rw [List.length_map, List.length_take]; exact Nat.min_le_right _ _
 have hna : qc g x y (dirL[i]'hlt) = if onG g (x + (dirL[i]'hlt).1) (y + (dirL[i]'hlt).2) then x + (dirL[i]'hlt).1 + g.W * (y + (dirL[i]'hlt).2) else -1 := rfl
 generalize hD : dirL[i]'hlt = d at *
 refine ADraw.of_sched zb (by rfl) (by rfl) zld (by rfl) ?_
 refine ⟨by omega, ?_⟩
 refine ⟨i, rfl, hlt, ?_⟩
 refine za _ hx5 ?_
 refine zc (by omega) ?_
 refine ⟨by omega, ?_⟩
 refine zc (by omega) ?_
 refine ⟨i, rfl, hlt, ?_⟩
 refine za _ hx6 ?_
 refine zc (by omega) ?_
 refine ⟨⟨(by repeat (first | exact Tv | refine ⟨rfl, ?_⟩ | refine ⟨⟨i, rfl, hlt, rfl⟩, ?_⟩ | refine ⟨za (o := List.head? _) _ hx5 rfl, ?_⟩ | refine ⟨za (o := List.head? _) _ hx6 rfl, ?_⟩ | refine ⟨zc (by omega) rfl, ?_⟩ | refine ⟨⟨by omega, rfl⟩, ?_⟩)), ?_⟩, Tv⟩
 refine ⟨⟨(by repeat (first | exact Tv | refine ⟨rfl, ?_⟩ | refine ⟨⟨i, rfl, hlt, rfl⟩, ?_⟩ | refine ⟨za (o := List.head? _) _ hx5 rfl, ?_⟩ | refine ⟨za (o := List.head? _) _ hx6 rfl, ?_⟩ | refine ⟨zc (by omega) rfl, ?_⟩ | refine ⟨⟨by omega, rfl⟩, ?_⟩)), ?_⟩, Tv⟩
 rw [hq, hq2]
 have app : ∀ z, z = qc g x y d -> ∀ v2 st2, App 1 st v2 (rws yn ((dirL.take i).map (qc g x y)) ++ [yn z]) st2 -> App 1 st v2 (rws yn ((dirL.take (i + 1)).map (qc g x y))) st2 := fun z hz v2 st2 h2 => by
  rw [hstep, <- Vz]
  subst hz
  exact h2
 have out : ¬ onG g (x + d.1) (y + d.2) -> qc g x y d = -1 := fun hn => by rw [hna, if_neg hn]
 have rest : ∀ {Q : AV -> Store -> Prop}, (∀ v2 st2, App 1 st v2 (rws yn ((dirL.take (i + 1)).map (qc g x y))) st2 -> Q v2 st2) -> ¬ onG g (x + d.1) (y + d.2) -> appendK Tryz.prog (cfg 64) st' 3 (.av v) (.av (.lst 1 [[int (-1)]] none)) Q := fun hQ hn =>
  By (ie := ti3) (rows' := [yn (-1)]) ha rfl rfl ⟨by simp only [zl, List.length_singleton, ti3]; omega, by simp only [zl, List.length_singleton]; omega⟩ (fun v2 st2 h2 => hQ v2 st2 (app (-1) (out hn).symm v2 st2 h2))
 have next : ∀ v2 st2, App 1 st v2 (rws yn ((dirL.take (i + 1)).map (qc g x y))) st2 -> ∃ s : Nat × AV, 8 - s.1 < 8 - i /\ (s.1 <= 8 /\ App 1 st s.2 (rws yn ((dirL.take s.1).map (qc g x y))) st2) /\ s = (i + 1, v2) := fun v2 st2 h2 => ⟨(i + 1, v2), by dsimp only; omega, ⟨by dsimp only; omega, h2⟩, rfl⟩
 refine bcd (fun c1 => ?_) (fun c1 => ?_)
 ·refine ⟨by decide, ?_⟩
  refine rest (fun v2 st2 h2 => ?_) (fun hh => by have := hh.1.1; omega)
  obtain ⟨s, f1, f2, rfl⟩ := next v2 st2 h2
  refine zc (by omega) ?_
  exact ⟨(i + 1, v2), f1, f2, ⟨Tq, Tq, Tq, Tq, Tq, Tq, Tv⟩, ⟨rfl, rfl, rfl, Tv⟩⟩
 refine bcd (fun c2 => ?_) (fun c2 => ?_)
 ·refine ⟨by decide, ?_⟩
  refine rest (fun v2 st2 h2 => ?_) (fun hh => by have := hh.1.2; omega)
  obtain ⟨s, f1, f2, rfl⟩ := next v2 st2 h2
  refine zc (by omega) ?_
  exact ⟨(i + 1, v2), f1, f2, ⟨Tq, Tq, Tq, Tq, Tq, Tq, Tv⟩, ⟨rfl, rfl, rfl, Tv⟩⟩
 refine bcd (fun c3 => ?_) (fun c3 => ?_)
 ·refine ⟨by decide, ?_⟩
  refine rest (fun v2 st2 h2 => ?_) (fun hh => by have := hh.2.1; omega)
  obtain ⟨s, f1, f2, rfl⟩ := next v2 st2 h2
  refine zc (by omega) ?_
  exact ⟨(i + 1, v2), f1, f2, ⟨Tq, Tq, Tq, Tq, Tq, Tq, Tv⟩, ⟨rfl, rfl, rfl, Tv⟩⟩
 refine bcd (fun c4 => ?_) (fun c4 => ?_)
 ·refine ⟨by decide, ?_⟩
  refine rest (fun v2 st2 h2 => ?_) (fun hh => by have := hh.2.2; omega)
  obtain ⟨s, f1, f2, rfl⟩ := next v2 st2 h2
  refine zc (by omega) ?_
  exact ⟨(i + 1, v2), f1, f2, ⟨Tq, Tq, Tq, Tq, Tq, Tq, Tv⟩, ⟨rfl, rfl, rfl, Tv⟩⟩
 have hon : onG g (x + d.1) (y + d.2) := ⟨⟨by omega, by omega⟩, by omega, by omega⟩
 obtain ⟨e1, e2, _, _⟩ := j1 hg hon
 have hpos : 0 <= g.W * (y + d.2) := Int.mul_nonneg (by omega) (by omega)
 refine zc (by omega) ?_
 refine zc (by omega) ?_
 refine ⟨by decide, ?_⟩
 refine By (ie := ti3) (rows' := [yn (x + d.1 + g.W * (y + d.2))]) ha ?_ ?_ ⟨?_, ?_⟩ (fun v2 st2 h2 => ?_)
 ·rfl
 ·rfl
 ·simp only [zl, List.length_singleton, ti3]; omega
 ·simp only [zl, List.length_singleton]; omega
 obtain ⟨s, f1, f2, rfl⟩ := next v2 st2 (app _ (by rw [hna, if_pos hon]) v2 st2 h2)
 refine zc (by omega) ?_
 exact ⟨(i + 1, v2), f1, f2, ⟨Tq, Tq, Tq, Tq, Tq, Tq, Tv⟩, ⟨rfl, rfl, rfl, Tv⟩⟩
def inV (g : Gnd) (o : Nat -> Bool) (r : Nat) : AV := lst 1 xi (blL g.T.length (sqT g o r))
def gS (st : Store) (g : Gnd) (bn bx : Nat) (f : Nat -> Int) (nx : Nat -> Bool) : Store := (st.setObj bn (.cells (il g.T.length f))).setObj bx (.cells (bl g.T.length nx))
set_option maxHeartbeats 1000000 in
theorem zoe (g : Gnd) (hg : zi g) (l : List Bld) (hl : l.length <= 1000000000000) (hb : ∀ b ∈ l, yc b /\ onP g b) (c : Int) (hc : c = 0 \/ c = 1 \/ c = 2) (st : Store) (R : AV -> Store -> Prop)
  (h : ∀ f, K7 g (z6 g l c) f -> R (lst 1 yn (ilL g.T.length f)) st) : ACalls Tryz.prog 42 [.agg (zr g), lst 6 zz l, int c] st R := by
 have ha := yw hg
 refine ACalls.of_awp (c := cfg 79) zb Tryz.func42 (by rfl) (by rfl) (by rfl) (by rfl) ?_
 refine AWp.seq (AWp.of_vc zb ?_)
 refine AWp.seq (AWp.of_vc zb ?_)
 refine V8 g hg l hl hb c hc _ _ ?_
 generalize ho : z6 g l c = o at *
 have hopV : opV g l c = inV g o 0 := by simp_all[opV,inV,zwv,zj8]
 refine AWp.seq (AWp.of_vc zb ?_)
 refine vm rfl (it := ti29) (ie := ti3) rfl rfl rfl rfl rfl (n := (rws xi (blL g.T.length (z6 g l c))).length) ?_ ?_ (fun bn hfn => ?_)
 ·rw [zl, qq]; show 8 * _ <= _; omega
 ·rw [zl, qq]; omega
 rw [zl, qq, Kz]
 refine AWp.meetA (σ := Nat -> Int) ⟨fun _ => [(8, .av (blV bn g.T.length))], fun _ => [], fun f st' => K7 g o f /\ st' = st.setObj bn (.cells (il g.T.length f))⟩ ?_ ?_
 ·refine AWp.seq (AWp.of_vc zb ?_)
  refine AWp.block ?_
  refine AWp.loopA (σ := Nat × Bool × (Nat -> Int)) ⟨fun s => [(3, .bx 3 0), (7, .av (inV g o s.1)), (8, .av (blV bn g.T.length)), (9, .av (V.bool s.2.1))], fun _ => [(3, zr g)],
   fun s st' => st' = st.setObj bn (.cells (il g.T.length s.2.2)) /\ wd g o s.1 0 s.2.2 /\ s.1 <= 64 /\ (s.2.1 = true -> s.1 <= 63) /\ (s.2.1 = false -> ∀ t, t < g.T.length -> sqT g o s.1 t = false), fun s => 200 - s.1⟩ ?_ ?_
  ·refine ⟨(0, true, fun _ => 0), Tv, ⟨rfl, zsv g o, by decide, fun _ => by decide, fun hh => by cases hh⟩, ⟨Tq, ?_, Tq, Tq, Tv⟩, ⟨rfl, Tv⟩⟩
   dsimp only
   rw [<- hopV]; exact Tq
  rintro ⟨r, left, f⟩ st' ⟨rfl, hgp, hr, hl1, hl2⟩
  dsimp only at hgp hr hl1 hl2 ⊢
  refine AWp.seq (AWp.of_vc zb ?_)
  refine zh (fun c1 => ?_) (fun c1 => ?_)
  rotate_left
  ·exact ⟨f, ⟨zs0 hgp (hl2 c1), rfl⟩, ⟨Tq, Tv⟩, Tv⟩
  have hr63 := hl1 c1
  refine AWp.block ?_
  refine AWp.seq (AWp.of_vc zb ?_)
  refine AWp.seq (AWp.of_vc zb ?_)
  refine vm rfl (it := ti50) (ie := ti4) rfl rfl rfl rfl rfl (n := (rws xi (blL g.T.length (sqT g o r))).length) ?_ ?_ (fun bx hfx => ?_)
  ·rw [zl, qq]; show 1 * _ <= _; omega
  ·rw [zl, qq]; omega
  rw [zl, qq, Dd]
  have hne : bx ≠ bn := fun e => by
   have := hfx.1
   grind[zd]
  refine AWp.meetA (σ := Nat -> Int) ⟨fun _ => [(3, .bx 3 0), (8, .av (blV bn g.T.length)), (9, .av (V.bool (vj g o r g.T.length))), (10, .av (blV bx g.T.length))], fun _ => [(3, zr g)],
   fun f st' => wd g o (r + 1) 0 f /\ st' = gS st g bn bx f (sqT g o (r + 1))⟩ ?_ ?_
  ·refine AWp.of_vc zb ?_
   refine AWp.loop (σ := Nat × (Nat -> Int)) ⟨fun s => [(3, .bx 3 0), (7, .av (inV g o r)), (8, .av (blV bn g.T.length)), (9, .av (V.bool (vj g o r s.1))), (10, .av (blV bx g.T.length)), (11, .av (int (s.1 : Nat)))], fun _ => [(3, zr g)],
    fun s st' => s.1 <= g.T.length /\ wd g o r s.1 s.2 /\ st' = gS st g bn bx s.2 (nxF g o r s.1 false), fun s => g.T.length - s.1⟩ zb ?_ ?_
   ·exact ⟨(0, f), Tv, ⟨Nat.zero_le _, hgp, by unfold gS; rw [zqb]⟩, ⟨Tq, Tq, Tq, Tq, Tq, Tq, Tv⟩, ⟨rfl, Tv⟩⟩
   rintro ⟨t, f1⟩ st' ⟨ht, hgp1, rfl⟩
   dsimp only at ht hgp1 ⊢
   refine bcd (fun h1 => ?_) (fun h1 => ?_)
   rotate_left
   ·rw [zl, qq] at h1
    have : t = g.T.length := by omega
    subst this
    refine ⟨f1, ⟨zsy hgp1, ?_⟩, ⟨Tq, Tq, Tq, Tq, Tv⟩, ⟨rfl, Tv⟩⟩
    grind[gS,Rh,zqd]
   rw [zl, qq] at h1
   have hlt : t < g.T.length := by omega
   have hlt2 : t < (blL g.T.length (sqT g o r)).length := by rw [qq]; exact hlt
   have hsn := zka hg (o := o) (r := r) hlt
   have hls := zrn g o r t
   refine ⟨t, rfl, za _ (zn hlt2) ?_⟩
   rw [kr hlt]
   refine yf ?_
   refine zh (fun c2 => ?_) (fun c2 => ?_)
   rotate_left
   ·rw [c2, Bool.false_and] at hsn
    refine zc (by omega) ?_
    refine ⟨(t + 1, f1), ?_, ⟨by dsimp only; omega, zsx hgp1 c2, ?_⟩, ⟨Tq, Tq, Tq, ?_, Tq, Tq, Tv⟩, ⟨rfl, Tv⟩⟩
    ·grind
    ·grind[W8]
    ·show LV.le (.av (V.bool (vj g o r t))) (.av (V.bool (vj g o r (t + 1))))
     simp_all[LV.le_refl]
   rw [c2, Bool.true_and] at hsn
   have hgp2 := zsw hgp1 hlt c2
   have hfb := zs1 hgp1 hlt
   have hon : (gS st g bn bx f1 (nxF g o r t false)).obj bn = some (.cells (il g.T.length f1)) := (zw (Ne.symm hne)).trans (zd _ _ _)
   refine ⟨t, rfl, hlt, ?_⟩
   refine za _ hon (za _ (jh hlt) ?_)
   refine zc (by omega) ?_
   refine ⟨t, rfl, hlt, ?_⟩
   refine y7 (i := ti3) (v := int (f1 t + 1)) (b := bn) (o := 0 + t * 1) (l := il g.T.length f1) (st2 := gS st g bn bx (setI f1 t (f1 t + 1)) (nxF g o r t false)) rfl rfl rfl hon (by rw [y9]; omega) ?_ ?_
   ·simp_all[gS,Fx,Ne.symm,yx,Bp]
   generalize setI f1 t (f1 t + 1) = f2 at *
   have hx : ∀ v, (gS st g bn bx f2 (nxF g o r t v)).obj bx = some (.cells (bl g.T.length (nxF g o r t v))) := fun v => zd _ _ _
   have hst : ∀ v u, (gS st g bn bx f2 (nxF g o r t v)).setObj bx (.cells (z7 (bl g.T.length (nxF g o r t v)) (0 + t * 1) [V.bool u])) = gS st g bn bx f2 (nxF g o r t u) := fun v u => by grind[Af,zqc,W9,gS,yx]
   refine ⟨t, rfl, hlt, ?_⟩
   refine y7 (i := ti4) (v := V.bool true) (b := bx) (o := 0 + t * 1) (l := bl g.T.length (nxF g o r t false)) (st2 := gS st g bn bx f2 (nxF g o r t true)) rfl rfl rfl (hx _) (by rw [xp]; omega) (hst _ _) ?_
   refine Wb g hg t hlt _ _ ?_
   have hnb : ∀ i, (hi : i < (qo g t).length) -> (qo g t)[i] = -1 \/ ∃ m : Nat, (qo g t)[i] = m /\ m < g.T.length := fun i hi => bj hg (List.getElem_mem hi)
   have hn8 := Ga g t
   generalize hN : qo g t = N at *
   refine AWp.loop (σ := Nat) ⟨fun i => [(3, .bx 3 0), (7, .av (inV g o r)), (8, .av (blV bn g.T.length)), (9, .av (V.bool (vj g o r t))), (10, .av (blV bx g.T.length)), (11, .av (int (t : Nat))), (12, .av (wc N)), (13, .av (int (i : Nat)))], fun _ => [(3, zr g)],
    fun i st' => i <= 8 /\ st' = gS st g bn bx f2 (nxF g o r t ((N.take i).all (okB g o r))), fun i => 8 - i⟩ zb ?_ ?_
   ·exact ⟨0, Tv, ⟨Nat.zero_le _, by rw [List.take_zero]; rfl⟩, ⟨Tq, Tq, Tq, Tq, Tq, Tq, Tq, Tq, Tv⟩, ⟨rfl, Tv⟩⟩
   rintro i st' ⟨hi, rfl⟩
   refine bcd (fun h2 => ?_) (fun h2 => ?_)
   rotate_left
   ·have : i = 8 := by omega
    subst this
    have htk : N.take 8 = N := by grind
    rw [htk, <- hsn]
    have fin : ∀ b9 : AV, b9 = V.bool (vj g o r (t + 1)) -> LV.le (.av b9) (.av (V.bool (vj g o r (t + 1)))) := fun b9 e => by rw [e]; exact Tq
    have eS : gS st g bn bx f2 (nxF g o r t (sqT g o (r + 1) t)) = gS st g bn bx f2 (nxF g o r (t + 1) false) := by rw [W8]
    have hx9 := hx (sqT g o (r + 1) t)
    have hdec : g.T.length - (t + 1) < g.T.length - t := by omega
    refine zh (fun c3 => ?_) (fun c3 => ?_)
    ·refine zc (by omega) ?_
     exact ⟨(t + 1, f2), hdec, ⟨by dsimp only; omega, hgp2, eS⟩, ⟨Tq, Tq, Tq, fin _ (by rw [hls, c3, Bool.true_or]; rfl), Tq, Tq, Tv⟩, ⟨rfl, Tv⟩⟩
    ·refine ⟨t, rfl, hlt, ?_⟩
     refine za _ hx9 (za _ (L7 hlt) ?_)
     refine zc (by omega) ?_
     exact ⟨(t + 1, f2), hdec, ⟨by dsimp only; omega, hgp2, eS⟩, ⟨Tq, Tq, Tq, fin _ (by rw [hls, c3, Bool.false_or, W9]), Tq, Tq, Tv⟩, ⟨rfl, Tv⟩⟩
   have hi8 : i < N.length := by omega
   have hal : (N.take (i + 1)).all (okB g o r) = ((N.take i).all (okB g o r) && okB g o r N[i]) := by grind[List.take_succ_eq_append_getElem]
   have hx9 := hx ((N.take i).all (okB g o r))
   have hst9 := hst ((N.take i).all (okB g o r)) false
   have hdec : 8 - (i + 1) < 8 - i := by omega
   refine ⟨i, rfl, za _ (zn hi8) ?_⟩
   refine bcd (fun c3 => ?_) (fun c3 => ?_)
   ·have hok : okB g o r N[i] = false := by
     unfold okB
     rw [decide_eq_false (by omega), Bool.false_and]
    rw [hok, Bool.and_false] at hal
    refine ⟨t, rfl, hlt, ?_⟩
    refine y7 (i := ti4) (v := V.bool false) (b := bx) (o := 0 + t * 1) (l := _) (st2 := gS st g bn bx f2 (nxF g o r t false)) rfl rfl rfl hx9 (by rw [xp]; omega) hst9 ?_
    refine zc (by omega) ?_
    exact ⟨i + 1, hdec, ⟨by omega, by rw [hal]⟩, ⟨Tq, Tq, Tq, Tq, Tq, Tq, Tq, Tq, Tv⟩, ⟨rfl, Tv⟩⟩
   rcases hnb i hi8 with q | ⟨m, q1, q2⟩
   ·omega
   have hm2 : m < (blL g.T.length (sqT g o r)).length := by rw [qq]; exact q2
   have hok : okB g o r N[i] = sqT g o r m := by
    unfold okB
    rw [decide_eq_true (by omega), Bool.true_and, q1, Int.toNat_natCast]
   refine ⟨i, rfl, za _ (zn hi8) ?_⟩
   refine ⟨m, q1, za _ (zn hm2) ?_⟩
   rw [kr q2]
   refine yf ?_
   refine zh (fun c4 => ?_) (fun c4 => ?_)
   ·rw [hok, c4, Bool.and_true] at hal
    refine zc (by omega) ?_
    exact ⟨i + 1, hdec, ⟨by omega, by rw [hal]⟩, ⟨Tq, Tq, Tq, Tq, Tq, Tq, Tq, Tq, Tv⟩, ⟨rfl, Tv⟩⟩
   ·rw [hok, c4, Bool.and_false] at hal
    refine ⟨t, rfl, hlt, ?_⟩
    refine y7 (i := ti4) (v := V.bool false) (b := bx) (o := 0 + t * 1) (l := _) (st2 := gS st g bn bx f2 (nxF g o r t false)) rfl rfl rfl hx9 (by rw [xp]; omega) hst9 ?_
    refine zc (by omega) ?_
    exact ⟨i + 1, hdec, ⟨by omega, by rw [hal]⟩, ⟨Tq, Tq, Tq, Tq, Tq, Tq, Tq, Tq, Tv⟩, ⟨rfl, Tv⟩⟩
  ·rintro f3 _ ⟨hq, rfl⟩
   have hb3 := hq
   have hfb : (st.setObj bn (.cells (il g.T.length f3))).obj bx = none := by rw [zw hne]; have := hfx.1; rwa [zw hne] at this
   refine AWp.freeze (d := 10) (b := bx) (k := 1) (n := g.T.length) (cap := g.T.length) (rows := rws xi (blL g.T.length (sqT g o (r + 1)))) (pad := []) rfl ?_ ?_ ?_ (Nat.le_refl _) ?_ ?_ ?_
   ·rw [Hu]; exact zd _ _ _
   ·exact hfx.2
   ·rw [zl, qq]
   ·intro row hr
    obtain ⟨x, _, rfl⟩ := List.mem_map.1 hr
    rfl
   ·intro row hr y hy
    obtain ⟨x, _, rfl⟩ := List.mem_map.1 hr
    simp [xi] at hy
    exact ⟨_, hy, rfl⟩
   unfold gS
   rw [Da hfb]
   refine AWp.of_vc zb ?_
   refine ⟨(r + 1, vj g o r g.T.length, f3), ?_, ⟨rfl, hq, by dsimp only; omega, fun hh => ?_, fun hh => ?_⟩, ⟨Tq, Tq, Tq, Tq, Tv⟩, ⟨rfl, Tv⟩⟩
   ·show 200 - (r + 1) < 200 - r
    omega
   ·dsimp only at hh ⊢
    unfold vj at hh
    obtain ⟨t, _, ht2⟩ := List.any_eq_true.1 hh
    exact zj9 hg ht2
   ·dsimp only at hh ⊢
    unfold vj at hh
    rw [List.any_eq_false] at hh
    intro t ht
    exact Bool.eq_false_iff.2 (hh t (List.mem_range.2 ht))
 ·rintro f _ ⟨hq, rfl⟩
  refine AWp.freeze (d := 8) (b := bn) (k := 1) (n := g.T.length) (cap := g.T.length) (rows := rws yn (ilL g.T.length f)) (pad := []) rfl ?_ ?_ ?_ (Nat.le_refl _) ?_ ?_ ?_
  ·rw [List.append_nil, Pe]; exact zd _ _ _
  ·exact hfn.2
  ·rw [zl, kp]
  ·intro row hr
   obtain ⟨x, _, rfl⟩ := List.mem_map.1 hr
   rfl
  ·intro row hr y hy
   obtain ⟨x, _, rfl⟩ := List.mem_map.1 hr
   simp [yn] at hy
   exact ⟨_, hy, rfl⟩
  rw [Da hfn.1]
  refine AWp.of_vc zb ?_
  exact ret (h f hq)
theorem N4 (g : Gnd) (hg : zi g) (l : List Bld) (hl : l.length <= 1000000000000) (hb : ∀ b ∈ l, yc b /\ onP g b) (c : Int) (hc : c = 0 \/ c = 1 \/ c = 2) (s : Int) (hs : 0 <= s) (st : Store) (R : AV -> Store -> Prop) (h : R (Br g l c s) st) :
  ACalls Tryz.prog 15 [.agg (zr g), lst 6 zz l, int c, int s] st R := by
 have ha := yw hg
 refine ACalls.of_awp (c := cfg 35) zb Tryz.func15 (by rfl) (by rfl) (by rfl) (by rfl) ?_
 refine AWp.seq (AWp.of_vc zb ?_)
 refine AWp.seq (AWp.of_vc zb ?_)
 refine zoe g hg l hl hb c hc _ _ (fun f hq => ?_)
 refine AWp.seq (AWp.of_vc zb ?_)
 refine vm rfl (it := ti50) (ie := ti4) rfl rfl rfl rfl rfl (n := (rws yn (ilL g.T.length f)).length) ?_ ?_ (fun b hf => ?_)
 ·rw [zl, kp]; show 1 * _ <= _; omega
 ·rw [zl, kp]; omega
 rw [zl, kp, Dd]
 refine AWp.meetA (σ := Unit) ⟨fun _ => [(10, .av (blV b g.T.length))], fun _ => [], fun _ st' => st' = st.setObj b (.cells (bl g.T.length (zf g l c s)))⟩ ?_ ?_
 ·refine AWp.of_vc zb ?_
  refine AWp.loop (σ := Nat) ⟨fun i => [(3, .av (int s)), (9, .av (lst 1 yn (ilL g.T.length f))), (10, .av (blV b g.T.length)), (11, .av (int (i : Nat)))], fun _ => [],
   fun i st' => i <= g.T.length /\ st' = st.setObj b (.cells (bl g.T.length (xu g l c s i))), fun i => g.T.length - i⟩ zb ?_ ?_
  ·refine ⟨0, Tv, ⟨Nat.zero_le _, ?_⟩, ⟨Tq, Tq, Tq, Tq, Tv⟩, Tv⟩
   rw [show xu g l c s 0 = fun _ => false from funext fun t => if_neg (Nat.not_lt_zero t)]
  rintro i st' ⟨hi, rfl⟩
  refine bcd (fun h1 => ?_) (fun h1 => ?_)
  rotate_left
  ·rw [zl, kp] at h1
   have : i = g.T.length := by omega
   subst this
   refine ⟨(), ?_, ⟨Tq, Tv⟩, Tv⟩
   show st.setObj b (.cells (bl g.T.length (xu g l c s g.T.length))) = st.setObj b (.cells (bl g.T.length (zf g l c s)))
   rw [Rh (f := xu g l c s g.T.length) (g := zf g l c s) fun t ht => if_pos ht]
  rw [zl, kp] at h1
  have hlt : i < g.T.length := by omega
  have ho : (st.setObj b (.cells (bl g.T.length (xu g l c s i)))).obj b = some (.cells (bl g.T.length (xu g l c s i))) := zd _ _ _
  have hlt2 : i < (ilL g.T.length f).length := by rw [kp]; exact hlt
  have s2 : ∀ q, q ≠ i -> xu g l c s (i + 1) q = xu g l c s i q := fun q hq => by
   unfold xu
   by_cases h3 : q < i
   ·rw [if_pos h3, if_pos (by omega)]
   ·rw [if_neg h3, if_neg (by omega)]
  have s1 : xu g l c s (i + 1) i = zf g l c s i := if_pos (by omega)
  refine ⟨i, rfl, za _ (zn hlt2) ?_⟩
  refine ⟨i, rfl, hlt, ?_⟩
  refine y7 (i := ti4) (v := V.bool (decide (s < (ilL g.T.length f)[i]))) (b := b) (o := 0 + i * 1) (l := _) (st2 := st.setObj b (.cells (bl g.T.length (xu g l c s (i + 1))))) rfl rfl rfl ho (by rw [xp]; omega) ?_ ?_
  ·rw [yx, show 0 + i * 1 = i by omega, <- Af hlt _ s2, s1, Pf hlt, zsu hq hs hlt]
  refine zc (by omega) ?_
  refine ⟨i + 1, ?_, ⟨by omega, rfl⟩, ⟨Tq, Tq, Tq, Tq, Tv⟩, Tv⟩
  show g.T.length - (i + 1) < g.T.length - i
  omega
 rintro _ _ rfl
 refine AWp.freeze (d := 10) (b := b) (k := 1) (n := g.T.length) (cap := g.T.length) (rows := rws xi (blL g.T.length (zf g l c s))) (pad := []) rfl ?_ ?_ ?_ (Nat.le_refl _) ?_ ?_ ?_
 ·rw [Hu]; exact zd _ _ _
 ·exact hf.2
 ·rw [zl, qq]
 ·intro row hr
  obtain ⟨x, _, rfl⟩ := List.mem_map.1 hr
  rfl
 ·intro row hr y hy
  obtain ⟨x, _, rfl⟩ := List.mem_map.1 hr
  simp [xi] at hy
  exact ⟨_, hy, rfl⟩
 rw [Da hf.1]
 refine AWp.of_vc zb ?_
 exact ret h
/-- A store into a box of the call's own. -/
theorem g8 {m n : Nat} {p : Prop} (h : m <= n) (k : p) : (bif Nat.ble m n then p else False) := by
 have : Nat.ble m n = true := Nat.ble_eq ▸ h
 rw [this]
 exact k
theorem zqz (x y : Int) (hx : 0 <= x) (hx2 : x < 18446744073709551616) (hy : 0 <= y) (hy2 : y < 18446744073709551616) (st : Store) (R : AV -> Store -> Prop) (h : R (.tup (q9 (x * y))) st) :
  ACalls Tryz.prog 193 [u64 x, u64 y] st R := by
 refine ACalls.of_body (c := cfg 30) zb Tryz.func193 (by rfl) (by rfl) (by rfl) (by rfl) ?_
 refine Ow x y hx hx2 hy hy2 _ _ ?_
 exact ret h
set_option maxHeartbeats 1000000 in
/-- A list that says the same all over. -/
theorem Wf (v : Int) (n : Nat) (h0 : 1 <= n) (hn : n <= 1000000) (st : Store) (R : AV -> Store -> Prop) (h : ∀ b, Fresh st b -> R (.s (.slice (some ⟨b, 0, none⟩) n n)) (st.setObj b (.cells (il n fun _ => v)))) :
  ACalls Tryz.prog 113 [lst 1 yn [v], int (n : Nat)] st R := by
 refine ACalls.of_body (c := cfg 48) zb Tryz.func113 (by rfl) (by rfl) (by rfl) (by rfl) ?_
 have w2 : IntKind.u64.wrap (n : Int) = n := ks (by omega) (by omega)
 have w1 : IntKind.u64.wrap ((rws yn [v]).length : Nat) = 1 := rfl
 show ACalls _ _ [u64 (IntKind.u64.wrap _), u64 (IntKind.u64.wrap (n : Int))] _ _
 rw [w2, w1]
 refine zqz 1 n (by omega) (by omega) (by omega) (by omega) _ _ ?_
 have e1 : (1 * (n : Int)) = n := Int.one_mul _
 rw [e1]
 have e2 : q9 (n : Int) = [u64 0, u64 n] := by
  unfold q9
  rw [Int.ediv_eq_zero_of_lt (by omega) (by omega), Int.emod_eq_of_lt (by omega) (by omega)]
 rw [e2]
 refine bcd (fun c3 => absurd c3 (by omega)) (fun c3 => ?_)
 refine zc (by omega) ?_
 refine vm rfl (it := ti29) (ie := ti3) rfl rfl rfl rfl rfl (n := n) ?_ ?_ (fun b hf => ?_)
 ·show 8 * _ <= _; omega
 ·omega
 rw [Kz]
 refine i6 rfl rfl rfl rfl (it := ti29) (ie := ti3) rfl rfl rfl (src := lst 1 yn [v]) (SrcN.rows (rows := rws yn [v]) rfl) (n := 1) (by show 1 = min 1 n; omega) (zd _ _ _) (by rw [y9]; show 0 + 1 * 1 <= n; omega) ?_
 rw [yx]
 have e3 : z7 (il n fun _ => 0) 0 (rws yn [v]).flatten = il n (xr v 1) := by
  show z7 (il n fun _ => 0) 0 [int v] = _
  rw [Bp (t := 0) (by omega)]
  refine D5 fun t ht => ?_
  unfold setI xr
  by_cases h0 : t = 0
  ·rw [if_pos h0, if_pos (by omega)]
  ·rw [if_neg h0, if_neg (by omega)]
 rw [e3]
 refine AWp.loop (σ := Nat) ⟨fun k => [(7, .av (.s (.slice (some ⟨b, 0, none⟩) n n))), (8, .av (int (k : Nat)))], fun _ => [],
  fun k st' => 1 <= k /\ k <= n /\ st' = st.setObj b (.cells (il n (xr v k))), fun k => n - k⟩ zb ?_ ?_
 ·exact ⟨1, Tv, ⟨Nat.le_refl _, h0, rfl⟩, ⟨Tq, Tq, Tv⟩, Tv⟩
 rintro k st' ⟨hk1, hk, rfl⟩
 refine bcd (fun c4 => ?_) (fun c4 => ?_)
 rotate_left
 ·have : k = n := by omega
  subst this
  rw [dd]
  exact ret (h b hf)
 have hlt : k < n := by omega
 have hb : (st.setObj b (.cells (il n (xr v k)))).obj b = some (.cells (il n (xr v k))) := zd _ _ _
 obtain ⟨m, hm⟩ : ∃ m, m = min k (n - k) := ⟨_, rfl⟩
 refine ADraw.of_sched zb (by rfl) (by rfl) zm9 (by rfl) ?_
 refine ⟨k, n, rfl, rfl, by omega, Nat.le_refl _, .inl ⟨hlt, ?_⟩⟩
 refine ⟨0, k, rfl, rfl, Nat.zero_le _, by omega, .inl ⟨by omega, ?_⟩⟩
 refine ⟨i6 rfl rfl rfl rfl (it := ti29) (ie := ti3) rfl rfl rfl (SrcN.obj (n := m) hb (by rw [y9]; show 0 + 0 * 1 + m * 1 <= n; omega) (fun y hy => by
   have := List.mem_of_mem_drop (List.mem_of_mem_take hy)
   obtain ⟨t, _, rfl⟩ := List.mem_map.1 this
   rfl)) (hm.trans (by rw [Nat.sub_zero])) hb (by rw [y9]; show 0 + k * 1 + m * 1 <= n; omega) ⟨Tv, ?_⟩, Tv⟩
 rw [yx]
 refine zc (by omega) ?_
 refine ⟨⟨Tv, ?_⟩, Tv⟩
 refine ⟨k + m, ?_, ⟨by omega, by omega, ?_⟩, ⟨Tq, Tq, Tv⟩, Tv⟩
 ·show n - (k + m) < n - k
  omega
 ·exact congrArg (fun l => st.setObj b (.cells l)) (zol (by omega) (by omega))
theorem Ps (u : Int) (st : Store) (R : AV -> Store -> Prop) (h : R (V.bool true) st) : ACalls Tryz.prog 452 [int u] st R := by
 refine ACalls.of_body (c := cfg 3) zb Tryz.func452 (by rfl) (by rfl) (by rfl) (by rfl) ?_
 exact ret h
theorem ztt (w : Nat) (h1 : 4 <= w) (h2 : w < 8) (st : Store) (R : AV -> Store -> Prop) (h : R (.tup [int (vf w : Nat), int (ve w : Nat)]) st) : ACalls Tryz.prog 457 [int (w : Nat)] st R := by
 have hw : w = 4 \/ w = 5 \/ w = 6 \/ w = 7 := by omega
 rcases hw with rfl | rfl | rfl | rfl
 all_goals
  refine ACalls.of_body (c := cfg 10) zb Tryz.func457 (by rfl) (by rfl) (by rfl) (by rfl) ?_
  refine ADraw.of_sched zb (by rfl) (by rfl) zlg (by rfl) ?_
  refine ⟨_, rfl, by decide, ?_⟩
  refine ⟨_, rfl, by decide, ?_⟩
  refine ⟨⟨(by repeat (first | exact Tv | refine ⟨rfl, ?_⟩ | refine ⟨optR (optR (optR (za _ (zd _ _ _) rfl))), ?_⟩)), ⟨⟨Tv, ?_⟩, Tv⟩⟩, Tv⟩
  exact ret h
theorem lw (st : Store) (R : AV -> Store -> Prop) (h : R (.agg dirC) st) : ACalls Tryz.prog 314 [] st R := by
 refine ACalls.of_body (c := cfg 10) zb Tryz.func314 (by rfl) (by rfl) (by rfl) (by rfl) ?_
 exact ret h
set_option maxRecDepth 10000 in
set_option maxHeartbeats 1000000 in
theorem L9 (g : Gnd) (hg : zi g) (t : Nat) (ht : t < g.T.length) (st : Store) (R : AV -> Store -> Prop) (h : R (Gz g t) st) : ACalls Tryz.prog 234 [.agg (zr g), int (t : Nat)] st R := by
 have hm := yw hg
 have htb := wo hg (t := t) (by omega)
 have hq := Cg (t := t) hg.1.1
 have hq2 := Ch (t := t) hg.1.1
 have hg1 := hg.1
 have hg2 := hg.2.1
 have hbes := fun (i : Nat) (hi : i < 8) => zw0 g t hi
 obtain ⟨x, hx⟩ : ∃ x, x = (t : Int) % g.W := ⟨_, rfl⟩
 obtain ⟨y, hy⟩ : ∃ y, y = (t : Int) / g.W := ⟨_, rfl⟩
 rw [<- hx, <- hy] at htb hbes
 rw [<- hx] at hq
 rw [<- hy] at hq2
 refine ACalls.of_body (c := cfg 50) zb Tryz.func234 (by rfl) (by rfl) (by rfl) (by rfl) ?_
 refine ADraw.of_sched zb (by rfl) (by rfl) zl2 (by rfl) ?_
 refine ⟨by omega, ?_⟩
 refine ⟨by omega, ?_⟩
 refine zc (by rw [hq2]; omega) ?_
 refine ⟨⟨?_, ⟨⟨Tv, ?_⟩, Tv⟩⟩, Tv⟩
 ·exact ⟨rfl, Tv⟩
 rw [hq, hq2]
 refine lw _ _ ?_
 refine AWp.loop (σ := Nat) ⟨fun i => [(2, .bx 2 0), (4, .bx 4 0), (5, .av (int x)), (6, .av (int y)), (17, .av (.agg dirC)), (18, .av (int (i : Nat)))], fun i => [(2, zr g), (4, il 8 (Ag g t i))],
  fun i st' => i <= 8 /\ st' = st, fun i => 8 - i⟩ zb ?_ ?_
 ·exact ⟨0, Tv, ⟨Nat.zero_le _, rfl⟩, ⟨Tq, Tq, Tq, Tq, Tq, Tq, Tv⟩, ⟨rfl, rfl, Tv⟩⟩
 rintro i st' ⟨hi, rfl⟩
 refine bcd (fun c1 => ?_) (fun c1 => ?_)
 rotate_left
 ·have : i = 8 := by omega
  subst this
  refine ret ?_
  have e : AV.agg (il 8 (Ag g t 8)) = Gz g t := congrArg AV.agg (zwz g t)
  rw [<- e] at h
  exact h
 have hlt : i < 8 := by omega
 have hr := zvc hlt
 have hd := zvb hlt
 have hbe := hbes i hlt
 have hst := zwy g t (i := i)
 generalize dirL.getD i (0, 0) = d at *
 refine ⟨i, rfl, hlt, ?_⟩
 refine xg (i := ti391) (row := Di d) rfl rfl hr ?_
 refine ⟨i, rfl, hlt, ?_⟩
 refine g8 (by rw [y9]; show 0 + i * 1 + 1 <= 8; omega) ?_
 refine D6 ?_
 refine ⟨0, rfl, by decide, ?_⟩
 refine zc (by omega) ?_
 refine ⟨1, rfl, by decide, ?_⟩
 refine zc (by omega) ?_
 refine W1 _ _ _ _ _ (fun z hz => ?_)
 refine zh (fun c2 => ?_) (fun c2 => ?_)
 ·have hon := hz.1 c2
  obtain ⟨e1, e2, _, _⟩ := j1 hg hon
  have hpos : 0 <= g.W * (y + d.2) := Int.mul_nonneg (by omega) (by have := hon.2.1; omega)
  refine ⟨0, rfl, by decide, ?_⟩
  refine zc (by omega) ?_
  refine ⟨1, rfl, by decide, ?_⟩
  refine zc (by omega) ?_
  refine zc (by omega) ?_
  refine zc (by omega) ?_
  refine ⟨i, rfl, hlt, ?_⟩
  refine g8 (by
   show 0 + i * 1 + 1 <= (z7 (il 8 (Ag g t i)) (0 + i * 1) [int (-1)]).length
   rw [show 0 + i * 1 = i by omega, Bp hlt, y9]; omega) ?_
  refine D6 ?_
  refine zc (by omega) ?_
  refine ⟨i + 1, ?_, ⟨by omega, rfl⟩, ⟨Tq, Tq, Tq, Tq, Tq, Tq, Tv⟩, ⟨rfl, ?_, Tv⟩⟩
  ·show 8 - (i + 1) < 8 - i
   omega
  ·show some (z7 (z7 (il 8 (Ag g t i)) (0 + i * 1) [int (-1)]) (0 + i * 1) [int (x + d.1 + g.W * (y + d.2))]) = some (il 8 (Ag g t (i + 1)))
   rw [show 0 + i * 1 = i by omega, Bp hlt, Bp hlt, Nt, hst]
   rw [hbe]
   unfold qc
   rw [if_pos hon]
 ·have hon : ¬ onG g (x + d.1) (y + d.2) := fun hh => by rw [hz.2 hh] at c2; cases c2
  refine zc (by omega) ?_
  refine ⟨i + 1, ?_, ⟨by omega, rfl⟩, ⟨Tq, Tq, Tq, Tq, Tq, Tq, Tv⟩, ⟨rfl, ?_, Tv⟩⟩
  ·show 8 - (i + 1) < 8 - i
   omega
  ·show some (z7 (il 8 (Ag g t i)) (0 + i * 1) [int (-1)]) = some (il 8 (Ag g t (i + 1)))
   rw [show 0 + i * 1 = i by omega, Bp hlt, hst]
   rw [hbe]
   unfold qc
   rw [if_neg hon]
theorem Lr {g : Gnd} (hg : zi g) {t : Nat} (ht : t < g.T.length) : g.T[t].toNat <= 5 := hg.2.2.2 _ (List.getElem_mem ht)
theorem Ls (g : Gnd) (c : Int) {t : Nat} (ht : t < g.T.length) : Ac g c t = js c g.T[t].toNat := by
 unfold Ac
 rw [List.getD_eq_getElem?_getD, List.getElem?_eq_getElem ht]
 rfl
theorem Gy {g : Gnd} (hg : zi g) (t : Nat) {w : Nat} (hw : w < 8) : zo g t w < 0 \/ ∃ u : Nat, zo g t w = (u : Int) /\ u < g.T.length := by
 rcases Ma hg (t := t) hw with h | h
 ·exact .inl (by omega)
 ·exact .inr h
theorem Nj {g : Gnd} {ok : Nat -> Bool} {c : Int} {t w : Nat} (h : qd ok (zo g t w) = false) : yb g ok c t w = 0 := by
 unfold yb
 rw [h]
 simp
theorem S6 {g : Gnd} {ok : Nat -> Bool} {c : Int} {t w : Nat} (h : qd ok (zo g t w) = true) (hw : w < 4) : yb g ok c t w = 5 * (Ac g c t + Ac g c (zo g t w).toNat) := by
 unfold yb
 rw [if_pos h, if_pos hw]
theorem S9 {g : Gnd} {ok : Nat -> Bool} {c : Int} {t w : Nat} (h : qd ok (zo g t w) = true) (hw : ¬ w < 4) (ha : qd ok (zo g t (vf w)) = true) (hb : qd ok (zo g t (ve w)) = true) : yb g ok c t w = 7 * (Ac g c t + Ac g c (zo g t w).toNat) := by
 unfold yb
 rw [if_pos h, if_neg hw, if_pos ⟨ha, hb⟩]
theorem S7 {g : Gnd} {ok : Nat -> Bool} {c : Int} {t w : Nat} (hw : ¬ w < 4) (ha : qd ok (zo g t (vf w)) = false \/ qd ok (zo g t (ve w)) = false) : yb g ok c t w = 0 := by
 unfold yb
 rw [if_neg hw]
 split
 ·rw [if_neg]
  rintro ⟨h1, h2⟩
  rcases ha with ha | ha
  ·rw [ha] at h1; cases h1
  ·rw [ha] at h2; cases h2
 ·rfl
theorem Gm {ok : Nat -> Bool} {u : Int} (h : u < 0) : qd ok u = false := by
 unfold qd
 rw [decide_eq_false (by omega)]; rfl
theorem Az (ok : Nat -> Bool) (u : Nat) : qd ok (u : Int) = ok u := by
 unfold qd
 rw [decide_eq_true (by omega), Int.toNat_natCast]; rfl
set_option maxHeartbeats 2000000 in
set_option maxRecDepth 20000 in
theorem S0 {S : Store} {nb : Nat} {g : Gnd} (hg : zi g) {l : List Bld} {c s : Int} (hn : S.obj nb = some (.cells (Au g l c s))) (t : Nat) (ht : t < g.T.length) (way : Nat) (hw : way < 8) (R : AV -> Store -> Prop)
  (h : R (int (yb g (zf g l c s) c t way)) S) : ACalls Tryz.prog 453 [ptr nb, int (t : Nat), Gz g t, int (way : Nat), .clos 452 []] S R := by
 have hgl : ∀ u, u < g.T.length -> u < (blL g.T.length (zf g l c s)).length := fun u hu => by rw [qq]; exact hu
 have p1 := F6 c (g.T[t]).toNat
 refine ACalls.of_body (c := cfg 124) zb Tryz.func453 (by rfl) (by rfl) (by rfl) (by rfl) ?_
 refine ⟨way, rfl, hw, ?_⟩
 refine za _ (jh hw) ?_
 have hor := Gy hg t hw
 have hlo := fun h => S6 (g := g) (ok := zf g l c s) (c := c) (t := t) (w := way) h
 have hhi := fun h => S9 (g := g) (ok := zf g l c s) (c := c) (t := t) (w := way) h
 have hno := Nj (g := g) (ok := zf g l c s) (c := c) (t := t) (w := way)
 have hhn := fun h => S7 (g := g) (ok := zf g l c s) (c := c) (t := t) (w := way) h
 generalize yb g (zf g l c s) c t way = E at *
 generalize hU : zo g t way = U at *
 refine bcd (fun c1 => ?_) (fun c1 => ?_)
 ·rw [hno (Gm c1)] at h
  exact ret h
 obtain ⟨u, rfl, hul⟩ : ∃ u : Nat, U = (u : Int) /\ u < g.T.length := by
  rcases hor with h1 | h1
  ·exact absurd h1 c1
  ·exact h1
 refine za (o := S.obj nb) _ hn ?_
 refine ⟨u, rfl, za _ (zn (hgl u hul)) ?_⟩
 rw [kr hul]
 refine yf ?_
 refine zh (fun c2 => ?_) (fun c2 => ?_)
 rotate_left
 ·rw [hno (by rw [Az, c2])] at h
  exact ret h
 refine Ps _ _ _ ?_
 have hfu : qd (zf g l c s) (u : Int) = true := by rw [Az, c2]
 rw [Int.toNat_natCast] at hlo hhi
 rw [Ls g c ht, Ls g c hul] at hlo hhi
 have p2 := F6 c (g.T[u]).toNat
 refine ADraw.of_sched zb (by rfl) (by rfl) zlm (by rfl) ?_
 refine za (o := S.obj nb) _ hn ?_
 refine za (o := S.obj nb) _ hn ?_
 refine ⟨t, rfl, za _ (zn ht) ?_⟩
 refine za (o := S.obj nb) _ hn ?_
 refine za (o := S.obj nb) _ hn ?_
 refine ⟨u, rfl, za _ (zn hul) ?_⟩
 refine ⟨Og c g.T[t] (Lr hg ht) _ _ ⟨?_, ?_⟩, Tv⟩
 ·repeat (first | exact Tv | refine ⟨rfl, ?_⟩ | refine ⟨za (o := S.obj nb) _ hn rfl, ?_⟩)
 refine ⟨Og c g.T[u] (Lr hg hul) _ _ ⟨(by repeat (first | exact Tv | refine ⟨rfl, ?_⟩ | refine ⟨optR (optR (optR (za _ (zd _ _ _) rfl))), ?_⟩)), ?_⟩, Tv⟩
 refine zc (by omega) ?_
 refine ⟨⟨Tv, ?_⟩, Tv⟩
 generalize js c g.T[t].toNat = P1 at *
 generalize js c g.T[u].toNat = P2 at *
 refine bcd (fun c3 => ?_) (fun c3 => ?_)
 ·refine zc (by omega) ?_
  rw [hlo hfu (by omega)] at h
  exact ret h
 have h4 : ¬ way < 4 := by omega
 have hsa : vf way < 8 := by unfold vf; omega
 have hsb : ve way < 8 := by unfold ve; omega
 refine ztt way (by omega) hw _ _ ?_
 have hora := Gy hg t hsa
 have horb := Gy hg t hsb
 have hhi := hhi hfu h4
 have hhn := hhn h4
 have ha1 := jh (n := 8) (f := zo g t) hsa
 have hb1 := jh (n := 8) (f := zo g t) hsb
 generalize hA : vf way = wa at *
 generalize hB : ve way = wb at *
 generalize hUA : zo g t wa = ua at *
 generalize hUB : zo g t wb = ub at *
 refine ADraw.of_sched zb (by rfl) (by rfl) zll (by rfl) ?_
 refine ⟨wa, rfl, hsa, ?_⟩
 refine za _ ha1 ?_
 have no : qd (zf g l c s) ua = false \/ qd (zf g l c s) ub = false -> R (int 0) S := fun hh => by
  rw [hhn hh] at h
  exact h
 refine bcd (fun ca => ?_) (fun ca => ?_)
 ·refine ⟨⟨Tv, ?_⟩, Tv⟩
  refine ⟨⟨Tv, ?_⟩, Tv⟩
  exact ret (no (.inl (Gm ca)))
 obtain ⟨va, rfl, hva⟩ : ∃ u : Nat, ua = (u : Int) /\ u < g.T.length := by
  rcases hora with h1 | h1
  ·exact absurd h1 ca
  ·exact h1
 refine ⟨wb, rfl, hsb, ?_⟩
 refine za _ hb1 ?_
 refine bcd (fun cb => ?_) (fun cb => ?_)
 ·refine ⟨⟨Tv, ?_⟩, Tv⟩
  refine ⟨⟨Tv, ?_⟩, Tv⟩
  exact ret (no (.inr (Gm cb)))
 obtain ⟨vb, rfl, hvb⟩ : ∃ u : Nat, ub = (u : Int) /\ u < g.T.length := by
  rcases horb with h1 | h1
  ·exact absurd h1 cb
  ·exact h1
 refine za (o := S.obj nb) _ hn ?_
 refine ⟨wa, rfl, hsa, ?_⟩
 refine za _ ha1 ?_
 refine ⟨va, rfl, za _ (zn (hgl va hva)) ?_⟩
 rw [kr hva]
 refine yf ?_
 refine zh (fun da => ?_) (fun da => ?_)
 rotate_left
 ·refine ⟨⟨Tv, ?_⟩, Tv⟩
  refine ⟨⟨Tv, ?_⟩, Tv⟩
  exact ret (no (.inl (by rw [Az, da])))
 refine za (o := S.obj nb) _ hn ?_
 refine ⟨wb, rfl, hsb, ?_⟩
 refine za _ hb1 ?_
 refine ⟨vb, rfl, za _ (zn (hgl vb hvb)) ?_⟩
 rw [kr hvb]
 refine yf ?_
 refine zh (fun db => ?_) (fun db => ?_)
 rotate_left
 ·refine ⟨⟨Tv, ?_⟩, Tv⟩
  refine ⟨⟨Tv, ?_⟩, Tv⟩
  exact ret (no (.inr (by rw [Az, db])))
 refine ⟨wa, rfl, hsa, ?_⟩
 refine za _ ha1 ?_
 refine ⟨Ps _ _ _ ⟨Tv, ?_⟩, Tv⟩
 refine ⟨wb, rfl, hsb, ?_⟩
 refine za _ hb1 ?_
 refine ⟨Ps _ _ _ ⟨Tv, ?_⟩, Tv⟩
 refine zc (by omega) ?_
 rw [hhi (by rw [Az, da]) (by rw [Az, db])] at h
 exact ret h
theorem zo5 {G : Store} (R : AV -> Store -> Prop) (h : ∀ F p, QOf F p [] -> zv F G -> R (ptr p) (F.un G)) : ACalls Tryz.prog 454 [] G R := by
 have := ACalls.frame (a := Store.empty) (g := G) (fun i h1 => by rcases h1 with h1 | h1 <;> exact absurd rfl h1) (zo4 Store.empty (fun r a' => ∃ p, r = ptr p /\ QOf a' p []) (fun p hp => ⟨p, rfl, .inl ⟨zd _ _ _, rfl⟩⟩)) (R' := R) (fun r a' ⟨p, e, hc⟩ hd => e ▸ h a' p hc hd)
 rwa [C8] at this
theorem N7 {F G : Store} {p : Nat} {l : List (Int × Int)} (hq : QOf F p l) (hl : l.length <= 1000000) (hh : x9 l) (hd : zv F G) (x : Int × Int) (R : AV -> Store -> Prop)
  (h : ∀ F' l', QOf F' p l' -> x9 l' -> l'.Perm (x :: l) -> zv F' G -> R (.tup []) (F'.un G)) : ACalls Tryz.prog 455 [ptr p, int x.1, int x.2] (F.un G) R :=
 ACalls.frame hd (zow hq hl hh x (fun r a' => r = .tup [] /\ ∃ l', QOf a' p l' /\ x9 l' /\ l'.Perm (x :: l)) (fun F' l' g1 g2 g3 => ⟨rfl, l', g1, g2, g3⟩)) (R' := R) (fun r a' ⟨e, l', g1, g2, g3⟩ hd => e ▸ h a' l' g1 g2 g3 hd)
theorem Oa {F G : Store} {p : Nat} {l : List (Int × Int)} (hq : QOf F p l) (hl : l.length <= 1000000) (hh : x9 l) (hd : zv F G) (R : AV -> Store -> Prop)
  (h : ∀ F' o l', QOf F' p l' -> x9 l' -> zv F' G -> l.Perm (o.toList ++ l') -> (∀ x, o = some x -> ∀ e ∈ x :: l', ¬ qlt e x) -> (o = none -> l' = []) -> R (.tup [int (O7 o), int (Ix o), V.bool o.isSome]) (F'.un G)) : ACalls Tryz.prog 456 [ptr p] (F.un G) R :=
 ACalls.frame hd (zoz hq hl hh (fun r a' => ∃ o l', r = .tup [int (O7 o), int (Ix o), V.bool o.isSome] /\ QOf a' p l' /\ x9 l' /\ l.Perm (o.toList ++ l') /\ (∀ x, o = some x -> ∀ e ∈ x :: l', ¬ qlt e x) /\ (o = none -> l' = []))
  (fun e => ⟨none, [], rfl, e ▸ hq, e ▸ hh, by grind, fun x h => (by cases h), fun _ => rfl⟩)
  (fun h0 F' l' g1 g2 g3 => ⟨some (qat l 0), l', rfl, g1, g2, g3, fun x e => by grind[zo1], fun h => (by cases h)⟩)) (R' := R) (fun r a' ⟨o, l', e, g1, g2, g3, g4, g5⟩ hd => e ▸ h a' o l' g1 g2 hd g3 g4 g5)
set_option maxHeartbeats 4000000 in
set_option maxRecDepth 20000 in
theorem ztu {S : Store} {nb : Nat} {g : Gnd} (hg : zi g) {l : List Bld} {c s : Int} (hn : S.obj nb = some (.cells (Au g l c s))) (goal : Nat) (hgo : goal < g.T.length) (R : AV -> Store -> Prop)
  (h : ∀ b, Fresh S b -> (∀ u, -1 <= yl g (zf g l c s) c goal u /\ yl g (zf g l c s) c goal u <= 2000000) -> R (.s (.slice (some ⟨b, 0, none⟩) g.T.length g.T.length)) (S.setObj b (.cells (il g.T.length (yl g (zf g l c s) c goal))))) :
  ACalls Tryz.prog 451 [ptr nb, int (goal : Nat), .clos 452 []] S R := by
 have ha := yw hg
 have hT : g.T.length <= 16384 := by omega
 have hgl : ∀ u, u < g.T.length -> u < (blL g.T.length (zf g l c s)).length := fun u hu => by rw [qq]; exact hu
 refine ACalls.of_body (c := cfg 121) zb Tryz.func451 (by rfl) (by rfl) (by rfl) (by rfl) ?_
 refine ⟨by decide, ?_⟩
 refine za (o := S.obj nb) _ hn ?_
 show ACalls _ _ [_, int ((rws u8C g.T).length : Nat)] _ _
 rw [zl]
 refine Wf (-1) g.T.length (by omega) (by omega) _ _ (fun b hf => ?_)
 have hnb : nb ≠ b := fun e => by rw [e, hf.1] at hn; cases hn
 have hn1 : (S.setObj b (.cells (il g.T.length fun _ => -1))).obj nb = some (.cells (Au g l c s)) := (zw hnb).trans hn
 refine za (o := (S.setObj b _).obj nb) _ hn1 ?_
 refine ⟨goal, rfl, za _ (zn (hgl goal hgo)) ?_⟩
 rw [kr hgo]
 refine yf ?_
 refine zh (fun c1 => ?_) (fun c1 => ?_)
 rotate_left
 ·rw [ek c1] at h
  exact ret (h b hf fun u => ⟨Int.le_refl (-1), show (-1 : Int) <= 2000000 by decide⟩)
 refine vm rfl (it := ti50) (ie := ti4) rfl rfl rfl rfl rfl (n := g.T.length) ?_ ?_ (fun b2 hf2 => ?_)
 ·show 1 * _ <= _; omega
 ·omega
 rw [Dd]
 have hbb : b ≠ b2 := fun e => by
  have := hf2.1
  grind[zd]
 have hst0 : (S.setObj b (.cells (il g.T.length fun _ => -1))).setObj b2 (.cells (bl g.T.length fun _ => false)) = y5 S b b2 g.T.length (fun _ => -1) (fun _ => false) := rfl
 rw [hst0]
 refine ⟨goal, rfl, hgo, ?_⟩
 refine y7 (i := ti3) (v := int 0) (b := b) (o := 0 + goal * 1) (l := il g.T.length fun _ => -1) (st2 := y5 S b b2 g.T.length (zt (fun _ => -1) goal 0) (fun _ => false)) rfl rfl rfl (dz hbb _ _) (by rw [y9]; omega) ?_ ?_
 ·rw [D4 _ _ _ _ hgo, dw hbb]
 refine zo5 _ (fun F p hQ hdis => ?_)
 refine N7 hQ (by simp) (fun j h0 hj => by simp at hj) hdis (0, (goal : Int)) _ (fun F l1 hQ hH hP hdis => ?_)
 have hd0 : ∀ u, zt (fun _ => (-1 : Int)) goal 0 u = if u = goal then 0 else -1 := fun u => rfl
 have hDJ := zu4 (y4 g (zf g l c s) c) hgo hd0
 have hcb := fp hgo hd0
 have hback : ∀ F d dn, (Store.un F (y5 S b b2 g.T.length d dn)).Has (S.setObj b (.cells (il g.T.length d))) := fun F d dn => zt7 hf hf2 hbb
 have hlen : l1.length <= 1000000 := by rw [hP.length_eq]; simp
 have hlen1 : l1.length = 1 := by rw [hP.length_eq]; simp
 have hfo := fun d dn => zt4 (n := g.T.length) hf hf2 hn d dn
 have hfd := fun d dn => dz (S := S) (n := g.T.length) hbb d dn
 have hfn := fun d dn => zt5 (S := S) (b := b) (b2 := b2) (n := g.T.length) d dn
 have hsd := fun d d' dn => dw (S := S) (n := g.T.length) hbb d d' dn
 have hsn := fun d dn dn' => zt3 (S := S) (b := b) (b2 := b2) (n := g.T.length) d dn dn'
 have hdd := fun (F : Store) d d' dn dn' (h : zv F (y5 S b b2 g.T.length d dn)) => zt6 (d' := d') (dn' := dn') h
 generalize hd1 : zt (fun _ => (-1 : Int)) goal 0 = d at *
 refine Oa hQ hlen hH hdis _ (fun F' o l' g1 g2 g3 g4 g5 g6 => ?_)
 refine AWp.loop (σ := (Nat -> Int) × (Nat -> Bool) × Store × Option (Int × Int) × List (Int × Int) × Int) ⟨fun q => [(0, .av (ptr nb)), (2, .av (.clos 452 [])), (7, .av (.s (.slice (some ⟨b, 0, none⟩) g.T.length g.T.length))), (8, .av (.s (.slice (some ⟨b2, 0, none⟩) g.T.length g.T.length))), (9, .av (ptr p)), (10, .av (int (O7 q.2.2.2.1))), (11, .av (int (Ix q.2.2.2.1))), (12, .av (V.bool q.2.2.2.1.isSome))], fun _ => [],
  fun q st' => st' = q.2.2.1.un (y5 S b b2 g.T.length q.1 q.2.1) /\ QOf q.2.2.1 p q.2.2.2.2.1 /\ x9 q.2.2.2.2.1 /\ zv q.2.2.1 (y5 S b b2 g.T.length q.1 q.2.1) /\ DJ (y4 g (zf g l c s) c) g.T.length goal q.1 q.2.1 (q.2.2.2.1.toList ++ q.2.2.2.2.1) q.2.2.2.2.2 vz ∧
   (∀ x, q.2.2.2.1 = some x -> ∀ e ∈ x :: q.2.2.2.2.1, ¬ qlt e x) /\ (q.2.2.2.1 = none -> q.2.2.2.2.1 = []) /\ Ad g.T.length q.1 /\ 9 * wv g.T.length q.2.1 + (q.2.2.2.1.toList ++ q.2.2.2.2.1).length <= 9 * g.T.length + 1, fun q => 9 * wv g.T.length q.2.1 + (q.2.2.2.1.toList ++ q.2.2.2.2.1).length⟩ zb ?_ ?_
 ·refine ⟨(d, fun _ => false, F', o, l', 0), Tv, ⟨rfl, g1, g2, g3, Pw hDJ (hP.symm.trans g4), g5, g6, hcb, ?_⟩, ⟨Tq, Tq, Tq, Tq, Tq, Tq, Tq, Tq, Tv⟩, Tv⟩
  have := zp6 g.T.length fun _ => false
  dsimp only
  rw [<- g4.length_eq]
  omega
 clear hdis
 clear g1 g2 g3 g4 g5 g6 hDJ hcb hQ hH hP hlen hlen1 hd0 hd1
 rintro ⟨d, dn, F, o, q, cur⟩ st' ⟨rfl, hQ, hH, hdis, hDJ, hmin, hnil, hcb, hmu⟩
 dsimp only at hQ hH hdis hDJ hmin hnil hcb hmu ⊢
 cases o with
 | none =>
  have : q = [] := hnil rfl
  subst this
  have e := Pq c1 (zu5 hDJ)
  refine vg (Tt) (hback F d dn) ?_
  have := h b hf
  rw [e] at this
  exact this fun u => by
   have h1 := hDJ.lab u
   have h2 := Gs hcb u
   omega
 | some x =>
 obtain ⟨t, ht, htn, hd0, hdx, hcx⟩ := hDJ.ent x (by simp)
 have hmin := hmin x rfl
 have hlen : q.length <= 1000000 := by grind
 have hxt : Ix (some x) = (t : Int) := ht
 have hq9 : (Option.toList (some x) ++ q).length = q.length + 1 := by simp
 rw [hq9] at hmu
 rw [hxt]
 refine ⟨t, rfl, htn, ?_⟩
 refine za (o := (F.un (y5 S b b2 g.T.length d dn)).obj b2) _ (ze (hfn d dn)) ?_
 refine za _ (L7 htn) ?_
 cases hdt : dn t with
 | true =>
  have hDJ2 := zu2 (q' := q) hDJ ht (List.Perm.refl _) hdt
  refine Oa hQ hlen hH hdis _ (fun F' o l' g1 g2 g3 g4 g5 g6 => ?_)
  refine ⟨(d, dn, F', o, l', cur), ?_, ⟨rfl, g1, g2, g3, Pw (hDJ2) g4, g5, g6, hcb, ?_⟩, ⟨Tq, Tq, Tq, Tq, Tq, Tq, Tq, Tq, Tv⟩, Tv⟩
  ·show 9 * wv g.T.length (dn) + (o.toList ++ l').length < 9 * wv g.T.length dn + (Option.toList (some x) ++ q).length
   rw [<- g4.length_eq, hq9]
   omega
  ·dsimp only
   rw [<- g4.length_eq]
   omega
 | false =>
 obtain ⟨hk, hDJ1⟩ := zu1 (q' := q) hDJ ht (List.Perm.refl _) hmin hdt
 have hopen := zp4 htn hdt
 have hokt := zu3 hDJ c1 hd0
 refine ⟨t, rfl, htn, ?_⟩
 refine y7 (i := ti4) (v := V.bool true) (b := b2) (o := 0 + t * 1) (l := bl g.T.length dn) (st2 := F.un (y5 S b b2 g.T.length d (zt dn t true))) rfl rfl rfl (ze (hfn d dn)) (by rw [xp]; omega) ?_ ?_
 ·rw [Rg _ _ _ _ htn, qk, hsn]
 refine za (o := (F.un (y5 S b b2 g.T.length d (zt dn t true))).obj nb) _ (ze (hfo _ _)) ?_
 refine L9 g hg t htn _ _ ?_
 have hdis := hdd F d d dn (zt dn t true) hdis
 have hDJ := l6 hDJ1
 have hdn1 : zt dn t true t = true := xj _ _ _
 have hbig := Gs hcb t
 have hbn := fun (w : Nat) (hw : w < 8) => Ma hg (t := t) hw
 refine AWp.loop (σ := Nat × (Nat -> Int) × Store × List (Int × Int)) ⟨fun y => [(0, .av (ptr nb)), (2, .av (.clos 452 [])), (7, .av (.s (.slice (some ⟨b, 0, none⟩) g.T.length g.T.length))), (8, .av (.s (.slice (some ⟨b2, 0, none⟩) g.T.length g.T.length))), (9, .av (ptr p)), (10, .av (int x.1)), (11, .av (int (t : Nat))), (13, .bx 13 0), (70, .av (Gz g t)), (71, .av (int (y.1 : Nat)))], fun _ => [(13, il 8 (zo g t))],
  fun y st' => y.1 <= 8 /\ st' = y.2.2.1.un (y5 S b b2 g.T.length y.2.1 (zt dn t true)) /\ QOf y.2.2.1 p y.2.2.2 /\ x9 y.2.2.2 /\ zv y.2.2.1 (y5 S b b2 g.T.length y.2.1 (zt dn t true)) /\ DJ (y4 g (zf g l c s) c) g.T.length goal y.2.1 (zt dn t true) y.2.2.2 x.1 (ku g (zf g l c s) c t y.1) /\ y.2.1 t = x.1 /\ Ad g.T.length y.2.1 /\ y.2.2.2.length <= q.length + y.1, fun y => 8 - y.1⟩ zb ?_ ?_
 ·exact ⟨(0, d, F, q), Tv, ⟨Nat.zero_le _, rfl, hQ, hH, hdis, hDJ, hk.symm, hcb, Nat.le_refl _⟩, ⟨Tq, Tq, Tq, Tq, Tq, Tq, Tq, Tq, Tq, Tq, Tv⟩, ⟨rfl, Tv⟩⟩
 have hx0 : 0 <= x.1 := by omega
 have hx1 : x.1 <= 84 * (g.T.length : Int) := by omega
 clear hQ hH hdis hDJ hDJ1 hcb hbig hmin hnil hd0 hdx
 rintro ⟨i, d, F, m⟩ st' ⟨hi, rfl, hQ, hH, hdis, hDJ, hdt1, hcb, hml⟩
 dsimp only at hi hQ hH hdis hDJ hdt1 hcb hml ⊢
 refine bcd (fun c2 => ?_) (fun c2 => ?_)
 rotate_left
 ·have : i = 8 := by omega
  subst this
  have hlen : m.length <= 1000000 := by omega
  have hDJ2 := l7 hDJ
  refine Oa hQ hlen hH hdis _ (fun F' o l' g1 g2 g3 g4 g5 g6 => ?_)
  refine ⟨(d, zt dn t true, F', o, l', x.1), ?_, ⟨rfl, g1, g2, g3, Pw (hDJ2) g4, g5, g6, hcb, ?_⟩, ⟨Tq, Tq, Tq, Tq, Tq, Tq, Tq, Tq, Tv⟩, Tv⟩
  ·show 9 * wv g.T.length (zt dn t true) + (o.toList ++ l').length < 9 * wv g.T.length dn + (Option.toList (some x) ++ q).length
   rw [<- g4.length_eq, hq9]
   omega
  ·dsimp only
   rw [<- g4.length_eq]
   omega
 have hlt : i < 8 := by omega
 refine ⟨i, rfl, hlt, ?_⟩
 refine za _ (Pd hlt) ?_
 refine S0 hg (ze (hfo _ _)) t htn i hlt _ ?_
 have hsb := Nk g (zf g l c s) c t i
 have hskip := Mp hDJ
 have hedge := ew (g := g) (ok := zf g l c s) (c := c) (t := t) (way := i) hokt htn hlt
 have hor := hbn i hlt
 have hfr : 0 < yb g (zf g l c s) c t i -> 0 <= zo g t i := fun hp => (H7 (I8 (g := g) (ok := zf g l c s) (c := c) (t := t) (way := i) (by omega))).1
 generalize hC : yb g (zf g l c s) c t i = C at *
 generalize hU : zo g t i = U at *
 -- nothing to note: on with the next way
 have next : (0 < C -> ∀ u : Nat, U = u -> 0 <= d u /\ d u <= d t + C) -> ∃ y : Nat × (Nat -> Int) × Store × List (Int × Int), 8 - y.1 < 8 - i /\ (y.1 <= 8 /\ F.un (y5 S b b2 g.T.length d (zt dn t true)) = y.2.2.1.un (y5 S b b2 g.T.length y.2.1 (zt dn t true)) /\ QOf y.2.2.1 p y.2.2.2 /\ x9 y.2.2.2 /\ zv y.2.2.1 (y5 S b b2 g.T.length y.2.1 (zt dn t true)) /\ DJ (y4 g (zf g l c s) c) g.T.length goal y.2.1 (zt dn t true) y.2.2.2 x.1 (ku g (zf g l c s) c t y.1) /\ y.2.1 t = x.1 /\ Ad g.T.length y.2.1 /\ y.2.2.2.length <= q.length + y.1) /\ y = (i + 1, d, F, m) := fun hp =>
  ⟨(i + 1, d, F, m), by dsimp only; omega, ⟨by dsimp only; omega, rfl, hQ, hH, hdis, hskip (fun u hu hc => hp hc u hu), hdt1, hcb, by dsimp only; omega⟩, rfl⟩
 refine bcd (fun c3 => ?_) (fun c3 => ?_)
 rotate_left
 ·obtain ⟨y, f1, f2, rfl⟩ := next (fun hc => absurd hc c3)
  refine zc (by omega) ?_
  exact ⟨(i + 1, d, F, m), f1, f2, ⟨Tq, Tq, Tq, Tq, Tq, Tq, Tq, Tq, Tq, Tq, Tv⟩, ⟨rfl, Tv⟩⟩
 have hU0 := hfr c3
 obtain ⟨u, rfl, hul⟩ : ∃ u : Nat, U = (u : Int) /\ u < g.T.length := by
  rcases hor with h1 | h1
  ·omega
  ·exact h1
 rw [Int.toNat_natCast] at hedge
 have hedge := hedge c3
 refine ⟨u, rfl, hul, ?_⟩
 refine za (o := (F.un (y5 S b b2 g.T.length d (zt dn t true))).obj b2) _ (ze (hfn d _)) ?_
 refine za _ (L7 hul) ?_
 refine yf ?_
 refine zh (fun c4 => ?_) (fun c4 => ?_)
 ·obtain ⟨y, f1, f2, rfl⟩ := next (fun hc v hv => by
   have : v = u := by omega
   subst this
   have := hDJ.mono v c4
   omega)
  refine zc (by omega) ?_
  exact ⟨(i + 1, d, F, m), f1, f2, ⟨Tq, Tq, Tq, Tq, Tq, Tq, Tq, Tq, Tq, Tq, Tv⟩, ⟨rfl, Tv⟩⟩
 refine ⟨u, rfl, hul, ?_⟩
 refine za (o := (F.un (y5 S b b2 g.T.length d (zt dn t true))).obj b) _ (ze (hfd d _)) ?_
 refine za _ (jh hul) ?_
 refine bcd (fun c5 => ?_) (fun c5 => ?_)
 ·skip
  have hlow : d u < 0 \/ d t + C < d u := Or.inl c5
  have hcb2 := Lt hcb hul (t := t) (u := u) (c := C) (by omega) (by omega) hlow
  rw [hdt1] at hcb2 hlow
  refine zc (by omega) ?_
  refine ⟨u, rfl, hul, ?_⟩
  refine y7 (i := ti3) (v := int (x.1 + C)) (b := b) (o := 0 + u * 1) (l := il g.T.length d) (st2 := F.un (y5 S b b2 g.T.length (zt d u (x.1 + C)) (zt dn t true))) rfl rfl rfl (ze (hfd d _)) (by rw [y9]; omega) ?_ ?_
  ·rw [D4 _ _ _ _ hul, qk, hsd]
  refine zc (by omega) ?_
  refine N7 hQ (by omega) hH (hdd F d (zt d u (x.1 + C)) _ _ hdis) (x.1 + C, (u : Int)) _ (fun F' m' e1 e2 e3 e4 => ?_)
  have hnote := fc Bw hDJ hdn1 hdt1 hul hedge c4 hlow e3
  have htu : t ≠ u := fun e => by subst e; rw [hdn1] at c4; cases c4
  have hC := hC.symm
  refine zc (by omega) ?_
  refine ⟨(i + 1, zt d u (x.1 + C), F', m'), ?_, ⟨by dsimp only; omega, rfl, e1, e2, e4, ?_, ?_, hcb2, ?_⟩, ⟨Tq, Tq, Tq, Tq, Tq, Tq, Tq, Tq, Tq, Tq, Tv⟩, ⟨rfl, Tv⟩⟩
  ·show 8 - (i + 1) < 8 - i
   omega
  ·refine Mp hnote (fun v hv hc => ?_)
   have hvu : v = u := by
    rw [hU] at hv
    omega
   subst hvu
   dsimp only
   rw [xj, qn htu, hdt1, <- hC]
   omega
  ·dsimp only
   rw [qn htu]
   exact hdt1
  ·dsimp only
   rw [e3.length_eq, List.length_cons]
   omega
 have hbig := Gs hcb u
 refine zc (by omega) ?_
 refine ⟨u, rfl, hul, ?_⟩
 refine za (o := (F.un (y5 S b b2 g.T.length d (zt dn t true))).obj b) _ (ze (hfd d _)) ?_
 refine za _ (jh hul) ?_
 refine bcd (fun c6 => ?_) (fun c6 => ?_)
 ·skip
  have hlow : d u < 0 \/ d t + C < d u := Or.inr (show d t + C < d u by omega)
  have hcb2 := Lt hcb hul (t := t) (u := u) (c := C) (by omega) (by omega) hlow
  rw [hdt1] at hcb2 hlow
  refine zc (by omega) ?_
  refine ⟨u, rfl, hul, ?_⟩
  refine y7 (i := ti3) (v := int (x.1 + C)) (b := b) (o := 0 + u * 1) (l := il g.T.length d) (st2 := F.un (y5 S b b2 g.T.length (zt d u (x.1 + C)) (zt dn t true))) rfl rfl rfl (ze (hfd d _)) (by rw [y9]; omega) ?_ ?_
  ·rw [D4 _ _ _ _ hul, qk, hsd]
  refine zc (by omega) ?_
  refine N7 hQ (by omega) hH (hdd F d (zt d u (x.1 + C)) _ _ hdis) (x.1 + C, (u : Int)) _ (fun F' m' e1 e2 e3 e4 => ?_)
  have hnote := fc Bw hDJ hdn1 hdt1 hul hedge c4 hlow e3
  have htu : t ≠ u := fun e => by subst e; rw [hdn1] at c4; cases c4
  have hC := hC.symm
  refine zc (by omega) ?_
  refine ⟨(i + 1, zt d u (x.1 + C), F', m'), ?_, ⟨by dsimp only; omega, rfl, e1, e2, e4, ?_, ?_, hcb2, ?_⟩, ⟨Tq, Tq, Tq, Tq, Tq, Tq, Tq, Tq, Tq, Tq, Tv⟩, ⟨rfl, Tv⟩⟩
  ·show 8 - (i + 1) < 8 - i
   omega
  ·refine Mp hnote (fun v hv hc => ?_)
   have hvu : v = u := by
    rw [hU] at hv
    omega
   subst hvu
   dsimp only
   rw [xj, qn htu, hdt1, <- hC]
   omega
  ·dsimp only
   rw [qn htu]
   exact hdt1
  ·dsimp only
   rw [e3.length_eq, List.length_cons]
   omega
 obtain ⟨y, f1, f2, rfl⟩ := next (fun hc v hv => by
  have : v = u := by omega
  subst this
  omega)
 refine zc (by omega) ?_
 exact ⟨(i + 1, d, F, m), f1, f2, ⟨Tq, Tq, Tq, Tq, Tq, Tq, Tq, Tq, Tq, Tq, Tv⟩, ⟨rfl, Tv⟩⟩
set_option maxHeartbeats 4000000 in
set_option maxRecDepth 20000 in
theorem oe {S : Store} {nb : Nat} {g : Gnd} (hg : zi g) {l : List Bld} {c s : Int} (hn : S.obj nb = some (.cells (Au g l c s))) (goal : Nat) (hgo : goal < g.T.length) (R : AV -> Store -> Prop)
  (h : ∀ b, Fresh S b -> R (.s (.slice (some ⟨b, 0, none⟩) g.T.length g.T.length)) (S.setObj b (.cells (il g.T.length (qb g (zf g l c s) c (yl g (zf g l c s) c goal)))))) :
  ACalls Tryz.prog 450 [ptr nb, int (goal : Nat)] S R := by
 have ha := yw hg
 have hT : g.T.length <= 16384 := by omega
 refine ACalls.of_body (c := cfg 71) zb Tryz.func450 (by rfl) (by rfl) (by rfl) (by rfl) ?_
 refine ztu hg hn goal hgo _ (fun b hf hdb => ?_)
 generalize yl g (zf g l c s) c goal = d at *
 refine ⟨by decide, ?_⟩
 refine Wf (-1) g.T.length (by omega) (by omega) _ _ (fun b2 hf2 => ?_)
 have hbb : b ≠ b2 := fun e => by
  have := hf2.1
  rw [<- e, zd] at this; cases this
 rw [<- lz g (zf g l c s) c d]
 have hfo := fun f => nn (n := g.T.length) hf hf2 hn d f
 have hfd := fun f => nu (S := S) (n := g.T.length) hbb d f
 have hsf := fun f f' => nl (S := S) (b := b) (b2 := b2) (n := g.T.length) d f f'
 have hff := fun f => nt (S := S) (b := b) (b2 := b2) (n := g.T.length) d f
 refine AWp.loop (σ := Nat) ⟨fun i => [(0, .av (ptr nb)), (5, .av (.s (.slice (some ⟨b, 0, none⟩) g.T.length g.T.length))), (6, .av (.s (.slice (some ⟨b2, 0, none⟩) g.T.length g.T.length))), (20, .av (.s (.slice (some ⟨b, 0, none⟩) g.T.length g.T.length))), (21, .av (int (g.T.length : Nat))), (22, .av (int (i : Nat)))], fun _ => [],
  fun i st' => i <= g.T.length /\ st' = xy S b b2 g.T.length d (j7 g (zf g l c s) c d i), fun i => g.T.length - i⟩ zb ?_ ?_
 ·exact ⟨0, Tv, ⟨Nat.zero_le _, rfl⟩, ⟨Tq, Tq, Tq, Tq, Tq, Tq, Tv⟩, Tv⟩
 rintro i st' ⟨hi, rfl⟩
 refine bcd (fun c1 => ?_) (fun c1 => ?_)
 rotate_left
 ·have : i = g.T.length := by omega
  subst this
  refine vg (Tt) (nw hf hbb _ _) ?_
  rw [l3]
  exact h b2 (nr hbb hf2)
 have hlt : i < g.T.length := by omega
 -- on with the next tile
 have next : ∀ f, f = j7 g (zf g l c s) c d (i + 1) -> ∃ k : Nat, g.T.length - k < g.T.length - i /\ (k <= g.T.length /\ xy S b b2 g.T.length d f = xy S b b2 g.T.length d (j7 g (zf g l c s) c d k)) /\ k = i + 1 := fun f e => ⟨i + 1, by omega, ⟨by omega, by rw [e]⟩, rfl⟩
 refine ⟨i, rfl, hlt, ?_⟩
 refine za (o := (xy S b b2 g.T.length d _).obj b) _ (hfd _) ?_
 refine za _ (jh hlt) ?_
 refine bcd (fun c2 => ?_) (fun c2 => ?_)
 ·obtain ⟨k, f1, f2, rfl⟩ := next _ (Rx (mc c2)).symm
  refine zc (by omega) ?_
  exact ⟨i + 1, f1, f2, ⟨Tq, Tq, Tq, Tq, Tq, Tq, Tv⟩, Tv⟩
 refine za (o := (xy S b b2 g.T.length d _).obj nb) _ (hfo _) ?_
 refine L9 g hg i hlt _ _ ?_
 refine AWp.loop (σ := Nat) ⟨fun j => [(0, .av (ptr nb)), (5, .av (.s (.slice (some ⟨b, 0, none⟩) g.T.length g.T.length))), (6, .av (.s (.slice (some ⟨b2, 0, none⟩) g.T.length g.T.length))), (7, .av (int (i : Nat))), (8, .av (int (d i))), (9, .bx 9 0), (20, .av (.s (.slice (some ⟨b, 0, none⟩) g.T.length g.T.length))), (21, .av (int (g.T.length : Nat))), (22, .av (int (i : Nat))), (35, .av (Gz g i)), (36, .av (int (j : Nat)))], fun _ => [(9, il 8 (zo g i))],
  fun j st' => j <= 8 /\ st' = xy S b b2 g.T.length d (j7 g (zf g l c s) c d i) /\ ∀ w, w < j -> ¬ Bs g (zf g l c s) c d i w, fun j => 8 - j⟩ zb ?_ ?_
 ·exact ⟨0, Tv, ⟨Nat.zero_le _, rfl, fun w hw => absurd hw (Nat.not_lt_zero w)⟩, ⟨Tq, Tq, Tq, Tq, Tq, Tq, Tq, Tq, Tq, Tq, Tq, Tv⟩, ⟨rfl, Tv⟩⟩
 rintro j st' ⟨hj, rfl, hno⟩
 refine bcd (fun c3 => ?_) (fun c3 => ?_)
 rotate_left
 ·have : j = 8 := by omega
  subst this
  obtain ⟨k, f1, f2, rfl⟩ := next _ (Rx (l9 c2 hno)).symm
  refine zc (by omega) ?_
  exact ⟨i + 1, f1, f2, ⟨Tq, Tq, Tq, Tq, Tq, Tq, Tv⟩, Tv⟩
 have hj8 : j < 8 := by omega
 have hskip : ¬ Bs g (zf g l c s) c d i j -> ∃ k : Nat, 8 - k < 8 - j /\ (k <= 8 /\ xy S b b2 g.T.length d (j7 g (zf g l c s) c d i) = xy S b b2 g.T.length d (j7 g (zf g l c s) c d i) /\ ∀ w, w < k -> ¬ Bs g (zf g l c s) c d i w) /\ k = j + 1 := fun hh => ⟨j + 1, by omega, ⟨by omega, rfl, fun w hw => by
  by_cases e : w = j
  ·subst e; exact hh
  ·exact hno w (by omega)⟩, rfl⟩
 have hyes : Bs g (zf g l c s) c d i j -> qb g (zf g l c s) c d i = (j : Int) := fun hh => l8 c2 hj8 hh hno
 refine ⟨j, rfl, hj8, ?_⟩
 refine za _ (Pd hj8) ?_
 refine S0 hg (hfo _) i hlt j hj8 _ ?_
 have hsb := Nk g (zf g l c s) c i j
 have hor := Ma hg (t := i) hj8
 have hfr : 0 < yb g (zf g l c s) c i j -> 0 <= zo g i j := fun hp => (H7 (I8 (g := g) (ok := zf g l c s) (c := c) (t := i) (way := j) (by omega))).1
 unfold Bs at hskip hyes
 generalize yb g (zf g l c s) c i j = C at *
 generalize zo g i j = U at *
 refine bcd (fun c4 => ?_) (fun c4 => ?_)
 rotate_left
 ·obtain ⟨k, f1, f2, rfl⟩ := hskip (fun hh => c4 hh.1)
  refine zc (by omega) ?_
  exact ⟨j + 1, f1, f2, ⟨Tq, Tq, Tq, Tq, Tq, Tq, Tq, Tq, Tq, Tq, Tq, Tv⟩, ⟨rfl, Tv⟩⟩
 have hU0 := hfr c4
 obtain ⟨u, rfl, hul⟩ : ∃ u : Nat, U = (u : Int) /\ u < g.T.length := by
  rcases hor with h1 | h1
  ·omega
  ·exact h1
 rw [Int.toNat_natCast] at hskip hyes
 have hdu := hdb u
 refine ⟨u, rfl, hul, ?_⟩
 refine za (o := (xy S b b2 g.T.length d _).obj b) _ (hfd _) ?_
 refine za _ (jh hul) ?_
 refine bcd (fun c5 => ?_) (fun c5 => ?_)
 rotate_left
 ·obtain ⟨k, f1, f2, rfl⟩ := hskip (fun hh => c5 hh.2.1)
  refine zc (by omega) ?_
  exact ⟨j + 1, f1, f2, ⟨Tq, Tq, Tq, Tq, Tq, Tq, Tq, Tq, Tq, Tq, Tq, Tv⟩, ⟨rfl, Tv⟩⟩
 refine ⟨u, rfl, hul, ?_⟩
 refine za (o := (xy S b b2 g.T.length d _).obj b) _ (hfd _) ?_
 refine za _ (jh hul) ?_
 refine zc (by omega) ?_
 refine yj (fun c6 => ?_) (fun c6 => ?_)
 rotate_left
 ·obtain ⟨k, f1, f2, rfl⟩ := hskip (fun hh => c6 hh.2.2)
  refine zc (by omega) ?_
  exact ⟨j + 1, f1, f2, ⟨Tq, Tq, Tq, Tq, Tq, Tq, Tq, Tq, Tq, Tq, Tq, Tv⟩, ⟨rfl, Tv⟩⟩
 have hw := hyes ⟨c4, c5, c6⟩
 refine ⟨i, rfl, hlt, ?_⟩
 refine y7 (i := ti3) (v := int (j : Nat)) (b := b2) (o := 0 + i * 1) (l := il g.T.length (j7 g (zf g l c s) c d i)) (st2 := xy S b b2 g.T.length d (j7 g (zf g l c s) c d (i + 1))) rfl rfl rfl (hff _) (by rw [y9]; omega) ?_ ?_
 ·rw [D4 _ _ _ _ hlt, hsf, Ry, hw]
 obtain ⟨k, f1, f2, rfl⟩ := next _ rfl
 refine zc (by omega) ?_
 exact ⟨i + 1, f1, f2, ⟨Tq, Tq, Tq, Tq, Tq, Tq, Tv⟩, Tv⟩
/-- A mover: a stand, and who tells ways. -/
def Co : AV := .s (.iface 160 (.agg #[]))
structure MoverG (gv : AV) (F G : Store) (mb s p : Nat) (w : Wld) (v : AV) (L : List Ent) (o0 o1 o2 : AV) : Prop where
 S : StandR F G s p w v L o0 o1 o2
 hx : G.obj mb = some (.cells [ptr s, gv])
 ox : Aq v mb
 os : Aq v s
 hL : L.length <= w.U.length
 hF : ww w L
/-- The mover that reckons each time. -/
abbrev Mover (F G : Store) (mb s p : Nat) (w : Wld) (v : AV) (L : List Ent) (o0 o1 o2 : AV) : Prop := MoverG Co F G mb s p w v L o0 o1 o2
theorem MoverG.ne {gv : AV} {F G : Store} {mb s p : Nat} {w : Wld} {v : AV} {L : List Ent} {o0 o1 o2 : AV} (h : MoverG gv F G mb s p w v L o0 o1 o2) : mb ≠ s := fun e => by
 have := h.S.hs
 rw [<- e, h.hx] at this
 cases this
theorem MoverG.m {gv : AV} {F F' G : Store} {mb s p : Nat} {w w' : Wld} {v : AV} {L : List Ent} {o0 o1 o2 q0 q1 q2 : AV} (h : MoverG gv F G mb s p w v L o0 o1 o2) : (F'.un (svS G s w' v q0 q1 q2 p)).obj mb = some (.cells [ptr s, gv]) :=
 ze (by
  show (G.setObj s _).obj mb = _
  rw [zw h.ne]
  exact h.hx)
theorem MoverG.s {gv : AV} {F F' G : Store} {mb s p : Nat} {w : Wld} {v : AV} {L : List Ent} {o0 o1 o2 q0 q1 q2 : AV} (h : MoverG gv F G mb s p w v L o0 o1 o2) : (F'.un (svS G s w v q0 q1 q2 p)).obj s = some (.cells (svC w v q0 q1 q2 p)) := ze (vp _ _ _ _ _ _ _ _)
/-- After a unit is put. -/
theorem MoverG.put {gv : AV} {F G F' G' : Store} {mb s p i : Nat} {w : Wld} {v : AV} {L : List Ent} {o0 o1 o2 q0 q1 q2 : AV} (h : MoverG gv F G mb s p w v L o0 o1 o2) (hr : yq w.U) (hi : i < w.U.length) {u : Unt} (hid : w.U[i].id = u.id) (g1 : StandR F' G' s p { w with U := w.U.set i u } v (D8 L u) q0 q1 q2)
  (g2 : ∀ q, Aq v q -> G'.obj q = G.obj q) : MoverG gv F' G' mb s p (z8 w u) v (D8 L u) q0 q1 q2 := by
 rw [Dt hr hi hid.symm]
 have hF3 := zp9 h.hF hr hi (u := u) hid
 refine ⟨g1, by rw [g2 mb h.ox]; exact h.hx, h.ox, h.os, ?_, hF3⟩
 obtain ⟨_, _, _, _, _, _, _, _, inv⟩ := g1.hc
 exact zqa inv.n1 hF3
theorem Ox {gv : AV} {F G : Store} {mb s p : Nat} {w : Wld} {v : AV} {L : List Ent} {o0 o1 o2 : AV} (hW : MoverG gv F G mb s p w v L o0 o1 o2) (hm : MayF w) (hn : ∀ u ∈ w.U, u.pos.ok) {i : Nat} (hi : i < w.U.length) (u : Unt) (hid : w.U[i].id = u.id) (hp : u.pos.ok) (R : AV -> Store -> Prop)
  (h : ∀ F' G' L', MoverG gv F' G' mb s p (z8 w u) v L' o0 o1 o2 -> R (.tup []) (F'.un (svS G' s (z8 w u) v o0 o1 o2 p))) :
  ACalls Tryz.prog 150 [ptr s, .agg (zp u)] (F.un (svS G s w v o0 o1 o2 p)) R := by
 have hU := hm.hU
 refine zpc hW.S hW.os hm.hr (by omega) (by have := hW.hL; omega) (Om hW.hF hn) hi u hid hp R fun F' G' g1 g2 => ?_
 have e := Dt (w := w) hm.hr hi hid.symm
 have := h F' G' _ (hW.put hm.hr hi hid g1 g2)
 rw [e] at this
 exact this
set_option maxHeartbeats 2000000 in
set_option maxRecDepth 20000 in
theorem Sm {gv : AV} {F G : Store} {mb s p : Nat} {w : Wld} {v : AV} {L : List Ent} {o0 o1 o2 : AV} (hW : MoverG gv F G mb s p w v L o0 o1 o2) (hm : MayF w) (hn : ∀ u ∈ w.U, u.pos.ok) {i : Nat} (hi : i < w.U.length) (d : Vc) (hd : d.ok) (R : AV -> Store -> Prop)
  (h : ∀ F' G' L' q0 q1 q2, MoverG gv F' G' mb s p (jz w w.U[i] d) v L' q0 q1 q2 -> R (int (wk w w.U[i] d)) (F'.un (svS G' s (jz w w.U[i] d) v q0 q1 q2 p))) :
  ACalls Tryz.prog 143 [ptr mb, .agg (zp w.U[i]), .agg (zy d)] (F.un (svS G s w v o0 o1 o2 p)) R := by
 have hU := hm.hU
 have hB := hm.hB
 have hnd := mm hd
 have hpk := hn _ (List.getElem_mem hi)
 unfold jz wk at h
 have hhalf := fun k => zsn hnd k
 have hzero := fun n k => n8 (w := w) (u := w.U[i]) (v := qi d) (n := n) (k := k)
 have hnext := fun n k => oc (w := w) (u := w.U[i]) (v := qi d) (n := n) (k := k)
 have hsome := fun n k => n9 (w := w) (u := w.U[i]) (v := qi d) (n := n) (k := k)
 have hhv : ∀ k, j4 (qi d) k = ((qi d).1.tdiv ((2 ^ k : Nat) : Int), (qi d).2.tdiv ((2 ^ k : Nat) : Int)) := fun k => rfl
 refine ACalls.of_body (c := cfg 53) zb Tryz.func143 (by rfl) (by rfl) (by rfl) (by rfl) ?_
 refine R4 d _ _ ?_
 generalize qi d = nd at *
 refine AWp.loop (σ := Nat × Store × AV × AV × AV) ⟨fun x => [(0, .av (ptr mb)), (4, .bx 4 0), (5, .bx 5 0), (12, .av (int (x.1 : Nat)))], fun _ => [(4, zp w.U[i]), (5, zy nd)],
  fun x st' => x.1 <= 5 /\ st' = x.2.1.un (svS G s w v x.2.2.1 x.2.2.2.1 x.2.2.2.2 p) /\ StandR x.2.1 G s p w v L x.2.2.1 x.2.2.2.1 x.2.2.2.2 /\ qs w w.U[i] nd 5 0 = qs w w.U[i] nd (5 - x.1) x.1, fun x => 5 - x.1⟩ zb ?_ ?_
 ·exact ⟨(0, F, o0, o1, o2), Tv, ⟨Nat.zero_le _, rfl, hW.S, rfl⟩, ⟨Tq, Tq, Tq, Tq, Tv⟩, ⟨rfl, rfl, Tv⟩⟩
 rintro ⟨k, F1, q0, q1, q2⟩ st' ⟨hk, rfl, hS1, hT⟩
 dsimp only at hk hS1 hT ⊢
 refine bcd (fun c1 => ?_) (fun c1 => ?_)
 rotate_left
 ·have : k = 5 := by omega
  subst this
  have hT : qs w w.U[i] nd 5 0 = none := hT
  rw [hT] at h
  exact ret (h F1 G L q0 q1 q2 ⟨hS1, hW.hx, hW.ox, hW.os, hW.hL, hW.hF⟩)
 have hk5 : k < 5 := by omega
 obtain ⟨n, hn5⟩ : ∃ n, 5 - k = n + 1 := ⟨4 - k, by omega⟩
 rw [hn5] at hT
 have hsh := zku hk5
 have hkv := hhv k
 have hh := hhalf k
 have hp2 : ((2 ^ k : Nat) : Int) ≠ 0 := by have : 0 < 2 ^ k := Nat.pow_pos (by decide); omega
 rw [<- hsh] at hkv hp2
 have hh1 : ye (nd.1.tdiv (IntKind.i64.wrap (1 * 2 ^ (min ((k : Int)).toNat IntKind.i64.bits)))) := by
  have := hh.1
  rw [hkv] at this
  exact ⟨by dsimp only at this; omega, by dsimp only at this; omega⟩
 have hh2 : ye (nd.2.tdiv (IntKind.i64.wrap (1 * 2 ^ (min ((k : Int)).toNat IntKind.i64.bits)))) := by
  have := hh.2
  rw [hkv] at this
  exact ⟨by dsimp only at this; omega, by dsimp only at this; omega⟩
 have hz0 := hzero n k
 have hnx := hnext n k
 have hsm := hsome n k
 refine ADraw.of_sched zb (by rfl) (by rfl) zmz (by rfl) ?_
 refine ⟨by omega, ?_⟩
 refine ⟨hp2, zc hh1 ?_⟩
 refine ⟨by omega, ?_⟩
 refine ⟨hp2, zc hh2 ?_⟩
 refine ⟨⟨?_, ?_⟩, Tv⟩
 ·repeat (first | exact Tv | refine ⟨rfl, ?_⟩ | refine ⟨⟨by omega, rfl⟩, ?_⟩ | refine ⟨⟨hp2, zc hh1 rfl⟩, ?_⟩ | refine ⟨⟨hp2, zc hh2 rfl⟩, ?_⟩)
 refine ⟨⟨Tv, ?_⟩, Tv⟩
 rw [hkv] at hz0 hnx hsm hh
 generalize nd.1.tdiv (IntKind.i64.wrap (1 * 2 ^ (min ((k : Int)).toNat IntKind.i64.bits))) = a at *
 generalize nd.2.tdiv (IntKind.i64.wrap (1 * 2 ^ (min ((k : Int)).toNat IntKind.i64.bits))) = b at *
 refine zh (fun c2 => ?_) (fun c2 => ?_)
 ·have e : (a, b) = ((0 : Int), (0 : Int)) := by
   simp only [Bool.and_eq_true, beq_iff_eq] at c2
   exact Prod.ext c2.1 c2.2.1
  rw [hz0 e] at hT
  rw [hT] at h
  exact ret (h F1 G L q0 q1 q2 ⟨hS1, hW.hx, hW.ox, hW.os, hW.hL, hW.hF⟩)
 have hne : (a, b) ≠ ((0 : Int), (0 : Int)) := fun e => by
  cases e
  exact absurd c2 (by decide)
 refine Sa w.U[i].pos (a, b) hpk (Ov hh) _ _ ?_
 have hnp := Ov (bt w.U[i].pos (a, b))
 have hnx := hnx hne
 have hsm := hsm hne
 generalize qv w.U[i].pos (a, b) = np at *
 refine ADraw.of_sched zb (by rfl) (by rfl) zmy (by rfl) ?_
 refine za (o := (F1.un (svS G s w v q0 q1 q2 p)).obj mb) _ hW.m ?_
 refine ⟨zkf hS1 hm.hg (by omega) hm.hb hm.hr (by omega) hn hW.hL hW.hF w.U[i].id w.U[i].kind np hnp _ (fun z F2 a0 a1 a2 hz hS2 => ⟨Tv, ?_⟩), Tv⟩
 refine zh (fun c3 => ?_) (fun c3 => ?_)
 rotate_left
 ·rw [hnx (fun hh => by rw [hz.2 hh] at c3; cases c3)] at hT
  refine zc (by omega) ?_
  refine ⟨(k + 1, F2, a0, a1, a2), ?_, ⟨by dsimp only; omega, rfl, hS2, ?_⟩, ⟨Tq, Tq, Tq, Tq, Tv⟩, ⟨rfl, rfl, Tv⟩⟩
  ·show 5 - (k + 1) < 5 - k
   omega
  ·show qs w w.U[i] nd 5 0 = qs w w.U[i] nd (5 - (k + 1)) (k + 1)
   rw [hT]
   congr 1
   omega
 rw [hsm (hz.1 c3)] at hT
 rw [hT] at h
 have hW2 : MoverG gv F2 G mb s p w v L a0 a1 a2 := ⟨hS2, hW.hx, hW.ox, hW.os, hW.hL, hW.hF⟩
 refine ADraw.of_sched zb (by rfl) (by rfl) zm0 (by rfl) ?_
 refine za (o := (F2.un (svS G s w v a0 a1 a2 p)).obj mb) _ hW.m ?_
 refine ⟨Ox hW2 hm hn hi { w.U[i] with pos := np } rfl hnp _ (fun F3 G3 L3 hW3 => ⟨Tv, ?_⟩), Tv⟩
 exact ret (h F3 G3 L3 a0 a1 a2 hW3)
theorem zuu {gv : AV} {F G : Store} {mb s p : Nat} {w : Wld} {v : AV} {L : List Ent} {o0 o1 o2 : AV} (hW : MoverG gv F G mb s p w v L o0 o1 o2) (hm : MayF w) (hn : ∀ u ∈ w.U, u.pos.ok) {i : Nat} (hi : i < w.U.length) (u : Unt) (hid : w.U[i].id = u.id) (hp : u.pos.ok) (z : Int) (R : AV -> Store -> Prop)
  (h : ∀ F' G' L', MoverG gv F' G' mb s p (z8 w (qu z u)) v L' o0 o1 o2 -> R (.tup []) (F'.un (svS G' s (z8 w (qu z u)) v o0 o1 o2 p))) :
  ACalls Tryz.prog 146 [ptr mb, .agg (zp u), int z] (F.un (svS G s w v o0 o1 o2 p)) R := by
 refine ACalls.of_body (c := cfg 17) zb Tryz.func146 (by rfl) (by rfl) (by rfl) (by rfl) ?_
 refine ADraw.of_sched zb (by rfl) (by rfl) zmv (by rfl) ?_
 refine za (o := (F.un (svS G s w v o0 o1 o2 p)).obj mb) _ hW.m ?_
 refine ⟨Ox hW hm hn hi (qu z u) hid hp _ (fun F3 G3 L3 hW3 => ⟨Tv, ?_⟩), Tv⟩
 exact ret (h F3 G3 L3 hW3)
set_option maxHeartbeats 2000000 in
set_option maxRecDepth 20000 in
theorem zsd {gv : AV} {F G : Store} {mb s p : Nat} {w : Wld} {v : AV} {L : List Ent} {o0 o1 o2 : AV} (hW : MoverG gv F G mb s p w v L o0 o1 o2) (hm : MayF w) (hn : ∀ u ∈ w.U, u.pos.ok) (hmap : ∀ u ∈ w.U, u.inn = 0 -> yr u.pos) {i : Nat} (hi : i < w.U.length) (h0 : w.U[i].inn = 0) (R : AV -> Store -> Prop)
  (h : ∀ F' G' L' q0 q1 q2, MoverG gv F' G' mb s p (w9 w w.U[i]) v L' q0 q1 q2 -> R (.tup []) (F'.un (svS G' s (w9 w w.U[i]) v q0 q1 q2 p))) :
  ACalls Tryz.prog 76 [ptr mb, .agg (zp w.U[i])] (F.un (svS G s w v o0 o1 o2 p)) R := by
 have hU := hm.hU
 have hpu := hmap _ (List.getElem_mem hi) h0
 have hkr := Ax w.U[i].kind
 have hks := Fw w.U[i].kind
 have htiny := zsc hpu (fun x hx h1 => hmap x hx h1) hU
 have hidl := fun (us : List Unt) (h1 : Dv w w.U[i].pos (zk w.U[i].kind + 16384 + 81920) us) h2 => zsb (u := w.U[i]) hm.hr h1 h2
 unfold w9 at h
 refine ACalls.of_body (c := cfg 55) zb Tryz.func76 (by rfl) (by rfl) (by rfl) (by rfl) ?_
 refine xx _ _ _ ?_
 refine ADraw.of_sched zb (by rfl) (by rfl) zk9 (by rfl) ?_
 refine za (o := (F.un (svS G s w v o0 o1 o2 p)).obj mb) _ hW.m ?_
 refine zc (by omega) ?_
 refine ⟨Vk hW.S hm.hr (by omega) hn hW.hL hW.hF w.U[i].pos (v7 hpu) (zk w.U[i].kind + 16384) (by omega) _ (fun F1 us hS1 hus hss hul => ⟨Tv, ?_⟩), Tv⟩
 have hW1 : MoverG gv F1 G mb s p w v L o0 o1 o2 := ⟨hS1, hW.hx, hW.ox, hW.os, hW.hL, hW.hF⟩
 have hid := hidl us hus hss
 have hnv : ∀ k, nV ((us.take k).foldl (jr w.U[i]) (0, 0)) := fun k => bp _ ⟨⟨by decide, by decide⟩, ⟨by decide, by decide⟩⟩
 refine AWp.loop (σ := Nat) ⟨fun k => [(0, .av (ptr mb)), (3, .bx 3 0), (4, .bx 4 0), (5, .bx 5 0), (20, .av (lst 10 zp us)), (21, .av (int (us.length : Nat))), (22, .av (int (k : Nat)))], fun k => [(3, zp w.U[i]), (4, v8 w.U[i].kind), (5, zy ((us.take k).foldl (jr w.U[i]) (0, 0)))],
  fun k st' => k <= us.length /\ st' = F1.un (svS G s w v o0 o1 o2 p), fun k => us.length - k⟩ zb ?_ ?_
 ·refine ⟨0, Tv, ⟨Nat.zero_le _, rfl⟩, ⟨Tq, Tq, Tq, Tq, Tq, ?_, Tq, Tv⟩, ⟨rfl, rfl, rfl, Tv⟩⟩
  exact LV.le_int (by rw [zl])
 rintro k st' ⟨hk, rfl⟩
 refine bcd (fun c1 => ?_) (fun c1 => ?_)
 rotate_left
 ·have : k = us.length := by omega
  have hv : (us.take k).foldl (jr w.U[i]) (0, 0) = Cy w w.U[i] := by
   rw [this, List.take_length, hid]
  rw [<- hv] at h htiny
  have hq4 : (ym w.U[i].kind).tdiv 4 = ym w.U[i].kind / 4 := Int.tdiv_eq_ediv_of_nonneg (by omega)
  refine ADraw.of_sched zb (by rfl) (by rfl) zk7 (by rfl) ?_
  refine ⟨by decide, zc (by rw [hq4]; omega) ?_⟩
  refine ⟨Lx ((us.take k).foldl (jr w.U[i]) (0, 0)) ((ym w.U[i].kind).tdiv 4) htiny (by rw [hq4]; omega) _ _ ⟨(by repeat (first | exact Tv | refine ⟨rfl, ?_⟩ | refine ⟨optR (optR (optR (za _ (zd _ _ _) rfl))), ?_⟩)), ?_⟩, Tv⟩
  refine ⟨Sm hW1 hm hn hi _ (R6 htiny) _ (fun F3 G3 L3 a0 a1 a2 hW3 => ⟨Tv, ?_⟩), Tv⟩
  exact ret (h F3 G3 L3 a0 a1 a2 hW3)
 have hlt : k < us.length := by omega
 have hx := (hus us[k]).1 (List.getElem_mem hlt)
 have hpx := hmap _ hx.1.1 hx.1.2
 have hkx := Ax us[k].kind
 refine ⟨k, rfl, za _ (zn hlt) ?_⟩
 have hstep : (us.take (k + 1)).foldl (jr w.U[i]) (0, 0) = jr w.U[i] ((us.take k).foldl (jr w.U[i]) (0, 0)) us[k] := by
  rw [List.take_succ_eq_append_getElem hlt, List.foldl_append]
  rfl
 refine xd (fun c2 => ?_) (fun c2 => ?_)
 rotate_left
 ·have hst : (us.take (k + 1)).foldl (jr w.U[i]) (0, 0) = (us.take k).foldl (jr w.U[i]) (0, 0) := by
   rw [hstep]
   unfold jr
   rw [if_neg (fun hh => hh c2)]
  refine zc (by omega) ?_
  refine ⟨k + 1, ?_, ⟨hlt, rfl⟩, ⟨Tq, Tq, Tq, Tq, Tq, Tq, Tq, Tv⟩, ⟨rfl, rfl, congrArg (fun x => some (zy x)) hst.symm, Tv⟩⟩
  show us.length - (k + 1) < us.length - k
  omega
 have hst : (us.take (k + 1)).foldl (jr w.U[i]) (0, 0) = qv ((us.take k).foldl (jr w.U[i]) (0, 0)) (j2 w.U[i].pos (zk w.U[i].kind + zk us[k].kind + 16384) us[k].pos) := by
  rw [hstep]
  unfold jr
  rw [if_pos c2]
 have hps := Oe hpu hpx (r := zk w.U[i].kind + zk us[k].kind + 16384) (by omega)
 have hnk := hnv k
 refine ADraw.of_sched zb (by rfl) (by rfl) zk8 (by rfl) ?_
 refine ⟨xx _ _ _ ⟨(by repeat (first | exact Tv | refine ⟨rfl, ?_⟩ | refine ⟨optR (optR (optR (za _ (zd _ _ _) rfl))), ?_⟩)), ?_⟩, Tv⟩
 refine zc (by omega) ?_
 refine zc (by omega) ?_
 refine ⟨zkw w.U[i].pos (zk w.U[i].kind + zk us[k].kind + 16384) us[k].pos hpu hpx (by omega) _ _ ⟨(by repeat (first | exact Tv | refine ⟨rfl, ?_⟩ | refine ⟨optR (optR (optR (za _ (zd _ _ _) rfl))), ?_⟩)), ?_⟩, Tv⟩
 refine ⟨Sa _ _ (Ov hnk) ⟨⟨by omega, by omega⟩, ⟨by omega, by omega⟩⟩ _ _ ⟨(by repeat (first | exact Tv | refine ⟨rfl, ?_⟩ | refine ⟨optR (optR (optR (za _ (zd _ _ _) rfl))), ?_⟩)), ?_⟩, Tv⟩
 refine ⟨⟨(by repeat (first | exact Tv | refine ⟨rfl, ?_⟩ | refine ⟨optR (optR (optR (za _ (zd _ _ _) rfl))), ?_⟩)), ?_⟩, Tv⟩
 refine zc (by omega) ?_
 refine ⟨k + 1, ?_, ⟨hlt, rfl⟩, ⟨Tq, Tq, Tq, Tq, Tq, Tq, Tq, Tv⟩, ⟨rfl, rfl, congrArg (fun x => some (zy x)) hst.symm, Tv⟩⟩
 show us.length - (k + 1) < us.length - k
 omega
theorem Wr (w : World) (T : Nat -> Nat -> Prop) : VRel w T (.agg []) (.agg #[]) := .agg [] #[] rfl (fun i x y hx => by simp at hx)
theorem zqm : Hx Tryz.prog 160 "Net" 448 false = true := by kernel_rfl
theorem lx : Hx Tryz.prog 160 "Ways" 449 false = true := by kernel_rfl
theorem zqn : Meets Tryz.prog 160 (.agg #[]) "Net" 448 (.agg []) := Meets.valB zqm Wr
theorem ly : Meets Tryz.prog 160 (.agg #[]) "Ways" 449 (.agg []) := Meets.valB lx Wr
theorem zpm (g : Gnd) (hg : zi g) (l : List Bld) (hl : l.length <= 1000000000000) (hb : ∀ b ∈ l, yc b /\ onP g b) (c s : Int) (hs : 0 <= s /\ s <= 3) (st : Store) (R : AV -> Store -> Prop) (h : ∀ b, Fresh st b -> R (ptr b) (st.setObj b (.cells (Au g l c s)))) :
  ACalls Tryz.prog 448 [.agg [], .agg (zr g), lst 6 zz l, int c, int s] st R := by
 refine ACalls.of_body (c := cfg 16) zb Tryz.func448 (by rfl) (by rfl) (by rfl) (by rfl) ?_
 refine dv g hg l hl hb c s hs _ _ (fun b hf => ?_)
 exact ret (h b hf)
theorem zpb (g : Gnd) (hg : zi g) (l : List Bld) (hl : l.length <= 1000000000000) (hb : ∀ b ∈ l, yc b /\ onP g b) (c s : Int) (hs : 0 <= s /\ s <= 3) (goal : Nat) (hgo : goal < g.T.length) (st : Store) (R : AV -> Store -> Prop)
  (h : ∀ b, Fresh st b -> R (.s (.slice (some ⟨b, 0, none⟩) g.T.length g.T.length)) (st.setObj b (.cells (il g.T.length (qb g (zf g l c s) c (yl g (zf g l c s) c goal)))))) :
  ACalls Tryz.prog 449 [.agg [], .agg (zr g), lst 6 zz l, int c, int s, int (goal : Nat)] st R := by
 refine ACalls.of_body (c := cfg 20) zb Tryz.func449 (by rfl) (by rfl) (by rfl) (by rfl) ?_
 refine dv g hg l hl hb c s hs _ _ (fun nb hf => ?_)
 refine oe hg (zd _ _ _) goal hgo _ (fun b hf2 => ?_)
 have hnb : nb ≠ b := fun e => by
  have := hf2.1
  rw [<- e, zd] at this; cases this
 have hfb : Fresh st b := by
  have := hf2
  unfold Fresh at this ⊢
  rw [zw (Ne.symm hnb)] at this
  exact this
 refine vg (Tt) ?_ (h b hfb)
 rw [Fx (Ne.symm hnb)]
 refine Ay ?_
 rw [zw hnb]
 exact hf.1
theorem zr7 {S : Store} {b n : Nat} {f : Nat -> Int} (hb : S.obj b = some (.cells (il n f))) (hn : n <= 1000000) (x : Int) (R : AV -> Store -> Prop) (h : ∀ r : Int, ((0 : Int) <= r ↔ (List.range n).any (fun j => f j == x) = true) -> R (int r) S) :
  ACalls Tryz.prog 316 [.s (.slice (some ⟨b, 0, none⟩) n n), int x] S R := by
 refine ACalls.of_body (c := cfg 19) zb Tryz.func316 (by rfl) (by rfl) (by rfl) (by rfl) ?_
 refine AWp.loop (σ := Nat) ⟨fun i => [(0, .av (.s (.slice (some ⟨b, 0, none⟩) n n))), (1, .av (int x)), (7, .av (int (n : Nat))), (8, .av (int (i : Nat)))], fun _ => [],
  fun i st' => i <= n /\ st' = S /\ ∀ j, j < i -> (f j == x) = false, fun i => n - i⟩ zb ?_ ?_
 ·exact ⟨0, Tv, ⟨Nat.zero_le _, rfl, fun j hj => absurd hj (Nat.not_lt_zero j)⟩, ⟨Tq, Tq, Tq, Tq, Tv⟩, Tv⟩
 rintro i st' ⟨hi, rfl, hall⟩
 refine bcd (fun c1 => ?_) (fun c1 => ?_)
 rotate_left
 ·have : i = n := by omega
  subst this
  refine ret (h (-1) ?_)
  rw [zxo hall]
  simp
 have hlt : i < n := by omega
 refine ⟨i, rfl, hlt, ?_⟩
 refine za (o := st'.obj b) _ hb ?_
 refine za _ (jh hlt) ?_
 refine yj (fun c2 => ?_) (fun c2 => ?_)
 ·refine ret (h i ?_)
  rw [zxp hlt (by rw [c2]; simp)]
  simp
 ·refine zc (by omega) ?_
  refine ⟨i + 1, ?_, ⟨by omega, rfl, fun j hj => ?_⟩, ⟨Tq, Tq, Tq, Tq, Tv⟩, Tv⟩
  ·show n - (i + 1) < n - i
   omega
  ·by_cases e : j = i
   ·subst e
    rw [beq_eq_false_iff_ne]
    exact fun e => c2 e.symm
   ·exact hall j (by omega)
theorem zvx {S : Store} {b n : Nat} {f : Nat -> Int} (hb : S.obj b = some (.cells (il n f))) (hn : n <= 1000000) (x : Int) (R : AV -> Store -> Prop) (h : R (V.bool ((List.range n).any (fun j => f j == x))) S) :
  ACalls Tryz.prog 235 [.s (.slice (some ⟨b, 0, none⟩) n n), int x] S R := by
 refine ACalls.of_body (c := cfg 9) zb Tryz.func235 (by rfl) (by rfl) (by rfl) (by rfl) ?_
 refine zr7 hb hn x _ (fun r hr => ?_)
 have e : decide (r >= 0) = (List.range n).any (fun j => f j == x) := by
  rw [Bool.eq_iff_iff, decide_eq_true_iff]
  exact hr
 rw [<- e] at h
 exact ret h
end Go.Proofs
namespace Go.Proofs
open Go Go.V
set_option maxRecDepth 4000
theorem Nb {g : Gnd} (hg : zi g) {t : Int} (h : jb g t) : t = -1 \/ ∃ k : Nat, t = k /\ k < g.T.length := by
 rcases h with h | ⟨h1, h2⟩
 ·exact .inl h
 ·obtain ⟨k, rfl⟩ := Int.eq_ofNat_of_zero_le h1
  exact .inr ⟨k, rfl, by have := hg.2.2.1; omega⟩
theorem nz {w : Wld} {u : Unt} {d : Vc} (h : ¬ wk w u d < 5) : jz w u d = w := by
 unfold wk at h
 unfold jz
 cases hl : qs w u (qi d) 5 0 with
 | none => rfl
 | some r =>
  rw [hl] at h
  obtain ⟨k, q⟩ := r
  have := (Fo _ _ hl).2.1.2
  dsimp only at this h
  exact absurd (by omega) h
end Go.Proofs
