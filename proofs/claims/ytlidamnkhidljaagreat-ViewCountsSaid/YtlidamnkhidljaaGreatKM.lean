/- The ground on which laws of thronglaw31 are proved: contracts of functions and plain lemmas; no condition beyond the row's own. -/
import Derived.Test.YtlidamnkhidljaaGreatKK
import Derived.Test.YtlidamnkhidljaaGreatKE
import Derived.Test.YtlidamnkhidljaaGreatKL
set_option linter.unusedSimpArgs false
set_option linter.unusedVariables false
namespace Go.Proofs
open Go Go.V
set_option maxRecDepth 4000
theorem zf7 {t : UInt8} (h : t.toNat <= 5) : t = 0 \/ t = 1 \/ t = 2 \/ t = 3 \/ t = 4 \/ t = 5 := by
 have : t.toNat = (0 : UInt8).toNat \/ t.toNat = (1 : UInt8).toNat \/ t.toNat = (2 : UInt8).toNat \/ t.toNat = (3 : UInt8).toNat \/ t.toNat = (4 : UInt8).toNat \/ t.toNat = (5 : UInt8).toNat := by
  show t.toNat = 0 \/ t.toNat = 1 \/ t.toNat = 2 \/ t.toNat = 3 \/ t.toNat = 4 \/ t.toNat = 5
  omega
 simpa only [UInt8.toNat_inj] using this
theorem jz (k : Int) (st : Store) (R : AV -> Store -> Prop) (h : R (.agg (zgm k)) st) : ACalls Tryz.prog 70 [int k] st R := by
 refine ACalls.of_body (c := cfg 14) zd Tryz.func70 (by rfl) (by rfl) (by rfl) (by rfl) ?_
 unfold zgm kRad zk9 kCls zla jn at h
 refine bceq (fun h1 => ?_) (fun h1 => ?_)
 ·simp only [h1] at h
  exact ret h
 refine bceq (fun h2 => ?_) (fun h2 => ?_)
 ·simp only [h2] at h
  exact ret h
 refine bceq (fun h3 => ?_) (fun h3 => ?_)
 ·simp only [h3] at h
  exact ret h
 simp only [h1, h2, h3, if_false] at h
 exact ret h
theorem zhr (k : Int) (st : Store) (R : AV -> Store -> Prop) (h : x9 k -> R (.tup [.agg (zgm k), bool true]) st) (h' : ¬ x9 k -> R (.tup [.agg [int 0, int 0, int 0, int 0, int 0], bool false]) st) : ACalls Tryz.prog 39 [int k] st R := by
 refine ACalls.of_body (c := cfg 18) zd Tryz.func39 (by rfl) (by rfl) (by rfl) (by rfl) ?_
 unfold zgm kRad zk9 kCls zla jn x9 at h
 refine bceq (fun h1 => ?_) (fun h1 => ?_)
 ·simp only [h1] at h
  exact ret (h (by decide))
 refine bceq (fun h2 => ?_) (fun h2 => ?_)
 ·simp only [h2] at h
  exact ret (h (by decide))
 refine bceq (fun h3 => ?_) (fun h3 => ?_)
 ·simp only [h3] at h
  exact ret (h (by decide))
 refine bceq (fun h4 => ?_) (fun h4 => ?_)
 ·simp only [h4] at h
  exact ret (h (by decide))
 exact ret (h' (by unfold x9; omega))
theorem kq (k : Int) (hk : x9 k) (st : Store) (R : AV -> Store -> Prop) (h : R (.agg (zgm k)) st) : ACalls Tryz.prog 22 [int k] st R := by
 refine ACalls.of_body (c := cfg 11) zd Tryz.func22 (by rfl) (by rfl) (by rfl) (by rfl) ?_
 refine zhr k _ _ (fun _ => ret h) (fun h1 => absurd hk h1)
theorem zin (c : Int) (t : UInt8) (ht : t.toNat <= 5) (st : Store) (R : AV -> Store -> Prop) (h : R (int (zdn c t.toNat)) st) : ACalls Tryz.prog 117 [int c, u8 t] st R := by
 refine ACalls.of_body (c := cfg 17) zd Tryz.func117 (by rfl) (by rfl) (by rfl) (by rfl) ?_
 unfold zdn at h
 have hn := zf7 ht
 refine bceq (fun h1 => ?_) (fun h1 => ?_)
 ·rw [if_pos h1] at h
  rcases hn with rfl | rfl | rfl | rfl | rfl | rfl <;> exact ⟨_, rfl, by decide, optR (ret h)⟩
 refine bceq (fun h2 => ?_) (fun h2 => ?_)
 ·rw [if_neg h1, if_pos h2] at h
  rcases hn with rfl | rfl | rfl | rfl | rfl | rfl <;> exact ⟨_, rfl, by decide, optR (ret h)⟩
 rw [if_neg h1, if_neg h2] at h
 rcases hn with rfl | rfl | rfl | rfl | rfl | rfl <;> exact ⟨_, rfl, by decide, optR (ret h)⟩
theorem zl3 (c : Int) (hc : c = 0 \/ c = 1 \/ c = 2) (t : UInt8) (ht : t.toNat <= 5) (st : Store) (R : AV -> Store -> Prop) (h : R (int (zdn c t.toNat)) st) : ACalls Tryz.prog 77 [int c, u8 t] st R := by
 refine ACalls.of_body (c := cfg 15) zd Tryz.func77 (by rfl) (by rfl) (by rfl) (by rfl) ?_
 unfold zdn at h
 have hn := zf7 ht
 rcases hc with rfl | rfl | rfl <;> rcases hn with rfl | rfl | rfl | rfl | rfl | rfl <;> exact ⟨_, rfl, by decide, _, rfl, by decide, optR (ret h)⟩
theorem zlg (g : Gnd) (hg : gndP g) (t : Nat) (ht : (t : Int) < g.W * g.H) (p : Vc) (hp : yx p.1 p.2) (r : Int) (hr : 0 < r /\ r <= 262144) (st : Store) (R : AV -> Store -> Prop) (h : R (bool (decide (hitP g t p r))) st) :
  ACalls Tryz.prog 97 [.agg (gndC g), int t, .agg (vecC p), int r] st R := by
 have hb := zct hg ht
 have hn := zqc hg ht hp hr.1
 have hx := txty hg ht
 have hq := trem (t := t) hg.1.1
 have hq2 := tquo (t := t) hg.1.1
 have hg1 := hg.1
 have hg2 := hg.2.1
 have hp' := hp
 unfold yx at hp'
 refine ACalls.of_body (c := cfg 41) zd Tryz.func97 (by rfl) (by rfl) (by rfl) (by rfl) ?_
 refine ADraw.of_sched zd (by rfl) (by rfl) zt1 (by rfl) ?_
 refine ⟨by omega, ?_⟩
 have q1 : yb ((t : Int).tmod g.W * 65536) := by rw [hq]; unfold yb; omega
 have q2 : yb ((t : Int).tdiv g.W) := by rw [hq2]; unfold yb; omega
 have q3 : yb ((t : Int).tdiv g.W * 65536) := by rw [hq2]; unfold yb; omega
 refine ⟨q1, ?_⟩
 refine ⟨by omega, ?_⟩
 refine ⟨q2, ?_⟩
 refine ⟨q3, ?_⟩
 refine ⟨⟨(by repeat (first | exact Tv | refine ⟨rfl, ?_⟩ | refine ⟨optR (optR (optR (za _ (zb _ _ _) rfl))), ?_⟩)), ?_⟩, Tv⟩
 refine ⟨⟨Tv, ?_⟩, Tv⟩
 have e1 : (t : Int).tmod g.W * 65536 = tx g t := by rw [hq]; rfl
 have e2 : (t : Int).tdiv g.W * 65536 = ty g t := by rw [hq2]; rfl
 rw [e1, e2]
 refine in64 (by omega) ?_
 refine in64 (by omega) ?_
 have c1 := zba (x := p.1) hx.1
 have c2 := zba (x := p.2) hx.2
 refine wj p (va p.1 (tx g t), va p.2 (ty g t)) r ⟨⟨by omega, by omega⟩, ⟨by omega, by omega⟩⟩ ⟨⟨by dsimp only; omega, by dsimp only; omega⟩, ⟨by dsimp only; omega, by dsimp only; omega⟩⟩ (by omega) _ _ (ret ?_)
 rw [hn]
 exact h
theorem zhn (x lo : Int) (hx : -1099511627776 <= x /\ x <= 1099511627776) (hlo : 0 <= lo /\ lo <= 8323072) (st : Store) (R : AV -> Store -> Prop) (h : R (int (off x lo)) st) : ACalls Tryz.prog 78 [int x, int lo, int (lo + 65536)] st R := by
 refine ACalls.of_body (c := cfg 19) zd Tryz.func78 (by rfl) (by rfl) (by rfl) (by rfl) ?_
 unfold off at h
 refine bcd (fun c1 => ?_) (fun c1 => ?_)
 ·refine in64 (by omega) ?_
  rw [if_pos c1] at h
  exact ret h
 rw [if_neg c1] at h
 refine bcd (fun c2 => ?_) (fun c2 => ?_)
 ·refine in64 (by omega) ?_
  rw [if_pos c2] at h
  exact ret h
 rw [if_neg c2] at h
 exact ret h
theorem zit (g : Gnd) (hg : gndP g) (t : Nat) (ht : (t : Int) < g.W * g.H) (p : Vc) (hp : yx p.1 p.2) (r : Int) (hr : 0 < r /\ r <= 262144) (st : Store) (R : AV -> Store -> Prop) (h : R (bool (decide (hitP g t p r))) st) :
  ACalls Tryz.prog 60 [.agg (gndC g), int t, .agg (vecC p), int r] st R := by
 have hb := zct hg ht
 have hx := txty hg ht
 have hq := trem (t := t) hg.1.1
 have hq2 := tquo (t := t) hg.1.1
 have hg1 := hg.1
 have hg2 := hg.2.1
 have hp' := hp
 unfold yx at hp'
 have o1 := zvx hx.1 hp'.1
 have o2 := zvx hx.2 hp'.2
 have hm := zk2 o1.1 o2.1 hr.1
 refine ACalls.of_body (c := cfg 56) zd Tryz.func60 (by rfl) (by rfl) (by rfl) (by rfl) ?_
 refine ADraw.of_sched zd (by rfl) (by rfl) zuf (by rfl) ?_
 refine ⟨by omega, ?_⟩
 have q1 : yb ((t : Int).tmod g.W * 65536) := by rw [hq]; unfold yb; omega
 have q2 : yb ((t : Int).tdiv g.W) := by rw [hq2]; unfold yb; omega
 have q3 : yb ((t : Int).tdiv g.W * 65536) := by rw [hq2]; unfold yb; omega
 refine ⟨q1, ?_⟩
 refine ⟨by omega, ?_⟩
 refine ⟨q2, ?_⟩
 refine ⟨q3, ?_⟩
 refine ⟨⟨(by repeat (first | exact Tv | refine ⟨rfl, ?_⟩ | refine ⟨optR (optR (optR (za _ (zb _ _ _) rfl))), ?_⟩)), ?_⟩, Tv⟩
 refine ⟨⟨Tv, ?_⟩, Tv⟩
 have e1 : (t : Int).tmod g.W * 65536 = tx g t := by rw [hq]; rfl
 have e2 : (t : Int).tdiv g.W * 65536 = ty g t := by rw [hq2]; rfl
 rw [e1, e2]
 refine ADraw.of_sched zd (by rfl) (by rfl) zue (by rfl) ?_
 refine in64 (by omega) ?_
 refine in64 (by omega) ?_
 refine ⟨zhn p.1 (tx g t) hp'.1 hx.1 _ _ ⟨(by repeat (first | exact Tv | refine ⟨rfl, ?_⟩ | refine ⟨optR (optR (optR (za _ (zb _ _ _) rfl))), ?_⟩)), ?_⟩, Tv⟩
 refine ⟨zhn p.2 (ty g t) hp'.2 hx.2 _ _ ⟨Tv, ?_⟩, Tv⟩
 refine ⟨⟨Tv, ?_⟩, Tv⟩
 refine ⟨⟨Tv, ?_⟩, Tv⟩
 unfold hitP at h
 have no : ¬ (off p.1 (tx g t) < r /\ off p.2 (ty g t) < r /\ off p.1 (tx g t) * off p.1 (tx g t) + off p.2 (ty g t) * off p.2 (ty g t) < r * r) -> R (bool false) st := fun hh => isF h (decide_eq_false fun k => hh (hm.2 k))
 refine bcd (fun c1 => ?_) (fun c1 => ret (no fun k => c1 k.1))
 refine bcd (fun c2 => ?_) (fun c2 => ret (no fun k => c2 k.2.1))
 have s1 := zty (a := off p.1 (tx g t)) (by omega)
 have s2 := zty (a := off p.2 (ty g t)) (by omega)
 have s3 := zty (a := r) (by omega)
 refine in64 (by omega) ?_
 refine in64 (by omega) ?_
 refine in64 (by omega) ?_
 refine in64 (by omega) ?_
 exact ret h
set_option maxRecDepth 20000 in
theorem zjd (p : Vc) (r : Int) (st : Store) (R : AV -> Store -> Prop) (h : ∀ z : Bool, (z = true ↔ (0 <= r /\ r <= 262144) /\ yx p.1 p.2) -> R (bool z) st) : ACalls Tryz.prog 96 [.agg (vecC p), int r] st R := by
 refine ACalls.of_body (c := cfg 15) zd Tryz.func96 (by rfl) (by rfl) (by rfl) (by rfl) ?_
 repeat' (first | refine bcd (fun _ => ?_) (fun _ => ?_) | refine ze (fun _ => ?_) (fun _ => ?_) | refine in64 (by omega) ?_ | (refine zio p _ _ ?_; rintro (_ | _) hz)| fail)
 all_goals
  refine ret (h _ ?_)
  simp only [decide_eq_true_eq, decide_eq_false_iff_not, Bool.false_eq_true, false_iff, true_iff, beq_iff_eq, bne_iff_ne, beq_eq_false_iff_ne, ne_eq, reduceCtorEq, yx] at *
  omega
theorem zcw (r : Int) (hr : 0 < r /\ r <= 262144) (st : Store) (R : AV -> Store -> Prop) (h : R (int r) st) : ACalls Tryz.prog 101 [int r] st R := by
 refine ACalls.of_body (c := cfg 6) zd Tryz.func101 (by rfl) (by rfl) (by rfl) (by rfl) ?_
 have e : min2 (max2 r 0) 262144 = r := by rw [zdq, zds]; omega
 rw [<- e] at h
 exact ret h
theorem zjm (p : Vc) (r : Int) (q : Vc) (s : Int) (hp : p.ok) (hq : q.ok) (hr : 0 < r /\ r <= 262144) (hs : 0 < s /\ s <= 262144) (st : Store) (R : AV -> Store -> Prop) (h : R (bool (k6 p r q s)) st) :
  ACalls Tryz.prog 74 [.agg (vecC p), int r, .agg (vecC q), int s] st R := by
 refine ACalls.of_body (c := cfg 18) zd Tryz.func74 (by rfl) (by rfl) (by rfl) (by rfl) ?_
 refine ADraw.of_sched zd (by rfl) (by rfl) zt9 (by rfl) ?_
 refine ⟨zcw r hr _ _ ⟨(by repeat (first | exact Tv | refine ⟨rfl, ?_⟩ | refine ⟨optR (optR (optR (za _ (zb _ _ _) rfl))), ?_⟩)), ?_⟩, Tv⟩
 refine ⟨zcw s hs _ _ ⟨(by repeat (first | exact Tv | refine ⟨rfl, ?_⟩ | refine ⟨optR (optR (optR (za _ (zb _ _ _) rfl))), ?_⟩)), ?_⟩, Tv⟩
 refine in64 (by omega) ?_
 refine ⟨wj p q (r + s) hp hq (by omega) _ _ ⟨Tv, ?_⟩, Tv⟩
 exact ⟨⟨Tv, ret h⟩, Tv⟩
theorem zgi (p : Vc) (r : Int) (q : Vc) (s : Int) (hp : p.ok) (hq : q.ok) (hr : 0 < r /\ r <= 262144) (hs : 0 < s /\ s <= 262144) (st : Store) (R : AV -> Store -> Prop) (h : R (bool (k6 p r q s)) st) :
  ACalls Tryz.prog 42 [.agg (vecC p), int r, .agg (vecC q), int s] st R := by
 have e1 : max2 0 (min2 r 262144) = r := by rw [zdq, zds]; omega
 have e2 : max2 0 (min2 s 262144) = s := by rw [zdq, zds]; omega
 unfold k6 at h
 rw [<- e1, <- e2] at h
 refine ACalls.of_body (c := cfg 20) zd Tryz.func42 (by rfl) (by rfl) (by rfl) (by rfl) ?_
 refine in64 (by rw [e1, e2]; omega) ?_
 exact zer p q _ hp hq (by rw [e1, e2]; exact ⟨by omega, by omega⟩) _ _ (ret h)
theorem zfu (l : List Bld) (hl : l.length <= 1000000000000) (st : Store) (R : AV -> Store -> Prop) (h : ∀ z : Bool, (z = true ↔ zeu l) -> R (bool z) st) : ACalls Tryz.prog 86 [lst 6 bldC l] st R := by
 refine ACalls.of_body (c := cfg 22) zd Tryz.func86 (by rfl) (by rfl) (by rfl) (by rfl) ?_
 refine AWp.loop (σ := Nat) ⟨fun i => [(0, .av (lst 6 bldC l)), (3, .av (int (i : Nat)))], fun _ => [],
  fun i st' => 1 <= i /\ (i <= l.length \/ i = 1) /\ st' = st /\ ∀ j, (h : j < l.length) -> j < i -> 0 < j -> (l[j - 1]'(by omega)).id < l[j].id, fun i => l.length - i⟩ zd ?_ ?_
 ·exact ⟨1, Tv, ⟨Nat.le_refl _, .inr rfl, rfl, fun j _ hj => by omega⟩, ⟨Tq, Tq, Tv⟩, Tv⟩
 ·rintro i st' ⟨hi1, hi, rfl, hall⟩
  refine ze (fun h1 => ?_) (fun h1 => ?_)
  ·have hlt : i < l.length := ql h1
   refine ADraw.of_sched zd (by rfl) (by rfl) zt5 (by rfl) ?_
   refine in64 (by omega) ?_
   refine ⟨i - 1, by omega, za _ (zg (show i - 1 < l.length by omega)) ?_⟩
   refine ⟨i, rfl, za _ (zg hlt) ?_⟩
   refine bcd (fun h2 => ret (h _ ?_)) (fun h2 => ?_)
   ·simp only [Bool.false_eq_true, false_iff]
    intro h3
    have := h3 i hlt (by omega)
    omega
   ·refine in64 (by omega) ?_
    refine ⟨i + 1, ?_, ⟨by omega, .inl hlt, rfl, fun j hj h0 h00 => ?_⟩, ⟨Tq, Tq, Tv⟩, Tv⟩
    ·show l.length - (i + 1) < l.length - i
     omega
    ·by_cases hji : j = i
     ·subst hji
      omega
     ·exact hall j hj (by omega) h00
  ·have hge : ¬ i < l.length := by
    rw [zi] at h1
    simpa using h1
   refine ret (h _ ?_)
   simp only [true_iff]
   exact fun j hj h0 => hall j hj (by omega) h0
theorem zkl (l : List Bld) (hl : l.length <= 1000000000000) (st : Store) (R : AV -> Store -> Prop) (h : ∀ z : Bool, (z = true ↔ zeu l) -> R (bool z) st) : ACalls Tryz.prog 54 [lst 6 bldC l] st R := by
 refine ACalls.of_body (c := cfg 22) zd Tryz.func54 (by rfl) (by rfl) (by rfl) (by rfl) ?_
 refine AWp.loop (σ := Nat) ⟨fun i => [(0, .av (lst 6 bldC l)), (3, .av (int (i : Nat)))], fun _ => [],
  fun i st' => 1 <= i /\ (i <= l.length \/ i = 1) /\ st' = st /\ ∀ j, (h : j < l.length) -> j < i -> 0 < j -> (l[j - 1]'(by omega)).id < l[j].id, fun i => l.length - i⟩ zd ?_ ?_
 ·exact ⟨1, Tv, ⟨Nat.le_refl _, .inr rfl, rfl, fun j _ hj => by omega⟩, ⟨Tq, Tq, Tv⟩, Tv⟩
 ·rintro i st' ⟨hi1, hi, rfl, hall⟩
  refine ze (fun h1 => ?_) (fun h1 => ?_)
  ·have hlt : i < l.length := ql h1
   refine ADraw.of_sched zd (by rfl) (by rfl) zug (by rfl) ?_
   refine ⟨i, rfl, za _ (zg hlt) ?_⟩
   refine in64 (by omega) ?_
   refine ⟨i - 1, by omega, za _ (zg (show i - 1 < l.length by omega)) ?_⟩
   refine bcd (fun h2 => ret (h _ ?_)) (fun h2 => ?_)
   ·simp only [Bool.false_eq_true, false_iff]
    intro h3
    have := h3 i hlt (by omega)
    omega
   ·refine in64 (by omega) ?_
    refine ⟨i + 1, ?_, ⟨by omega, .inl hlt, rfl, fun j hj h0 h00 => ?_⟩, ⟨Tq, Tq, Tv⟩, Tv⟩
    ·show l.length - (i + 1) < l.length - i
     omega
    ·by_cases hji : j = i
     ·subst hji
      omega
     ·exact hall j hj (by omega) h00
  ·have hge : ¬ i < l.length := by
    rw [zi] at h1
    simpa using h1
   refine ret (h _ ?_)
   simp only [true_iff]
   exact fun j hj h0 => hall j hj (by omega) h0
theorem zk3 (g : Gnd) (hg : gndP g) (a b : Bld) (ha : bldP a /\ onP g a) (hb : bldP b /\ onP g b) (st : Store) (R : AV -> Store -> Prop) (h : ∀ z : Bool, (z = true ↔ v6 a b) -> R (bool z) st) : ACalls Tryz.prog 58 [.agg (bldC a), .agg (bldC b)] st R := by
 unfold bldP onP at ha hb
 unfold v6 at h
 unfold gndP at hg
 refine ACalls.of_body (c := cfg 43) zd Tryz.func58 (by rfl) (by rfl) (by rfl) (by rfl) ?_
 refine in64 (by omega) ?_
 refine bcd (fun c1 => ?_) (fun c1 => ret (h _ (by simp; omega)))
 refine in64 (by omega) ?_
 refine bcd (fun c2 => ?_) (fun c2 => ret (h _ (by simp; omega)))
 refine in64 (by omega) ?_
 refine bcd (fun c3 => ?_) (fun c3 => ret (h _ (by simp; omega)))
 refine in64 (by omega) ?_
 exact ret (h _ (by rw [decide_eq_true_iff]; omega))
theorem zqg (g : Gnd) (hg : gndP g) (b : Bld) (hb : bldP b /\ onP g b) (t : Nat) (ht : (t : Int) < g.W * g.H) (st : Store) (R : AV -> Store -> Prop) (h : ∀ z : Bool, (z = true ↔ hasP g b t) -> R (bool z) st) :
  ACalls Tryz.prog 76 [.agg (gndC g), .agg (bldC b), int t] st R := by
 have htb := zct hg ht
 have hq := trem (t := t) hg.1.1
 have hq2 := tquo (t := t) hg.1.1
 unfold bldP onP at hb
 unfold hasP at h
 have hg1 := hg.1
 have hg2 := hg.2.1
 refine ACalls.of_body (c := cfg 45) zd Tryz.func76 (by rfl) (by rfl) (by rfl) (by rfl) ?_
 refine ADraw.of_sched zd (by rfl) (by rfl) zt8 (by rfl) ?_
 refine ⟨by omega, ?_⟩
 refine ⟨by omega, ?_⟩
 refine in64 (by omega) ?_
 refine ⟨⟨(by repeat (first | exact Tv | refine ⟨rfl, ?_⟩ | refine ⟨optR (optR (optR (za _ (zb _ _ _) rfl))), ?_⟩)), ?_⟩, Tv⟩
 refine ⟨⟨Tv, ?_⟩, Tv⟩
 rw [<- hq, <- hq2] at h
 refine bcd (fun c1 => ?_) (fun c1 => ret (h _ (by simp; omega)))
 refine in64 (by omega) ?_
 refine bcd (fun c2 => ?_) (fun c2 => ret (h _ (by simp; omega)))
 refine bcd (fun c3 => ?_) (fun c3 => ret (h _ (by simp; omega)))
 refine in64 (by omega) ?_
 exact ret (h _ (by rw [decide_eq_true_iff]; omega))
theorem zik (g : Gnd) (hg : gndP g) (b : Bld) (hb : bldP b /\ onP g b) (st : Store) (R : AV -> Store -> Prop) (h : ∀ z : Bool, (z = true ↔ zcl g b) -> R (bool z) st) :
  ACalls Tryz.prog 57 [.agg (gndC g), .agg (bldC b)] st R := by
 have hm := z7 hg
 refine ACalls.of_body (c := cfg 35) zd Tryz.func57 (by rfl) (by rfl) (by rfl) (by rfl) ?_
 refine AWp.loop (σ := Nat) ⟨fun i => [(2, .bx 2 0), (3, .bx 3 0), (5, .av (int (i : Nat)))], fun _ => [(2, gndC g), (3, bldC b)],
  fun i st' => i <= g.T.length /\ st' = st /\ ∀ t, t < i -> hasP g b t -> (g.T.getD t 0).toNat <= 1, fun i => g.T.length - i⟩ zd ?_ ?_
 ·exact ⟨0, Tv, ⟨Nat.zero_le _, rfl, fun t ht => by omega⟩, ⟨Tq, Tq, Tq, Tv⟩, ⟨rfl, rfl, Tv⟩⟩
 rintro i st' ⟨hi, rfl, hall⟩
 refine in64 (by omega) ?_
 refine bcd (fun h1 => ?_) (fun h1 => ?_)
 rotate_left
 ·refine ret (h _ ?_)
  simp only [true_iff]
  intro t ht
  exact hall t (by omega)
 have hlt : i < g.T.length := by omega
 have hget : g.T.getD i 0 = g.T[i] := by simp [hlt]
 have next : (hasP g b i -> (g.T.getD i 0).toNat <= 1) -> ∀ t, t < i + 1 -> hasP g b t -> (g.T.getD t 0).toNat <= 1 := by
  intro hq t ht hh
  by_cases e : t = i
  ·subst e; exact hq hh
  ·exact hall t (by omega) hh
 refine zqg g hg b hb i (by omega) _ _ (fun z hz => ?_)
 cases z with
 | false =>
  refine in64 (by omega) ?_
  refine ⟨i + 1, ?_, ⟨by omega, rfl, next fun hh => by have := hz.2 hh; cases this⟩, ⟨Tq, Tq, Tq, Tv⟩, ⟨rfl, rfl, Tv⟩⟩
  show g.T.length - (i + 1) < g.T.length - i
  omega
 | true =>
  refine ⟨i, rfl, za _ (zg hlt) ?_⟩
  have fin : (g.T[i].toNat <= 1) -> ∃ s : Nat, g.T.length - s < g.T.length - i /\ (s <= g.T.length /\ st' = st' /\ ∀ t, t < s -> hasP g b t -> (g.T.getD t 0).toNat <= 1) /\ s = i + 1 :=
   fun hh => ⟨i + 1, by omega, ⟨by omega, rfl, next fun _ => by rw [hget]; exact hh⟩, rfl⟩
  refine bcne (fun c1 => ?_) (fun c1 => ?_)
  ·refine ⟨i, rfl, za _ (zg hlt) ?_⟩
   refine bcne (fun c2 => ?_) (fun c2 => ?_)
   ·refine ret (h _ ?_)
    simp only [Bool.false_eq_true, false_iff]
    intro hf
    have := hf i hlt (hz.1 rfl)
    rw [hget] at this
    omega
   ·obtain ⟨s, f1, f2, rfl⟩ := fin (by omega)
    refine in64 (by omega) ?_
    exact ⟨i + 1, f1, f2, ⟨Tq, Tq, Tq, Tv⟩, ⟨rfl, rfl, Tv⟩⟩
  ·obtain ⟨s, f1, f2, rfl⟩ := fin (by omega)
   refine in64 (by omega) ?_
   exact ⟨i + 1, f1, f2, ⟨Tq, Tq, Tq, Tv⟩, ⟨rfl, rfl, Tv⟩⟩
theorem wn (g : Gnd) (hg : gndP g) (b : Bld) (hb : bldP b /\ onP g b) (st : Store) (R : AV -> Store -> Prop) (h : R (ints (xa g.W b)) st) : ACalls Tryz.prog 49 [.agg (gndC g), .agg (bldC b)] st R := by
 have hb' := hb
 unfold bldP onP at hb'
 have hg1 := hg.1
 have hg2 := hg.2.1
 refine ACalls.of_body (c := cfg 35) zd Tryz.func49 (by rfl) (by rfl) (by rfl) (by rfl) ?_
 refine AWp.loop (σ := Nat × AV) ⟨fun s => [(2, .bx 2 0), (3, .bx 3 0), (4, .av s.2), (8, .av (int b.h)), (9, .av (int (s.1 : Nat)))], fun _ => [(2, gndC g), (3, bldC b)],
  fun s st' => s.1 <= b.h.toNat /\ App 1 st s.2 (rws intC (qm g.W b s.1)) st', fun s => b.h.toNat - s.1⟩ zd ?_ ?_
 ·exact ⟨(0, _), Tv, ⟨Nat.zero_le _, App.start 1 st⟩, ⟨Tq, Tq, Tq, Tq, Tq, Tv⟩, ⟨rfl, rfl, Tv⟩⟩
 rintro ⟨y, v⟩ st' ⟨hy, ha⟩
 dsimp only at hy ha ⊢
 refine bcd (fun h1 => ?_) (fun h1 => ?_)
 rotate_left
 ·have : y = b.h.toNat := by omega
  subst this
  exact ⟨_, st, AV.le_trans ha.le (Tt), ha.has, h⟩
 refine AWp.loop (σ := Nat × AV) ⟨fun s => [(2, .bx 2 0), (3, .bx 3 0), (4, .av s.2), (5, .av (int (y : Nat))), (8, .av (int b.h)), (9, .av (int (y : Nat))), (13, .av (int b.w)), (14, .av (int (s.1 : Nat)))], fun _ => [(2, gndC g), (3, bldC b)],
  fun s st' => s.1 <= b.w.toNat /\ App 1 st s.2 (rws intC (qm g.W b y ++ qj g.W b y s.1)) st', fun s => b.w.toNat - s.1⟩ zd ?_ ?_
 ·refine ⟨(0, v), Tv, ⟨Nat.zero_le _, ?_⟩, ⟨Tq, Tq, Tq, Tq, Tq, Tq, Tq, Tq, Tv⟩, ⟨rfl, rfl, Tv⟩⟩
  dsimp only
  rw [show qj g.W b y 0 = [] from rfl, List.append_nil]
  exact ha
 rintro ⟨x, v2⟩ st2 ⟨hx, ha2⟩
 dsimp only at hx ha2 ⊢
 refine bcd (fun h2 => ?_) (fun h2 => ?_)
 rotate_left
 ·have : x = b.w.toNat := by omega
  subst this
  refine in64 (by omega) ?_
  refine ⟨(y + 1, v2), ?_, ⟨by dsimp only; omega, ?_⟩, ⟨Tq, Tq, Tq, Tq, Tq, Tv⟩, ⟨rfl, rfl, Tv⟩⟩
  ·show b.h.toNat - (y + 1) < b.h.toNat - y
   omega
  ·dsimp only
   rw [j3]
   exact ha2
 obtain ⟨q1, q2, _⟩ := qn hg (x := b.x + x) (y := b.y + y) (by omega) (by omega)
 have hm := z7 hg
 have q3 : 0 <= g.W * (b.y + (y : Int)) := Int.mul_nonneg (by omega) (by omega)
 refine in64 (by omega) ?_
 refine in64 (by omega) ?_
 refine in64 (by omega) ?_
 refine in64 (by omega) ?_
 refine ⟨by decide, ?_⟩
 have hlen : (qm g.W b y ++ qj g.W b y x).length <= 16 := by
  rw [List.length_append, vg, zbf]
  have : y * b.w.toNat <= 3 * 4 := Nat.mul_le_mul (by omega) (by omega)
  omega
 refine qu (ie := ti3) (rows' := [intC (b.x + (x : Int) + g.W * (b.y + (y : Int)))]) ha2 ?_ ?_ ⟨?_, ?_⟩ (fun v3 st3 ha3 => ?_)
 ·rfl
 ·rfl
 ·simp only [zi, List.length_singleton, ti3]; omega
 ·simp only [zi, List.length_singleton]; omega
 refine in64 (by omega) ?_
 refine ⟨(x + 1, v3), ?_, ⟨by dsimp only; omega, ?_⟩, ⟨Tq, Tq, Tq, Tq, Tq, Tq, Tq, Tq, Tv⟩, ⟨rfl, rfl, Tv⟩⟩
 ·show b.w.toNat - (x + 1) < b.w.toNat - x
  omega
 ·dsimp only
  rw [zek, <- List.append_assoc]
  unfold rws
  rw [List.map_append]
  exact ha3
theorem CellsOf.fresh {F : Store} {p : Nat} {l : List Ent} (h : CellsOf F p l) {b : Nat} (x : AObj) (hb : Fresh F b) : CellsOf (F.setObj b x) p l := by
 obtain ⟨ma, mi, bs1, c1, G, bs2, c2, ha, hi⟩ := h
 exact ⟨ma, mi, bs1, c1, G, bs2, c2, ha.fresh x hb, hi⟩
theorem zj8 {st : Store} {b cap : Nat} {ns : List Int} {L : List AV} (ho : st.obj b = some (.cells (ns.map aI ++ L))) (hlen : ns.length < 4611686018427387904) (R : AV -> Store -> Prop)
  (h : R (.tup []) (st.setObj b (.cells ((ns.mergeSort fun x y => decide (x <= y)).map aI ++ L)))) : ACalls Tryz.prog 121 [.s (.slice (some ⟨b, 0, none⟩) ns.length cap)] st R :=
 zpr Tryz.lays189 Tryz.func121 rfl rfl ho hlen h
theorem zpq {st : Store} (R : AV -> Store -> Prop) (h : R (.tup []) st) : ACalls Tryz.prog 121 [.s (.slice none 0 0)] st R :=
 zeo Tryz.lays189 Tryz.func121 rfl rfl h
def zem (b3 b4 b5 b6 : Nat) : AV := .clos 118 [ptr b4, ptr b3, ptr b5, ptr b6]
set_option maxHeartbeats 2000000 in
theorem zcm {F : Store} {p : Nat} {l : List Ent} (hc : CellsOf F p l) (hl : l.length <= 1000000000) (hok : ∀ e ∈ l, e.2.ok) {q : Vc} (hq : q.ok) {r : Int} (hr : yb r) (R : AV -> Store -> Prop)
  (h : ∀ F' N v ns, CellsOf F' p l -> Disj F' N -> Ints N v ns -> zf0 l q r ns -> R v (F'.un N)) : ACalls Tryz.prog 99 [ptr p, .agg (vecC q), int r] F R := by
 refine ACalls.of_awp (c := cfg 126 [3, 4, 5, 6] []) zd Tryz.func99 (by rfl) (by rfl) (by rfl) (by rfl) ?_
 refine AWp.seq (AWp.of_vc zd ?_)
 intro b3 hb3 b4 hb4 b5 hb5 b6 hb6
 have n43 : b4 ≠ b3 := fun e => by have := hb4.1; rw [e, zb] at this; cases this
 have n54 : b5 ≠ b4 := fun e => by have := hb5.1; rw [e, zb] at this; cases this
 have n53 : b5 ≠ b3 := fun e => by have := hb5.1; rw [e, zc (Ne.symm n43), zb] at this; cases this
 have n65 : b6 ≠ b5 := fun e => by have := hb6.1; rw [e, zb] at this; cases this
 have n64 : b6 ≠ b4 := fun e => by have := hb6.1; rw [e, zc (Ne.symm n54), zb] at this; cases this
 have n63 : b6 ≠ b3 := fun e => by have := hb6.1; rw [e, zc (Ne.symm n53), zc (Ne.symm n43), zb] at this; cases this
 have est : (((F.setObj b3 (.cells [ptr p])).setObj b4 (.cells (vecC q))).setObj b5 (.cells [int r])).setObj b6 (.cells [.s (.slice none 0 0)]) =
   F.un ((((Store.empty.setObj b3 (.cells [ptr p])).setObj b4 (.cells (vecC q))).setObj b5 (.cells [int r])).setObj b6 (.cells [.s (.slice none 0 0)])) := by
  rw [<- zu, <- zu, <- zu, <- zu, za1]
 have f3 : Fresh F b3 := hb3
 have f4 : Fresh F b4 := by have := hb4; rw [<- za1 F, zu] at this; exact (ks this).1
 have f5 : Fresh F b5 := by have := hb5; rw [<- za1 F, zu, zu] at this; exact (ks this).1
 have f6 : Fresh F b6 := by have := hb6; rw [<- za1 F, zu, zu, zu] at this; exact (ks this).1
 have hN0 : NearAt ((((Store.empty.setObj b3 (.cells [ptr p])).setObj b4 (.cells (vecC q))).setObj b5 (.cells [int r])).setObj b6 (.cells [.s (.slice none 0 0)])) b3 b4 b5 b6 p q r (.s (.slice none 0 0)) [] := by
  refine ⟨?_, ?_, ?_, zb _ _ _, .inl ⟨rfl, rfl⟩, Ne.symm n63, Ne.symm n64, Ne.symm n65, fun b n cap e => by cases e⟩
  ·rw [zc (Ne.symm n63), zc (Ne.symm n53), zc (Ne.symm n43)]; exact zb _ _ _
  ·rw [zc (Ne.symm n64), zc (Ne.symm n54)]; exact zb _ _ _
  ·rw [zc (Ne.symm n65)]; exact zb _ _ _
 have hd0 : Disj F ((((Store.empty.setObj b3 (.cells [ptr p])).setObj b4 (.cells (vecC q))).setObj b5 (.cells [int r])).setObj b6 (.cells [.s (.slice none 0 0)])) :=
  kk (kk (kk (kk (zjc F) f3) f4) f5) f6
 show AWp _ _ _ _ _ ((((F.setObj b3 (.cells [ptr p])).setObj b4 (.cells (vecC q))).setObj b5 (.cells [int r])).setObj b6 (.cells [.s (.slice none 0 0)]))
 rw [est]
 generalize ((((Store.empty.setObj b3 (.cells [ptr p])).setObj b4 (.cells (vecC q))).setObj b5 (.cells [int r])).setObj b6 (.cells [.s (.slice none 0 0)])) = N0 at *
 clear est hb3 hb4 hb5 hb6
 refine AWp.seq (AWp.of_vc zd ?_)
 refine za (o := (F.un N0).obj b5) _ (un_r hN0.h5) ?_
 refine bcd (fun c1 => ?_) (fun c1 => ?_)
 ·refine kn (i := ti42) (v := .s (.slice none 0 0)) (b := b6) (o := 0) (l := [.s (.slice none 0 0)]) rfl rfl rfl (un_r hN0.h6) (Nat.le_refl _) ?_
  refine za (o := Store.obj (Store.setObj _ b6 _) b6) _ (zb _ _ _) ?_
  refine ret ?_
  rw [zu]
  refine h F _ _ [] hc (xj hd0 hN0.h6) (.inl ⟨rfl, rfl⟩) ⟨List.Pairwise.nil, fun id => ⟨(fun h => (by cases h)), fun ⟨e, _, _, hn⟩ => ?_⟩⟩
  unfold near at hn
  have := (of_decide_eq_true hn).1
  omega
 refine AWp.seq (AWp.of_vc zd ?_)
 have hr0 : 0 < r := by omega
 have hr1 : r <= 9223372036854775807 := hr.2
 have sub_q1 := kg q.1 r
 have sub_q2 := kg q.2 r
 have add_q1 := zd0 q.1 r
 have add_q2 := zd0 q.2 r
 refine AWp.meet (σ := Unit) ⟨fun _ => [(3, .av (ptr b3)), (4, .av (ptr b4)), (5, .av (ptr b5)), (6, .av (ptr b6)), (7, .av (zem b3 b4 b5 b6)), (8, .bx 8 0)], fun _ => [(8, [int (zl (fsub q.1 r, fsub q.2 r)).1, int (zl (fsub q.1 r, fsub q.2 r)).2])],
  fun _ st' => st' = F.un N0⟩ zd ?_ ?_
 ·refine ADraw.of_sched zd (by rfl) (by rfl) zt0 (by rfl) ?_
  refine za (o := (F.un N0).obj b4) _ (un_r hN0.h4) ?_
  refine za (o := (F.un N0).obj b5) _ (un_r hN0.h5) ?_
  refine za (o := (F.un N0).obj b4) _ (un_r hN0.h4) ?_
  refine za (o := (F.un N0).obj b5) _ (un_r hN0.h5) ?_
  refine ⟨jg q.1 r hq.1 hr _ _ ⟨(by repeat (first | exact Tv | refine ⟨rfl, ?_⟩ | refine ⟨za (o := (F.un N0).obj b4) _ (un_r hN0.h4) rfl, ?_⟩ | refine ⟨za (o := (F.un N0).obj b5) _ (un_r hN0.h5) rfl, ?_⟩)), ⟨jg q.2 r hq.2 hr _ _ ⟨(by repeat (first | exact Tv | refine ⟨rfl, ?_⟩ | refine ⟨za (o := (F.un N0).obj b4) _ (un_r hN0.h4) rfl, ?_⟩ | refine ⟨za (o := (F.un N0).obj b5) _ (un_r hN0.h5) rfl, ?_⟩)), ⟨xz (fsub q.1 r, fsub q.2 r) ⟨sub_q1, sub_q2⟩ _ _ ⟨(by repeat (first | exact Tv | refine ⟨rfl, ?_⟩ | refine ⟨za (o := (F.un N0).obj b4) _ (un_r hN0.h4) rfl, ?_⟩ | refine ⟨za (o := (F.un N0).obj b5) _ (un_r hN0.h5) rfl, ?_⟩)), ⟨⟨(by repeat (first | exact Tv | refine ⟨rfl, ?_⟩ | refine ⟨za (o := (F.un N0).obj b4) _ (un_r hN0.h4) rfl, ?_⟩ | refine ⟨za (o := (F.un N0).obj b5) _ (un_r hN0.h5) rfl, ?_⟩)), ⟨⟨(by repeat (first | exact Tv | refine ⟨rfl, ?_⟩ | refine ⟨za (o := (F.un N0).obj b4) _ (un_r hN0.h4) rfl, ?_⟩ | refine ⟨za (o := (F.un N0).obj b5) _ (un_r hN0.h5) rfl, ?_⟩)), ?_⟩, Tv⟩⟩, Tv⟩⟩, ⟨⟨(by repeat (first | exact Tv | refine ⟨rfl, ?_⟩ | refine ⟨za (o := (F.un N0).obj b4) _ (un_r hN0.h4) rfl, ?_⟩ | refine ⟨za (o := (F.un N0).obj b5) _ (un_r hN0.h5) rfl, ?_⟩)), ⟨xz (fsub q.1 r, fsub q.2 r) ⟨sub_q1, sub_q2⟩ _ _ ⟨(by repeat (first | exact Tv | refine ⟨rfl, ?_⟩ | refine ⟨za (o := (F.un N0).obj b4) _ (un_r hN0.h4) rfl, ?_⟩ | refine ⟨za (o := (F.un N0).obj b5) _ (un_r hN0.h5) rfl, ?_⟩)), ⟨⟨(by repeat (first | exact Tv | refine ⟨rfl, ?_⟩ | refine ⟨za (o := (F.un N0).obj b4) _ (un_r hN0.h4) rfl, ?_⟩ | refine ⟨za (o := (F.un N0).obj b5) _ (un_r hN0.h5) rfl, ?_⟩)), ?_⟩, Tv⟩⟩, Tv⟩⟩, Tv⟩⟩⟩, ⟨⟨(by repeat (first | exact Tv | refine ⟨rfl, ?_⟩ | refine ⟨za (o := (F.un N0).obj b4) _ (un_r hN0.h4) rfl, ?_⟩ | refine ⟨za (o := (F.un N0).obj b5) _ (un_r hN0.h5) rfl, ?_⟩)), ⟨jg q.2 r hq.2 hr _ _ ⟨(by repeat (first | exact Tv | refine ⟨rfl, ?_⟩ | refine ⟨za (o := (F.un N0).obj b4) _ (un_r hN0.h4) rfl, ?_⟩ | refine ⟨za (o := (F.un N0).obj b5) _ (un_r hN0.h5) rfl, ?_⟩)), ⟨xz (fsub q.1 r, fsub q.2 r) ⟨sub_q1, sub_q2⟩ _ _ ⟨(by repeat (first | exact Tv | refine ⟨rfl, ?_⟩ | refine ⟨za (o := (F.un N0).obj b4) _ (un_r hN0.h4) rfl, ?_⟩ | refine ⟨za (o := (F.un N0).obj b5) _ (un_r hN0.h5) rfl, ?_⟩)), ⟨⟨(by repeat (first | exact Tv | refine ⟨rfl, ?_⟩ | refine ⟨za (o := (F.un N0).obj b4) _ (un_r hN0.h4) rfl, ?_⟩ | refine ⟨za (o := (F.un N0).obj b5) _ (un_r hN0.h5) rfl, ?_⟩)), ?_⟩, Tv⟩⟩, Tv⟩⟩, Tv⟩⟩, Tv⟩⟩⟩, ⟨⟨(by repeat (first | exact Tv | refine ⟨rfl, ?_⟩ | refine ⟨za (o := (F.un N0).obj b4) _ (un_r hN0.h4) rfl, ?_⟩ | refine ⟨za (o := (F.un N0).obj b5) _ (un_r hN0.h5) rfl, ?_⟩)), ⟨jg q.1 r hq.1 hr _ _ ⟨(by repeat (first | exact Tv | refine ⟨rfl, ?_⟩ | refine ⟨za (o := (F.un N0).obj b4) _ (un_r hN0.h4) rfl, ?_⟩ | refine ⟨za (o := (F.un N0).obj b5) _ (un_r hN0.h5) rfl, ?_⟩)), ⟨jg q.2 r hq.2 hr _ _ ⟨(by repeat (first | exact Tv | refine ⟨rfl, ?_⟩ | refine ⟨za (o := (F.un N0).obj b4) _ (un_r hN0.h4) rfl, ?_⟩ | refine ⟨za (o := (F.un N0).obj b5) _ (un_r hN0.h5) rfl, ?_⟩)), ⟨xz (fsub q.1 r, fsub q.2 r) ⟨sub_q1, sub_q2⟩ _ _ ⟨(by repeat (first | exact Tv | refine ⟨rfl, ?_⟩ | refine ⟨za (o := (F.un N0).obj b4) _ (un_r hN0.h4) rfl, ?_⟩ | refine ⟨za (o := (F.un N0).obj b5) _ (un_r hN0.h5) rfl, ?_⟩)), ⟨⟨(by repeat (first | exact Tv | refine ⟨rfl, ?_⟩ | refine ⟨za (o := (F.un N0).obj b4) _ (un_r hN0.h4) rfl, ?_⟩ | refine ⟨za (o := (F.un N0).obj b5) _ (un_r hN0.h5) rfl, ?_⟩)), ?_⟩, Tv⟩⟩, Tv⟩⟩, Tv⟩⟩, Tv⟩⟩, Tv⟩⟩
  all_goals exact ⟨(), rfl, ⟨Tq, Tq, Tq, Tq, Tq, Tq, Tv⟩, ⟨rfl, Tv⟩⟩
 rintro _ _ rfl
 refine AWp.meet (σ := Unit) ⟨fun _ => [(3, .av (ptr b3)), (6, .av (ptr b6)), (7, .av (zem b3 b4 b5 b6)), (8, .bx 8 0), (9, .bx 9 0)], fun _ => [(8, [int (zl (fsub q.1 r, fsub q.2 r)).1, int (zl (fsub q.1 r, fsub q.2 r)).2]), (9, [int (zl (fadd q.1 r, fadd q.2 r)).1, int (zl (fadd q.1 r, fadd q.2 r)).2])],
  fun _ st' => st' = F.un N0⟩ zd ?_ ?_
 ·refine ADraw.of_sched zd (by rfl) (by rfl) ztz (by rfl) ?_
  refine za (o := (F.un N0).obj b4) _ (un_r hN0.h4) ?_
  refine za (o := (F.un N0).obj b5) _ (un_r hN0.h5) ?_
  refine za (o := (F.un N0).obj b4) _ (un_r hN0.h4) ?_
  refine za (o := (F.un N0).obj b5) _ (un_r hN0.h5) ?_
  refine ⟨ky q.1 r hq.1 hr _ _ ⟨(by repeat (first | exact Tv | refine ⟨rfl, ?_⟩ | refine ⟨za (o := (F.un N0).obj b4) _ (un_r hN0.h4) rfl, ?_⟩ | refine ⟨za (o := (F.un N0).obj b5) _ (un_r hN0.h5) rfl, ?_⟩)), ⟨ky q.2 r hq.2 hr _ _ ⟨(by repeat (first | exact Tv | refine ⟨rfl, ?_⟩ | refine ⟨za (o := (F.un N0).obj b4) _ (un_r hN0.h4) rfl, ?_⟩ | refine ⟨za (o := (F.un N0).obj b5) _ (un_r hN0.h5) rfl, ?_⟩)), ⟨xz (fadd q.1 r, fadd q.2 r) ⟨add_q1, add_q2⟩ _ _ ⟨(by repeat (first | exact Tv | refine ⟨rfl, ?_⟩ | refine ⟨za (o := (F.un N0).obj b4) _ (un_r hN0.h4) rfl, ?_⟩ | refine ⟨za (o := (F.un N0).obj b5) _ (un_r hN0.h5) rfl, ?_⟩)), ⟨⟨(by repeat (first | exact Tv | refine ⟨rfl, ?_⟩ | refine ⟨za (o := (F.un N0).obj b4) _ (un_r hN0.h4) rfl, ?_⟩ | refine ⟨za (o := (F.un N0).obj b5) _ (un_r hN0.h5) rfl, ?_⟩)), ⟨⟨(by repeat (first | exact Tv | refine ⟨rfl, ?_⟩ | refine ⟨za (o := (F.un N0).obj b4) _ (un_r hN0.h4) rfl, ?_⟩ | refine ⟨za (o := (F.un N0).obj b5) _ (un_r hN0.h5) rfl, ?_⟩)), ?_⟩, Tv⟩⟩, Tv⟩⟩, ⟨⟨(by repeat (first | exact Tv | refine ⟨rfl, ?_⟩ | refine ⟨za (o := (F.un N0).obj b4) _ (un_r hN0.h4) rfl, ?_⟩ | refine ⟨za (o := (F.un N0).obj b5) _ (un_r hN0.h5) rfl, ?_⟩)), ⟨xz (fadd q.1 r, fadd q.2 r) ⟨add_q1, add_q2⟩ _ _ ⟨(by repeat (first | exact Tv | refine ⟨rfl, ?_⟩ | refine ⟨za (o := (F.un N0).obj b4) _ (un_r hN0.h4) rfl, ?_⟩ | refine ⟨za (o := (F.un N0).obj b5) _ (un_r hN0.h5) rfl, ?_⟩)), ⟨⟨(by repeat (first | exact Tv | refine ⟨rfl, ?_⟩ | refine ⟨za (o := (F.un N0).obj b4) _ (un_r hN0.h4) rfl, ?_⟩ | refine ⟨za (o := (F.un N0).obj b5) _ (un_r hN0.h5) rfl, ?_⟩)), ?_⟩, Tv⟩⟩, Tv⟩⟩, Tv⟩⟩⟩, ⟨⟨(by repeat (first | exact Tv | refine ⟨rfl, ?_⟩ | refine ⟨za (o := (F.un N0).obj b4) _ (un_r hN0.h4) rfl, ?_⟩ | refine ⟨za (o := (F.un N0).obj b5) _ (un_r hN0.h5) rfl, ?_⟩)), ⟨ky q.2 r hq.2 hr _ _ ⟨(by repeat (first | exact Tv | refine ⟨rfl, ?_⟩ | refine ⟨za (o := (F.un N0).obj b4) _ (un_r hN0.h4) rfl, ?_⟩ | refine ⟨za (o := (F.un N0).obj b5) _ (un_r hN0.h5) rfl, ?_⟩)), ⟨xz (fadd q.1 r, fadd q.2 r) ⟨add_q1, add_q2⟩ _ _ ⟨(by repeat (first | exact Tv | refine ⟨rfl, ?_⟩ | refine ⟨za (o := (F.un N0).obj b4) _ (un_r hN0.h4) rfl, ?_⟩ | refine ⟨za (o := (F.un N0).obj b5) _ (un_r hN0.h5) rfl, ?_⟩)), ⟨⟨(by repeat (first | exact Tv | refine ⟨rfl, ?_⟩ | refine ⟨za (o := (F.un N0).obj b4) _ (un_r hN0.h4) rfl, ?_⟩ | refine ⟨za (o := (F.un N0).obj b5) _ (un_r hN0.h5) rfl, ?_⟩)), ?_⟩, Tv⟩⟩, Tv⟩⟩, Tv⟩⟩, Tv⟩⟩⟩, ⟨⟨(by repeat (first | exact Tv | refine ⟨rfl, ?_⟩ | refine ⟨za (o := (F.un N0).obj b4) _ (un_r hN0.h4) rfl, ?_⟩ | refine ⟨za (o := (F.un N0).obj b5) _ (un_r hN0.h5) rfl, ?_⟩)), ⟨ky q.1 r hq.1 hr _ _ ⟨(by repeat (first | exact Tv | refine ⟨rfl, ?_⟩ | refine ⟨za (o := (F.un N0).obj b4) _ (un_r hN0.h4) rfl, ?_⟩ | refine ⟨za (o := (F.un N0).obj b5) _ (un_r hN0.h5) rfl, ?_⟩)), ⟨ky q.2 r hq.2 hr _ _ ⟨(by repeat (first | exact Tv | refine ⟨rfl, ?_⟩ | refine ⟨za (o := (F.un N0).obj b4) _ (un_r hN0.h4) rfl, ?_⟩ | refine ⟨za (o := (F.un N0).obj b5) _ (un_r hN0.h5) rfl, ?_⟩)), ⟨xz (fadd q.1 r, fadd q.2 r) ⟨add_q1, add_q2⟩ _ _ ⟨(by repeat (first | exact Tv | refine ⟨rfl, ?_⟩ | refine ⟨za (o := (F.un N0).obj b4) _ (un_r hN0.h4) rfl, ?_⟩ | refine ⟨za (o := (F.un N0).obj b5) _ (un_r hN0.h5) rfl, ?_⟩)), ⟨⟨(by repeat (first | exact Tv | refine ⟨rfl, ?_⟩ | refine ⟨za (o := (F.un N0).obj b4) _ (un_r hN0.h4) rfl, ?_⟩ | refine ⟨za (o := (F.un N0).obj b5) _ (un_r hN0.h5) rfl, ?_⟩)), ?_⟩, Tv⟩⟩, Tv⟩⟩, Tv⟩⟩, Tv⟩⟩, Tv⟩⟩
  all_goals exact ⟨(), rfl, ⟨Tq, Tq, Tq, Tq, Tq, Tv⟩, ⟨rfl, rfl, Tv⟩⟩
 rintro _ _ rfl
 have hab := zuv hq hr0 hr1
 have hA := zma (p := (fsub q.1 r, fsub q.2 r)) ⟨kg _ _, kg _ _⟩
 have hB := zma (p := (fadd q.1 r, fadd q.2 r)) ⟨zd0 _ _, zd0 _ _⟩
 have hrect : ∀ e ∈ l, near q e.2 r = true -> _ := fun e he hn => zkz hq (hok e he) hr0 hr1 hn
 generalize zl (fsub q.1 r, fsub q.2 r) = A0 at *
 generalize zl (fadd q.1 r, fadd q.2 r) = B0 at *
 obtain ⟨ax, ay⟩ := A0
 obtain ⟨bx, by'⟩ := B0
 dsimp only at hab hA hB hrect ⊢
 refine AWp.meetA (σ := Store × Store × AV × List Int) ⟨fun _ => [(6, .av (ptr b6))], fun _ => [], fun s st' => st' = s.1.un s.2.1 /\ Disj s.1 s.2.1 /\ CellsOf s.1 p l /\ NearAt s.2.1 b3 b4 b5 b6 p q r s.2.2.1 s.2.2.2 /\ NearIn l q r (fun _ => True) s.2.2.2⟩ ?_ ?_
 ·obtain ⟨ma, mi, bs1, cl1, G, bs2, cl2, ha, hi⟩ := hc
  have hgl : (G.map entG).length <= l.length := by rw [List.length_map]; exact ziz hi
  have slots : ∀ b : Bool, LV.le (.av (bool b)) (.av (bool b)) := fun b => Tq
  refine AWp.seq (AWp.of_vc zd ?_)
  refine za (o := (F.un N0).obj b3) _ (un_r hN0.h3) ?_
  refine za (o := (F.un N0).obj p) _ (un_l hd0 ha.hp) ?_
  refine za (o := (F.un N0).obj mi) _ (un_l hd0 ha.hi) ?_
  refine ⟨⟨by omega, by omega⟩, ?_⟩
  refine AWp.meet (σ := Bool) ⟨fun b => [(3, .av (ptr b3)), (6, .av (ptr b6)), (7, .av (zem b3 b4 b5 b6)), (8, .bx 8 0), (9, .bx 9 0), (77, .av (bool b))], fun _ => [(8, [int ax, int ay]), (9, [int bx, int by'])],
   fun b st' => st' = F.un N0⟩ zd ?_ ?_
  ·refine ⟨⟨by omega, by omega⟩, ?_⟩
   refine bcd (fun d1 => ?_) (fun d1 => ?_)
   ·exact ⟨true, rfl, ⟨Tq, Tq, Tq, Tq, Tq, Tq, Tv⟩, ⟨rfl, rfl, Tv⟩⟩
   refine ⟨⟨by omega, by omega⟩, ?_⟩
   refine bcd (fun d2 => ?_) (fun d2 => ?_)
   ·exact ⟨true, rfl, ⟨Tq, Tq, Tq, Tq, Tq, Tq, Tv⟩, ⟨rfl, rfl, Tv⟩⟩
   have m1 : (bx - ax + 1) * (by' - ay + 1) <= 1000000002 * 1000000002 := Int.mul_le_mul (by omega) (by omega) (by omega) (by decide)
   have m0 : 0 <= (bx - ax + 1) * (by' - ay + 1) := Int.mul_nonneg (by omega) (by omega)
   refine ⟨⟨by omega, by omega⟩, ?_⟩
   refine ⟨⟨by omega, by omega⟩, ?_⟩
   refine ⟨⟨by omega, by omega⟩, ?_⟩
   refine ⟨⟨by omega, by omega⟩, ?_⟩
   refine ⟨⟨by omega, by omega⟩, ?_⟩
   exact ⟨_, rfl, ⟨Tq, Tq, Tq, Tq, Tq, Tq, Tv⟩, ⟨rfl, rfl, Tv⟩⟩
  rintro b _ rfl
  refine AWp.of_vc zd ?_
  cases b with
  | true =>
   refine za (o := (F.un N0).obj b3) _ (un_r hN0.h3) ?_
   refine za (o := (F.un N0).obj p) _ (un_l hd0 ha.hp) ?_
   refine zha (un_l hd0 ha.ha) (fun hst => ?_)
   refine zjs rfl (it := ti125) rfl rfl (un_l hd0 ha.ha) (fun bi hbi => ?_)
   have fbi := ks hbi
   have nbi : ¬ N0.has bi := fresh_iff.1 fbi.2
   rw [zco nbi]
   refine AWp.loop (σ := List Nat × Store × AV × List Int) ⟨fun _ => [(6, .av (ptr b6)), (7, .av (zem b3 b4 b5 b6)), (82, .av (ptr bi))], fun _ => [],
    fun s st' => st' = (F.setObj bi (.iter ma cl1 s.1 cl1)).un s.2.1 /\ Disj (F.setObj bi (.iter ma cl1 s.1 cl1)) s.2.1 /\ NearAt s.2.1 b3 b4 b5 b6 p q r s.2.2.1 s.2.2.2 /\ s.1.Nodup /\ (∀ t ∈ s.1, t ∈ bs1) ∧
     NearIn l q r (fun e => ∃ (i t : Nat), l[i]? = some e /\ bs1[i]? = some t /\ t ∈ s.1) s.2.2.2, fun s => bs1.length - s.1.length⟩ zd ?_ ?_
   ·exact ⟨([], N0, _, []), Tv, ⟨rfl, zly hd0 nbi, hN0, List.nodup_nil, (fun t ht => (by cases ht)), List.nodup_nil, fun id => ⟨(fun h => (by cases h)), fun ⟨e, _, _, _, i, t, _, _, h⟩ => (by cases h)⟩⟩, ⟨Tq, Tq, Tq, Tv⟩, Tv⟩
   rintro ⟨seen, N, v, acc⟩ st' ⟨rfl, hd, hN, hs1, hs2, hacc⟩
   dsimp only at hd hN hs1 hs2 hacc ⊢
   have hF1 : CellsAt (F.setObj bi (.iter ma cl1 seen cl1)) p ma mi l bs1 cl1 G bs2 cl2 := ha.fresh _ fbi.1
   refine zmk rfl (un_l hd (zb _ _ _)) (un_l hd hF1.ha) (fun hall => ?_) (fun i e t he ht hnt => ?_)
   ·refine ⟨(F.setObj bi (.iter ma cl1 seen cl1), N, v, acc), ⟨rfl, hd, ⟨ma, mi, _, _, _, _, _, hF1, hi⟩, hN, ?_⟩, ⟨Tq, Tv⟩, Tv⟩
    refine hacc.congr fun e he _ => ⟨fun _ => trivial, fun _ => ?_⟩
    obtain ⟨i, hi'⟩ := List.mem_iff_getElem?.1 he
    have hlt : i < bs1.length := by
     have h1 := hst.len
     have h2 := (List.getElem?_eq_some_iff.1 hi').1
     rw [List.length_map] at h1
     omega
    exact ⟨i, bs1[i], hi', List.getElem?_eq_getElem hlt, hall _ (List.getElem_mem hlt)⟩
   ·obtain ⟨e0, he0, rfl⟩ : ∃ e0, l[i]? = some e0 /\ entA e0 = e := by
     rw [List.getElem?_map] at he
     cases hx : l[i]? with
     | none => rw [hx] at he; cases he
     | some e0 => rw [hx] at he; simp at he; exact ⟨e0, rfl, he⟩
    have hem := List.mem_of_getElem? he0
    obtain ⟨hd', nb⟩ := zjb (y := .iter ma cl1 (seen ++ [t]) cl1) hd
    have hF2 : CellsAt (F.setObj bi (.iter ma cl1 (seen ++ [t]) cl1)) p ma mi l bs1 cl1 G bs2 cl2 := ha.fresh _ fbi.1
    rw [zco nb, zk]
    refine zjt rfl (un_l hd' (zb _ _ _)) (un_l hd' hF2.ha) he ht ?_
    refine zel hd' ⟨ma, mi, _, _, _, _, _, hF2, hi⟩ hN hq hr1 (zff hi.n1 hem) (hok _ hem) (by have := hacc.len; omega) _ (fun N' v' hdd hN' => ?_)
    refine ⟨(seen ++ [t], N', v', _), ?_, ⟨rfl, hdd, hN', ?_, ?_, ?_⟩, ⟨Tq, Tq, Tq, Tv⟩, Tv⟩
    ·have h1 : (seen ++ [t]).Nodup := by
      rw [List.nodup_append]
      exact ⟨hs1, by simp, fun a ha b hb => by simp at hb; subst hb; exact fun e => hnt (e ▸ ha)⟩
     have h2 := List.Nodup.length_le_of_subset (l₂ := bs1) h1 (fun x hx => by
      rcases List.mem_append.1 hx with hx | hx
      ·exact hs2 x hx
      ·simp at hx; subst hx; exact List.mem_of_getElem? ht)
     rw [List.length_append] at h2
     show bs1.length - (seen ++ [t]).length < bs1.length - seen.length
     rw [List.length_append]
     simp at h2 ⊢
     omega
    ·show (seen ++ [t]).Nodup
     rw [List.nodup_append]
     exact ⟨hs1, by simp, fun a ha b hb => by simp at hb; subst hb; exact fun e => hnt (e ▸ ha)⟩
    ·intro x hx
     rcases List.mem_append.1 hx with hx | hx
     ·exact hs2 x hx
     ·simp at hx; subst hx; exact List.mem_of_getElem? ht
    ·refine (hacc.step hi.n1 hem (fun hh => ?_)).congr fun e' he' _ => ⟨fun hh => ?_, fun hh => ?_⟩
     ·obtain ⟨i', t', h1, h2, h3⟩ := hh
      have := yq (f := fun e : Ent => e.1) hi.n1 h1 he0 rfl
      subst this
      rw [ht] at h2
      cases h2
      exact hnt h3
     ·rcases hh with ⟨i', t', h1, h2, h3⟩ | rfl
      ·exact ⟨i', t', h1, h2, List.mem_append_left _ h3⟩
      ·exact ⟨i, t, he0, ht, by simp⟩
     ·obtain ⟨i', t', h1, h2, h3⟩ := hh
      rcases List.mem_append.1 h3 with h3 | h3
      ·exact .inl ⟨i', t', h1, h2, h3⟩
      ·simp at h3
       subst h3
       right
       have hinc := hst.inc
       have : i' = i := by
        have hn : (bs1.map id).Nodup := by
         rw [List.map_id]
         exact hinc.imp fun h e => by omega
        exact yq (f := id) hn h2 ht rfl
       subst this
       rw [he0] at h1
       cases h1; rfl
  | false =>
   refine AWp.loop (σ := Int × Store × AV × List Int) ⟨fun s => [(3, .av (ptr b3)), (6, .av (ptr b6)), (7, .av (zem b3 b4 b5 b6)), (8, .bx 8 0), (9, .bx 9 0), (12, .av (int s.1))], fun _ => [(8, [int ax, int ay]), (9, [int bx, int by'])],
    fun s st' => st' = F.un s.2.1 /\ Disj F s.2.1 /\ NearAt s.2.1 b3 b4 b5 b6 p q r s.2.2.1 s.2.2.2 /\ (ax <= s.1 /\ s.1 <= bx + 1) /\ NearIn l q r (fun e => (zl e.2).1 < s.1) s.2.2.2, fun s => (bx + 1 - s.1).toNat⟩ zd ?_ ?_
   ·refine ⟨(ax, N0, _, []), Tv, ⟨rfl, hd0, hN0, ⟨Int.le_refl _, by omega⟩, List.nodup_nil, fun id => ⟨(fun h => (by cases h)), fun ⟨e, he, _, hn, h⟩ => ?_⟩⟩, ⟨Tq, Tq, Tq, Tq, Tq, Tq, Tv⟩, ⟨rfl, rfl, Tv⟩⟩
    have := hrect e he hn
    dsimp only at h
    omega
   rintro ⟨x, N, v, acc⟩ st' ⟨rfl, hd, hN, hx, hacc⟩
   dsimp only at hd hN hx hacc ⊢
   refine bcd (fun x1 => ?_) (fun x1 => ?_)
   rotate_left
   ·refine ⟨(F, N, v, acc), ⟨rfl, hd, ⟨ma, mi, _, _, _, _, _, ha, hi⟩, hN, ?_⟩, ⟨Tq, Tv⟩, Tv⟩
    refine hacc.congr fun e he hn => ⟨fun _ => trivial, fun _ => ?_⟩
    have := hrect e he hn
    omega
   refine AWp.loop (σ := Int × Store × AV × List Int) ⟨fun s => [(3, .av (ptr b3)), (6, .av (ptr b6)), (7, .av (zem b3 b4 b5 b6)), (8, .bx 8 0), (9, .bx 9 0), (12, .av (int x)), (13, .av (int s.1))], fun _ => [(8, [int ax, int ay]), (9, [int bx, int by'])],
    fun s st' => st' = F.un s.2.1 /\ Disj F s.2.1 /\ NearAt s.2.1 b3 b4 b5 b6 p q r s.2.2.1 s.2.2.2 /\ (ay <= s.1 /\ s.1 <= by' + 1) /\ NearIn l q r (fun e => (zl e.2).1 < x \/ ((zl e.2).1 = x /\ (zl e.2).2 < s.1)) s.2.2.2, fun s => (by' + 1 - s.1).toNat⟩ zd ?_ ?_
   ·refine ⟨(ay, N, v, acc), Tv, ⟨rfl, hd, hN, ⟨Int.le_refl _, by omega⟩, hacc.congr fun e he hn => ⟨.inl, fun h => h.elim id fun h => ?_⟩⟩, ⟨Tq, Tq, Tq, Tq, Tq, Tq, Tq, Tv⟩, ⟨rfl, rfl, Tv⟩⟩
    have := hrect e he hn
    dsimp only at h
    omega
   clear hN hacc hd
   rintro ⟨y, N, v, acc⟩ st' ⟨rfl, hd, hN, hy, hacc⟩
   dsimp only at hd hN hy hacc ⊢
   refine bcd (fun y1 => ?_) (fun y1 => ?_)
   rotate_left
   ·refine ⟨⟨by omega, by omega⟩, ?_⟩
    refine ⟨(x + 1, N, v, acc), ?_, ⟨rfl, hd, hN, by dsimp only; omega, hacc.congr fun e he hn => ?_⟩, ⟨Tq, Tq, Tq, Tq, Tq, Tq, Tv⟩, ⟨rfl, rfl, Tv⟩⟩
    ·show (bx + 1 - (x + 1)).toNat < (bx + 1 - x).toNat
     omega
    ·have := hrect e he hn
     dsimp only
     omega
   refine za (o := (F.un N).obj b3) _ (un_r hN.h3) ?_
   refine za (o := (F.un N).obj p) _ (un_l hd ha.hp) ?_
   refine yh rfl (it := ti126) (ie := ti42) (ik := ti130) rfl rfl rfl rfl (un_l hd ha.hi) rfl (qG x y) (fun e he => ?_) ?_
   ·obtain ⟨e, _, rfl⟩ := List.mem_map.1 he
    rfl
   rw [zlt G (x, y), show jv ti42 = .s (.slice none 0 0) from rfl]
   cases hf : G.find? (zb6 (x, y)) with
   | none =>
    refine AWp.loop (σ := Unit) ⟨fun _ => [(3, .av (ptr b3)), (6, .av (ptr b6)), (7, .av (zem b3 b4 b5 b6)), (8, .bx 8 0), (9, .bx 9 0), (12, .av (int x)), (13, .av (int y)), (114, .av (int 0)), (115, .av (int 0))], fun _ => [(8, [int ax, int ay]), (9, [int bx, int by'])],
     fun _ st' => st' = F.un N, fun _ => 0⟩ zd ?_ ?_
    ·exact ⟨(), Tv, rfl, ⟨Tq, Tq, Tq, Tq, Tq, Tq, Tq, Tq, Tq, Tv⟩, ⟨rfl, rfl, Tv⟩⟩
    rintro _ st' rfl
    ·refine ⟨⟨by omega, by omega⟩, ?_⟩
     refine ⟨(y + 1, N, v, acc), ?_, ⟨rfl, hd, hN, by dsimp only; omega, hacc.congr fun e he hn => ?_⟩, ⟨Tq, Tq, Tq, Tq, Tq, Tq, Tq, Tv⟩, ⟨rfl, rfl, Tv⟩⟩
     ·show (by' + 1 - (y + 1)).toNat < (by' + 1 - y).toNat
      omega
     ·have hne : zl e.2 ≠ (x, y) := fun hk => by
       obtain ⟨g, hg, hgk⟩ := hi.m2 e he
       exact List.find?_eq_none.1 hf g hg (atKey_iff.2 (by rw [hgk, hk]))
      have : ¬ ((zl e.2).1 = x /\ (zl e.2).2 = y) := fun ⟨h1, h2⟩ => hne (Prod.ext h1 h2)
      dsimp only
      omega
   | some g =>
    obtain ⟨hg, hgk⟩ := wb hf
    have hgk := atKey_iff.1 hgk
    obtain ⟨k1, k2, k3⟩ := ha.hg g hg
    have gs := (hi.s g hg).1
    have gl := zgy hi g hg
    refine AWp.loop (σ := Nat × Store × AV × List Int) ⟨fun s => [(3, .av (ptr b3)), (6, .av (ptr b6)), (7, .av (zem b3 b4 b5 b6)), (8, .bx 8 0), (9, .bx 9 0), (12, .av (int x)), (13, .av (int y)), (113, .av (.s (.slice (some ⟨g.b, 0, none⟩) g.ns.length g.cap))), (114, .av (int g.ns.length)), (115, .av (int (s.1 : Nat)))],
     fun _ => [(8, [int ax, int ay]), (9, [int bx, int by'])],
     fun s st' => st' = F.un s.2.1 /\ Disj F s.2.1 /\ NearAt s.2.1 b3 b4 b5 b6 p q r s.2.2.1 s.2.2.2 /\ s.1 <= g.ns.length /\ NearIn l q r (fun e => ((zl e.2).1 < x \/ ((zl e.2).1 = x /\ (zl e.2).2 < y)) \/ (zl e.2 = (x, y) /\ e.1 ∈ g.ns.take s.1)) s.2.2.2, fun s => g.ns.length - s.1⟩ zd ?_ ?_
    ·exact ⟨(0, N, v, acc), Tv, ⟨rfl, hd, hN, Nat.zero_le _, hacc.congr fun e he hn => ⟨.inl, fun h => h.elim id fun h => (by cases h.2)⟩⟩, ⟨Tq, Tq, Tq, Tq, Tq, Tq, Tq, Tq, Tq, Tq, Tv⟩, ⟨rfl, rfl, Tv⟩⟩
    clear hN hacc hd
    rintro ⟨idx, N, v, acc⟩ st' ⟨rfl, hd, hN, hidx, hacc⟩
    dsimp only at hd hN hidx hacc ⊢
    refine bcd (fun z1 => ?_) (fun z1 => ?_)
    rotate_left
    ·have hie : idx = g.ns.length := by omega
     subst hie
     refine ⟨⟨by omega, by omega⟩, ?_⟩
     refine ⟨(y + 1, N, v, acc), ?_, ⟨rfl, hd, hN, by dsimp only; omega, hacc.congr fun e he hn => ?_⟩, ⟨Tq, Tq, Tq, Tq, Tq, Tq, Tq, Tv⟩, ⟨rfl, rfl, Tv⟩⟩
     ·show (by' + 1 - (y + 1)).toNat < (by' + 1 - y).toNat
      omega
     ·rw [List.take_length]
      have h1 : zl e.2 = (x, y) ↔ ((zl e.2).1 = x /\ (zl e.2).2 = y) := ⟨fun h => by rw [h]; exact ⟨rfl, rfl⟩, fun ⟨h1, h2⟩ => Prod.ext h1 h2⟩
      have h2 : zl e.2 = (x, y) -> e.1 ∈ g.ns := fun h => (hi.m1 g hg e.1).2 ⟨e, he, rfl, by rw [h, hgk]⟩
      dsimp only
      constructor
      ·rintro (h | ⟨h, _⟩)
       ·omega
       ·have := h1.1 h; omega
      ·intro h
       by_cases h3 : zl e.2 = (x, y)
       ·exact .inr ⟨h3, h2 h3⟩
       ·have h4 : ¬ ((zl e.2).1 = x /\ (zl e.2).2 = y) := fun hh => h3 (h1.2 hh)
        left
        omega
    have hlt : idx < g.ns.length := by omega
    have hidm : g.ns[idx] ∈ g.ns := List.getElem_mem hlt
    obtain ⟨e, hem, heid, hek⟩ := (hi.m1 g hg g.ns[idx]).1 hidm
    refine ⟨idx, rfl, hlt, ?_⟩
    refine za (o := (F.un N).obj g.b) _ (un_l hd k1) ?_
    refine za (o := List.head? _) (int e.1) (by
     rw [List.head?_drop, show 0 + idx * ti3.size = idx from by show 0 + idx * 1 = idx; omega, List.getElem?_append_left (by simpa using hlt), List.getElem?_map, List.getElem?_eq_getElem hlt, heid]; rfl) ?_
    refine zel hd ⟨ma, mi, _, _, _, _, _, ha, hi⟩ hN hq hr1 (zff hi.n1 hem) (hok _ hem) (by have := hacc.len; omega) _ (fun N' v' hdd hN' => ?_)
    refine ⟨⟨by omega, by omega⟩, ?_⟩
    refine ⟨(idx + 1, N', v', _), ?_, ⟨rfl, hdd, hN', hlt, ?_⟩, ⟨Tq, Tq, Tq, Tq, Tq, Tq, Tq, Tq, Tq, Tq, Tv⟩, ⟨rfl, rfl, Tv⟩⟩
    ·show g.ns.length - (idx + 1) < g.ns.length - idx
     omega
    ·have hkey : zl e.2 = (x, y) := by rw [hek, hgk]
     have hnot : e.1 ∉ g.ns.take idx := by
      rw [heid]
      intro hh
      obtain ⟨j, hj⟩ := List.mem_iff_getElem?.1 hh
      have hjlt : j < idx := by
       have := (List.getElem?_eq_some_iff.1 hj).1
       simp at this; omega
      rw [List.getElem?_take_of_lt hjlt] at hj
      have h5 := List.pairwise_iff_getElem.1 gs j idx (by omega) hlt hjlt
      rw [List.getElem?_eq_getElem (by omega)] at hj
      have hj' := Option.some.inj hj
      rw [hj'] at h5
      exact absurd h5 (Int.lt_irrefl _)
     refine (hacc.step hi.n1 hem (fun hh => ?_)).congr fun e' he' _ => ?_
     ·rcases hh with hh | ⟨_, hh⟩
      ·rw [hkey] at hh; dsimp only at hh; omega
      ·exact hnot hh
     ·dsimp only
      rw [List.take_succ_eq_append_getElem hlt, List.mem_append]
      constructor
      ·rintro ((h | ⟨h, h'⟩) | rfl)
       ·exact .inl h
       ·exact .inr ⟨h, .inl h'⟩
       ·exact .inr ⟨hkey, .inr (by simp [heid])⟩
      ·rintro (h | ⟨h, h' | h'⟩)
       ·exact .inl (.inl h)
       ·exact .inl (.inr ⟨h, h'⟩)
       ·right
        have : e'.1 = e.1 := by rw [heid]; simpa using h'
        exact zlf hi.n1 hem he' this
 ·rintro ⟨F', N, v, acc⟩ st' ⟨rfl, hd, hc', hN, hacc⟩
  dsimp only at hd hc' hN hacc ⊢
  refine AWp.of_vc zd ?_
  refine za (o := (F'.un N).obj b6) _ (un_r hN.h6) ?_
  have hms := zez hacc.1
  have hnear : zf0 l q r (acc.mergeSort fun x y => decide (x <= y)) := ⟨hms.1, fun id => by
   rw [hms.2, hacc.2 id]
   constructor
   ·rintro ⟨e, h1, h2, h3, _⟩; exact ⟨e, h1, h2, h3⟩
   ·rintro ⟨e, h1, h2, h3⟩; exact ⟨e, h1, h2, h3, Tv⟩⟩
  have hal := hacc.len
  have hml : (acc.mergeSort fun x y => decide (x <= y)).length = acc.length := List.length_mergeSort acc
  rcases jo hN.hv with ⟨rfl, rfl⟩ | ⟨b, cap, L, rfl, ho, h1, h2, h3⟩
  ·refine zpq _ ?_
   refine za (o := (F'.un N).obj b6) _ (un_r hN.h6) ?_
   refine kn (i := ti42) (v := .s (.slice none 0 0)) (b := b6) (o := 0) (l := [.s (.slice none 0 0)]) rfl rfl rfl (un_r hN.h6) (Nat.le_refl _) ?_
   refine za (o := Store.obj (Store.setObj _ b6 _) b6) _ (zb _ _ _) ?_
   refine ret ?_
   rw [zu]
   exact h F' _ _ _ hc' (xj hd hN.h6) (.inl ⟨rfl, by simp⟩) hnear
  ·refine zj8 (un_r ho) (by omega) _ ?_
   have hb6 : b6 ≠ b := Ne.symm (hN.nv b _ _ rfl).2.2.2
   have h6 : ((F'.un N).setObj b (.cells ((acc.mergeSort fun x y => decide (x <= y)).map aI ++ L))).obj b6 = some (.cells [.s (.slice (some ⟨b, 0, none⟩) acc.length cap)]) := by rw [zc hb6]; exact un_r hN.h6
   refine za (o := Store.obj (Store.setObj _ b _) b6) _ h6 ?_
   refine kn (i := ti42) (v := .s (.slice (some ⟨b, 0, none⟩) acc.length cap)) (b := b6) (o := 0) (l := [.s (.slice (some ⟨b, 0, none⟩) acc.length cap)]) rfl rfl rfl h6 (Nat.le_refl _) ?_
   refine za (o := Store.obj (Store.setObj _ b6 _) b6) _ (zb _ _ _) ?_
   refine ret ?_
   rw [zu, zu]
   refine h F' _ _ _ hc' (xj (xj hd ho) (by rw [zc hb6]; exact hN.h6)) (.inr ⟨b, cap, L, ?_, ?_, ?_, ?_, h3⟩) hnear
   ·rw [hml]; rfl
   ·rw [zc (Ne.symm hb6)]; exact zb _ _ _
   ·omega
   ·omega
theorem zdw (l : List Int) (hl : l.length <= 1000000000000) (fn : FuncId) (cap : List AV) (q : Int -> Bool) (st : Store) (hf : ∀ x ∈ l, ∀ R : AV -> Store -> Prop, R (bool (q x)) st -> ACalls Tryz.prog fn ([int x] ++ cap) st R)
  (R : AV -> Store -> Prop) (h : R (int (idxI (l.findIdx? q))) st) : ACalls Tryz.prog 129 [lst 1 intC l, .clos fn cap] st R := by
 refine ACalls.of_body (c := cfg 19) zd Tryz.func129 (by rfl) (by rfl) (by rfl) (by rfl) ?_
 refine AWp.loop (σ := Nat) ⟨fun i => [(0, .av (lst 1 intC l)), (1, .av (.clos fn cap)), (7, .av (int (l.length : Nat))), (8, .av (int (i : Nat)))], fun _ => [],
  fun i st' => i <= l.length /\ st' = st /\ ∀ j, (hj : j < l.length) -> j < i -> q l[j] = false, fun i => l.length - i⟩ zd ?_ ?_
 ·refine ⟨0, Tv, ⟨Nat.zero_le _, rfl, fun j _ hj => by omega⟩, ⟨Tq, Tq, ?_, Tq, Tv⟩, Tv⟩
  rw [<- zi (f := intC) l]
  exact Tq
 rintro i st' ⟨hi, rfl, hall⟩
 refine bcd (fun h1 => ?_) (fun h1 => ?_)
 rotate_left
 ·have e : l.findIdx? q = none := by
   rw [List.findIdx?_eq_none_iff]
   intro x hx
   obtain ⟨j, hj, rfl⟩ := List.getElem_of_mem hx
   exact hall j hj (by omega)
  rw [e] at h
  exact ret h
 have hlt : i < l.length := by omega
 refine ⟨i, rfl, za _ (zg hlt) ?_⟩
 refine hf l[i] (List.getElem_mem hlt) _ ?_
 refine ze (fun h2 => ?_) (fun h2 => ?_)
 ·have e : l.findIdx? q = some i := by
   rw [List.findIdx?_eq_some_iff_getElem]
   exact ⟨hlt, h2, fun j hj => by rw [hall j (by omega) hj]; decide⟩
  rw [e] at h
  exact ret h
 ·refine in64 (by omega) ?_
  refine ⟨i + 1, ?_, ⟨by omega, rfl, fun j hj hj2 => ?_⟩, ⟨Tq, Tq, Tq, Tq, Tv⟩, Tv⟩
  ·show l.length - (i + 1) < l.length - i
   omega
  ·by_cases e : j = i
   ·subst e; exact h2
   ·exact hall j hj (by omega)
theorem zax (l : List Int) (hl : l.length <= 1000000000000) (fn : FuncId) (cap : List AV) (q : Int -> Bool) (st : Store) (hf : ∀ x ∈ l, ∀ R : AV -> Store -> Prop, R (bool (q x)) st -> ACalls Tryz.prog fn ([int x] ++ cap) st R)
  (R : AV -> Store -> Prop) (h : R (bool (l.any q)) st) : ACalls Tryz.prog 108 [lst 1 intC l, .clos fn cap] st R := by
 refine ACalls.of_body (c := cfg 9) zd Tryz.func108 (by rfl) (by rfl) (by rfl) (by rfl) ?_
 refine zdw l hl fn cap q st hf _ ?_
 have e : decide ((0 : Int) <= idxI (l.findIdx? q)) = l.any q := by
  cases hx : l.findIdx? q with
  | none =>
   rw [List.findIdx?_eq_none_iff] at hx
   rw [show decide ((0 : Int) <= idxI none) = false from by decide]
   symm
   rw [List.any_eq_false]
   intro x hm
   rw [hx x hm]; decide
  | some i =>
   rw [List.findIdx?_eq_some_iff_getElem] at hx
   obtain ⟨hi, h1, _⟩ := hx
   rw [show decide ((0 : Int) <= idxI (some i)) = true from by simp [idxI]]
   symm
   rw [List.any_eq_true]
   exact ⟨l[i], List.getElem_mem hi, h1⟩
 rw [<- e] at h
 exact ret h
theorem zeb (l : List Bld) (hl : l.length <= 1000000000000) (fn : FuncId) (cap : List AV) (q : Bld -> Bool) (st : Store) (hf : ∀ x ∈ l, ∀ R : AV -> Store -> Prop, R (bool (q x)) st -> ACalls Tryz.prog fn ([.agg (bldC x)] ++ cap) st R)
  (R : AV -> Store -> Prop) (h : R (int (idxI (l.findIdx? q))) st) : ACalls Tryz.prog 90 [lst 6 bldC l, .clos fn cap] st R := by
 refine ACalls.of_body (c := cfg 19) zd Tryz.func90 (by rfl) (by rfl) (by rfl) (by rfl) ?_
 refine AWp.loop (σ := Nat) ⟨fun i => [(0, .av (lst 6 bldC l)), (1, .av (.clos fn cap)), (7, .av (int (l.length : Nat))), (8, .av (int (i : Nat)))], fun _ => [],
  fun i st' => i <= l.length /\ st' = st /\ ∀ j, (hj : j < l.length) -> j < i -> q l[j] = false, fun i => l.length - i⟩ zd ?_ ?_
 ·refine ⟨0, Tv, ⟨Nat.zero_le _, rfl, fun j _ hj => by omega⟩, ⟨Tq, Tq, ?_, Tq, Tv⟩, Tv⟩
  rw [<- zi (f := bldC) l]
  exact Tq
 rintro i st' ⟨hi, rfl, hall⟩
 refine bcd (fun h1 => ?_) (fun h1 => ?_)
 rotate_left
 ·have e : l.findIdx? q = none := by
   rw [List.findIdx?_eq_none_iff]
   intro x hx
   obtain ⟨j, hj, rfl⟩ := List.getElem_of_mem hx
   exact hall j hj (by omega)
  rw [e] at h
  exact ret h
 have hlt : i < l.length := by omega
 refine ⟨i, rfl, za _ (zg hlt) ?_⟩
 refine hf l[i] (List.getElem_mem hlt) _ ?_
 refine ze (fun h2 => ?_) (fun h2 => ?_)
 ·have e : l.findIdx? q = some i := by
   rw [List.findIdx?_eq_some_iff_getElem]
   exact ⟨hlt, h2, fun j hj => by rw [hall j (by omega) hj]; decide⟩
  rw [e] at h
  exact ret h
 ·refine in64 (by omega) ?_
  refine ⟨i + 1, ?_, ⟨by omega, rfl, fun j hj hj2 => ?_⟩, ⟨Tq, Tq, Tq, Tq, Tv⟩, Tv⟩
  ·show l.length - (i + 1) < l.length - i
   omega
  ·by_cases e : j = i
   ·subst e; exact h2
   ·exact hall j hj (by omega)
theorem za0 (l : List Bld) (hl : l.length <= 1000000000000) (fn : FuncId) (cap : List AV) (q : Bld -> Bool) (st : Store) (hf : ∀ x ∈ l, ∀ R : AV -> Store -> Prop, R (bool (q x)) st -> ACalls Tryz.prog fn ([.agg (bldC x)] ++ cap) st R)
  (R : AV -> Store -> Prop) (h : R (bool (l.any q)) st) : ACalls Tryz.prog 64 [lst 6 bldC l, .clos fn cap] st R := by
 refine ACalls.of_body (c := cfg 9) zd Tryz.func64 (by rfl) (by rfl) (by rfl) (by rfl) ?_
 refine zeb l hl fn cap q st hf _ ?_
 have e : decide ((0 : Int) <= idxI (l.findIdx? q)) = l.any q := by
  cases hx : l.findIdx? q with
  | none =>
   rw [List.findIdx?_eq_none_iff] at hx
   rw [show decide ((0 : Int) <= idxI none) = false from by decide]
   symm
   rw [List.any_eq_false]
   intro x hm
   rw [hx x hm]; decide
  | some i =>
   rw [List.findIdx?_eq_some_iff_getElem] at hx
   obtain ⟨hi, h1, _⟩ := hx
   rw [show decide ((0 : Int) <= idxI (some i)) = true from by simp [idxI]]
   symm
   rw [List.any_eq_true]
   exact ⟨l[i], List.getElem_mem hi, h1⟩
 rw [<- e] at h
 exact ret h
theorem zgu (g : Gnd) (p : Nat) (t : Nat) (ht : t < g.T.length) (st : Store) (hp : st.obj p = some (.cells (gndC g))) (R : AV -> Store -> Prop) (h : R (bool (decide ((g.T.getD t 0).toNat > 1))) st) :
  ACalls Tryz.prog 109 ([int (t : Nat)] ++ [ptr p]) st R := by
 have hget : g.T.getD t 0 = g.T[t] := by simp [ht]
 rw [hget] at h
 refine ACalls.of_body (c := cfg 10) zd Tryz.func109 (by rfl) (by rfl) (by rfl) (by rfl) ?_
 refine za _ hp ?_
 refine ⟨t, rfl, za _ (zg ht) ?_⟩
 refine ret ?_
 have e : decide ((1 : Int) < (g.T[t].toNat : Int)) = decide (g.T[t].toNat > 1) := by
  rw [Bool.eq_iff_iff, decide_eq_true_iff, decide_eq_true_iff]; omega
 rw [<- e] at h
 exact h
theorem zjk (g : Gnd) (hg : gndP g) (b : Bld) (hb : bldP b /\ onP g b) (st : Store) (R : AV -> Store -> Prop) (h : ∀ z : Bool, (z = true ↔ zcl g b) -> R (bool z) st) :
  ACalls Tryz.prog 89 [.agg (gndC g), .agg (bldC b)] st R := by
 have hm := z7 hg
 refine ACalls.of_body (c := cfg 11 [2] []) zd Tryz.func89 (by rfl) (by rfl) (by rfl) (by rfl) ?_
 intro p hp
 have ho : (st.setObj p (.cells (gndC g))).obj p = some (.cells (gndC g)) := zb _ _ _
 refine za _ ho ?_
 refine wn g hg b hb _ _ ?_
 have hl : (xa g.W b).length <= 1000000000000 := by
  unfold xa
  rw [vg]
  have hb' := hb.1
  unfold bldP at hb'
  have : b.h.toNat * b.w.toNat <= 4 * 4 := Nat.mul_le_mul (by omega) (by omega)
  omega
 refine zax (xa g.W b) hl _ _ (fun x => decide ((g.T.getD x.toNat 0).toNat > 1)) _ (fun x hx R h => ?_) _ ?_
 ·obtain ⟨n, rfl, hn, hh⟩ := (qc hg hb.1 hb.2 x).1 hx
  exact zgu g p n (by omega) _ ho R (by rw [Int.toNat_natCast] at h; exact h)
 refine zah (Tt) (xi hp.1) (h _ ?_)
 unfold zcl
 rw [Bool.not_eq_true', List.any_eq_false]
 constructor
 ·intro hh t ht hb2
  have := hh (t : Int) ((qc hg hb.1 hb.2 _).2 ⟨t, rfl, by omega, hb2⟩)
  rw [decide_eq_true_iff, Int.toNat_natCast] at this
  omega
 ·intro hh x hx
  obtain ⟨n, rfl, hn, hb2⟩ := (qc hg hb.1 hb.2 x).1 hx
  rw [decide_eq_true_iff, Int.toNat_natCast]
  have := hh n (by omega) hb2
  omega
/-- A slice of yes and no, all its own. -/
def blV (b n : Nat) : AV := .s (.slice (some ⟨b, 0, none⟩) n n)
theorem zc9 (g : Gnd) (hg : gndP g) (l : List Bld) (hl : l.length <= 1000000000000) (hb : ∀ b ∈ l, bldP b /\ onP g b) (st : Store) (R : AV -> Store -> Prop)
  (h : ∀ b, Fresh st b -> R (blV b g.T.length) (st.setObj b (.cells (bl g.T.length (covB g l))))) : ACalls Tryz.prog 29 [.agg (gndC g), lst 6 bldC l] st R := by
 have ha := z7 hg
 have hT : ((rws u8C g.T).length : Int) = (g.T.length : Int) := by rw [zi]
 refine ACalls.of_body (c := cfg 34) zd Tryz.func29 (by rfl) (by rfl) (by rfl) (by rfl) ?_
 refine wi rfl (it := ti59) (ie := ti4) rfl rfl rfl rfl rfl (n := (rws u8C g.T).length) ?_ ?_ (fun b hf => ?_)
 ·rw [zi]; show 1 * _ <= _; omega
 ·rw [zi]; omega
 rw [zi, zg6]
 refine AWp.loop (σ := Nat) ⟨fun i => [(2, .bx 2 0), (5, .av (blV b g.T.length)), (14, .av (lst 6 bldC l)), (15, .av (int (l.length : Nat))), (16, .av (int (i : Nat)))], fun _ => [(2, gndC g)],
  fun i st' => i <= l.length /\ st' = st.setObj b (.cells (bl g.T.length (covB g (l.take i)))), fun i => l.length - i⟩ zd ?_ ?_
 ·refine ⟨0, Tv, ⟨Nat.zero_le _, rfl⟩, ⟨Tq, Tq, Tq, ?_, Tq, Tv⟩, ⟨rfl, Tv⟩⟩
  rw [<- zi (f := bldC) l]
  exact Tq
 rintro i st' ⟨hi, rfl⟩
 refine bcd (fun h1 => ?_) (fun h1 => ?_)
 rotate_left
 ·have : i = l.length := by omega
  subst this
  rw [List.take_length]
  exact ret (h b hf)
 have hlt : i < l.length := by omega
 have hbi := hb l[i] (List.getElem_mem hlt)
 refine ⟨i, rfl, za _ (zg hlt) ?_⟩
 refine wn g hg l[i] hbi _ _ ?_
 have hcov := fun (t : Nat) (ht : t < g.T.length) => zfm hg hlt hbi ht
 have hmem := qc hg hbi.1 hbi.2
 have h0 := zfk g l i (xa g.W l[i])
 have hts := zcs g.W hbi.1
 generalize xa g.W l[i] = ts at *
 refine AWp.loop (σ := Nat) ⟨fun k => [(2, .bx 2 0), (5, .av (blV b g.T.length)), (14, .av (lst 6 bldC l)), (15, .av (int (l.length : Nat))), (16, .av (int (i : Nat))), (22, .av (ints ts)), (23, .av (int (ts.length : Nat))), (24, .av (int (k : Nat)))], fun _ => [(2, gndC g)],
  fun k st' => k <= ts.length /\ st' = st.setObj b (.cells (bl g.T.length (covF g l i ts k))), fun k => ts.length - k⟩ zd ?_ ?_
 ·refine ⟨0, Tv, ⟨Nat.zero_le _, ?_⟩, ⟨Tq, Tq, Tq, Tq, Tq, Tq, ?_, Tq, Tv⟩, ⟨rfl, Tv⟩⟩
  ·rw [show covF g l i ts 0 = covB g (l.take i) from funext h0]
  ·rw [<- zi (f := intC) ts]
   exact Tq
 rintro k st' ⟨hk, rfl⟩
 refine bcd (fun h2 => ?_) (fun h2 => ?_)
 rotate_left
 ·have : k = ts.length := by omega
  subst this
  refine in64 (by omega) ?_
  refine ⟨i + 1, ?_, ⟨by omega, ?_⟩, ⟨Tq, Tq, Tq, Tq, Tq, Tv⟩, ⟨rfl, Tv⟩⟩
  ·show l.length - (i + 1) < l.length - i
   omega
  ·have : bl g.T.length (covF g l i ts ts.length) = bl g.T.length (covB g (l.take (i + 1))) := by
    unfold bl
    exact List.map_congr_left fun t ht => by rw [hcov t (List.mem_range.1 ht)]
   rw [this]
 have hklt : k < ts.length := by omega
 obtain ⟨n, hn, hn2, hn3⟩ := (hmem ts[k]).1 (List.getElem_mem hklt)
 have hnl : n < g.T.length := by omega
 obtain ⟨s1, s2⟩ := zfl (g := g) (l := l) (i := i) hklt hn
 refine ⟨k, rfl, za _ (zg hklt) ?_⟩
 refine ⟨n, hn, hnl, ?_⟩
 refine zp (i := ti4) (v := bool true) (b := b) (o := 0 + n * 1) (l := bl g.T.length (covF g l i ts k)) (st2 := st.setObj b (.cells (bl g.T.length (covF g l i ts (k + 1))))) rfl rfl rfl (zb _ _ _) (by rw [xx]; omega) ?_ ?_
 ·rw [zk, show 0 + n * 1 = n by omega, <- s1, zb5 hnl _ s2]
 refine in64 (by omega) ?_
 refine ⟨k + 1, ?_, ⟨by omega, rfl⟩, ⟨Tq, Tq, Tq, Tq, Tq, Tq, Tq, Tq, Tv⟩, ⟨rfl, Tv⟩⟩
 show ts.length - (k + 1) < ts.length - k
 omega
theorem zbn (n : Nat) (f : Nat -> Bool) : (rws zaz (blL n f)).flatten ++ [] = bl n f := by rw [List.append_nil, zvb]
def opV (g : Gnd) (l : List Bld) (c : Int) : AV := lst 1 zaz (blL g.T.length (qh g l c))
/-- Half done: the first tiles are asked for their zf7 as well. -/
def midB (g : Gnd) (l : List Bld) (c : Int) (i t : Nat) : Bool := if t < i then qh g l c t else covB g l t
theorem vj (g : Gnd) (hg : gndP g) (l : List Bld) (hl : l.length <= 1000000000000) (hb : ∀ b ∈ l, bldP b /\ onP g b) (c : Int) (st : Store) (R : AV -> Store -> Prop) (h : R (opV g l c) st) :
  ACalls Tryz.prog 98 [.agg (gndC g), lst 6 bldC l, int c] st R := by
 have ha := z7 hg
 refine ACalls.of_awp (c := cfg 37) zd Tryz.func98 (by rfl) (by rfl) (by rfl) (by rfl) ?_
 refine AWp.seq (AWp.of_vc zd ?_)
 refine AWp.seq (AWp.of_vc zd ?_)
 refine zc9 g hg l hl hb _ _ (fun b hf => ?_)
 have step : ∀ i, i < g.T.length -> midB g l c (i + 1) i = qh g l c i /\ ∀ s, s ≠ i -> midB g l c (i + 1) s = midB g l c i s := fun i hi => by
  unfold midB
  refine ⟨if_pos (by omega), fun s hs => ?_⟩
  by_cases h1 : s < i
  ·rw [if_pos (by omega), if_pos h1]
  ·rw [if_neg (by omega), if_neg h1]
 refine AWp.meetA (σ := Unit) ⟨fun _ => [(7, .av (blV b g.T.length))], fun _ => [], fun _ st' => st' = st.setObj b (.cells (bl g.T.length (qh g l c)))⟩ ?_ ?_
 ·refine AWp.of_vc zd ?_
  refine AWp.loop (σ := Nat) ⟨fun i => [(2, .av (int c)), (3, .bx 3 0), (7, .av (blV b g.T.length)), (13, .av (blV b g.T.length)), (14, .av (int (g.T.length : Nat))), (15, .av (int (i : Nat)))], fun _ => [(3, gndC g)],
   fun i st' => i <= g.T.length /\ st' = st.setObj b (.cells (bl g.T.length (midB g l c i))), fun i => g.T.length - i⟩ zd ?_ ?_
  ·refine ⟨0, Tv, ⟨Nat.zero_le _, ?_⟩, ⟨Tq, Tq, Tq, Tq, Tq, Tq, Tv⟩, ⟨rfl, Tv⟩⟩
   rw [show midB g l c 0 = covB g l from funext fun t => if_neg (Nat.not_lt_zero t)]
  rintro i st' ⟨hi, rfl⟩
  refine bcd (fun h1 => ?_) (fun h1 => ?_)
  rotate_left
  ·have : i = g.T.length := by omega
   subst this
   refine ⟨(), ?_, ⟨Tq, Tv⟩, Tv⟩
   have : bl g.T.length (midB g l c g.T.length) = bl g.T.length (qh g l c) := by
    unfold bl midB
    exact List.map_congr_left fun t ht => by rw [if_pos (List.mem_range.1 ht)]
   rw [this]
  have hlt : i < g.T.length := by omega
  obtain ⟨s1, s2⟩ := step i hlt
  have ho : (st.setObj b (.cells (bl g.T.length (midB g l c i)))).obj b = some (.cells (bl g.T.length (midB g l c i))) := zb _ _ _
  have hmid : midB g l c i i = covB g l i := if_neg (Nat.lt_irrefl i)
  have hhead : ((bl g.T.length (midB g l c i)).drop (0 + i * 1)).head? = some (bool (covB g l i)) := by
   rw [List.head?_drop, show 0 + i * 1 = i by omega, wh hlt, hmid]
  refine ⟨i, rfl, hlt, ?_⟩
  refine za _ ho (za _ hhead ?_)
  have hti : g.T[i].toNat <= 5 := hg.2.2.2 _ (List.getElem_mem hlt)
  have hget : g.T.getD i 0 = g.T[i] := by simp [hlt]
  refine ze (fun c1 => ?_) (fun c1 => ?_)
  ·have c1 : covB g l i = false := by simpa using c1
   refine ⟨i, rfl, za _ (zg hlt) ?_⟩
   refine zin c g.T[i] hti _ _ ?_
   have hz : decide (0 < zdn c g.T[i].toNat) = qh g l c i := by
    unfold qh
    rw [c1, hget]; rfl
   refine ⟨i, rfl, hlt, ?_⟩
   refine zp (i := ti4) (v := bool (decide (0 < zdn c g.T[i].toNat))) (b := b) (o := 0 + i * 1) (l := _) (st2 := st.setObj b (.cells (bl g.T.length (midB g l c (i + 1))))) rfl rfl rfl ho (by rw [xx]; omega) (by rw [zk, show 0 + i * 1 = i by omega, hz, <- s1, zb5 hlt _ s2]) ?_
   refine in64 (by omega) ?_
   refine ⟨i + 1, ?_, ⟨by omega, rfl⟩, ⟨Tq, Tq, Tq, Tq, Tq, Tq, Tv⟩, ⟨rfl, Tv⟩⟩
   show g.T.length - (i + 1) < g.T.length - i
   omega
  ·have c1 : covB g l i = true := by simpa using c1
   have hz : false = qh g l c i := by
    unfold qh
    rw [c1]; rfl
   refine ⟨i, rfl, hlt, ?_⟩
   refine zp (i := ti4) (v := bool false) (b := b) (o := 0 + i * 1) (l := _) (st2 := st.setObj b (.cells (bl g.T.length (midB g l c (i + 1))))) rfl rfl rfl ho (by rw [xx]; omega) (by rw [zk, show 0 + i * 1 = i by omega, hz, <- s1, zb5 hlt _ s2]) ?_
   refine in64 (by omega) ?_
   refine ⟨i + 1, ?_, ⟨by omega, rfl⟩, ⟨Tq, Tq, Tq, Tq, Tq, Tq, Tv⟩, ⟨rfl, Tv⟩⟩
   show g.T.length - (i + 1) < g.T.length - i
   omega
 ·rintro _ _ rfl
  refine AWp.freeze (d := 7) (b := b) (k := 1) (n := g.T.length) (cap := g.T.length) (rows := rws zaz (blL g.T.length (qh g l c))) (pad := []) rfl ?_ ?_ ?_ (Nat.le_refl _) ?_ ?_ ?_
  ·rw [zbn]; exact zb _ _ _
  ·exact hf.2
  ·rw [zi, w9]
  ·intro row hr
   obtain ⟨x, _, rfl⟩ := List.mem_map.1 hr
   rfl
  ·intro row hr y hy
   obtain ⟨x, _, rfl⟩ := List.mem_map.1 hr
   simp [zaz] at hy
   exact ⟨_, hy, rfl⟩
  rw [zb2 hf.1]
  refine AWp.of_vc zd ?_
  exact ret h
set_option maxHeartbeats 1000000 in
theorem zea (g : Gnd) (hg : gndP g) (l : List Bld) (hl : l.length <= 1000000000000) (st : Store) (R : AV -> Store -> Prop)
  (h : ∀ z : Bool, (z = true ↔ zfv g l) -> R (bool z) st) : ACalls Tryz.prog 63 [.agg (gndC g), lst 6 bldC l] st R := by
 have ha := z7 hg
 have hT : ((rws u8C g.T).length : Int) = (g.T.length : Int) := by rw [zi]
 have hL : ((rws bldC l).length : Int) = (l.length : Int) := by rw [zi]
 have no : ¬ zfv g l -> R (bool false) st := fun hn => h false (by simp [hn])
 refine ACalls.of_body (c := cfg 60) zd Tryz.func63 (by rfl) (by rfl) (by rfl) (by rfl) ?_
 refine bcd (fun c1 => ret (no fun q => by have := q.1; omega)) (fun c1 => ?_)
 refine zfu l hl _ _ (fun z hz => ?_)
 refine y5 ?_
 refine ze (fun c2 => ?_) (fun c2 => ret (no fun q => by have := hz.2 q.2.1; rw [this] at c2; cases c2))
 have hr := hz.1 c2
 refine wi rfl (it := ti59) (ie := ti4) rfl rfl rfl rfl rfl (n := (rws u8C g.T).length) ?_ ?_ (fun b hf => ?_)
 ·rw [zi]; show 1 * _ <= _; omega
 ·rw [zi]; omega
 rw [zi (f := u8C) g.T, zg6]
 have hhas : ∀ f : Nat -> Bool, (st.setObj b (.cells (bl g.T.length f))).Has st := fun f => xi hf.1
 refine AWp.loop (σ := Nat) ⟨fun i => [(2, .bx 2 0), (5, .av (blV b g.T.length)), (22, .av (lst 6 bldC l)), (23, .av (int (l.length : Nat))), (24, .av (int (i : Nat)))], fun _ => [(2, gndC g)],
  fun i st' => i <= l.length /\ st' = st.setObj b (.cells (bl g.T.length (covB g (l.take i)))) /\ zqt g l i, fun i => l.length - i⟩ zd ?_ ?_
 ·refine ⟨0, Tv, ⟨Nat.zero_le _, rfl, fun j _ hj => by omega⟩, ⟨Tq, Tq, Tq, ?_, Tq, Tv⟩, ⟨rfl, Tv⟩⟩
  rw [<- zi (f := bldC) l]
  exact Tq
 rintro i st' ⟨hi, rfl, hup⟩
 refine bcd (fun h1 => ?_) (fun h1 => ?_)
 rotate_left
 ·have : i = l.length := by omega
  subst this
  have hall := zft hup
  exact zah (Tt) (hhas _) (h true (by simp; exact ⟨by omega, hr, hall.1, hall.2⟩))
 have hlt : i < l.length := by omega
 have nof : ¬ zfv g l -> ∃ r st', AV.le (bool false) r /\ (st.setObj b (.cells (bl g.T.length (covB g (l.take i))))).Has st' /\ R r st' := fun hn => zah (Tt) (hhas _) (no hn)
 refine ⟨i, rfl, za _ (zg hlt) ?_⟩
 refine zjj l[i] _ _ (fun z1 hz1 => ?_)
 refine y5 ?_
 refine ze (fun c3 => ?_) (fun c3 => nof fun q => by have := hz1.2 (q.2.2.1 _ (List.getElem_mem hlt)).1; rw [this] at c3; cases c3)
 have hb1 := hz1.1 c3
 refine zqv g l[i] hg hb1 _ _ (fun z2 hz2 => ?_)
 refine y5 ?_
 refine ze (fun c4 => ?_) (fun c4 => nof fun q => by have := hz2.2 (q.2.2.1 _ (List.getElem_mem hlt)).2.1; rw [this] at c4; cases c4)
 have hb2 := hz2.1 c4
 refine zjk g hg l[i] ⟨hb1, hb2⟩ _ _ (fun z3 hz3 => ?_)
 refine y5 ?_
 refine ze (fun c5 => ?_) (fun c5 => nof fun q => by have := hz3.2 (q.2.2.1 _ (List.getElem_mem hlt)).2.2; rw [this] at c5; cases c5)
 have hb3 := hz3.1 c5
 have hbi : bldP l[i] /\ onP g l[i] := ⟨hb1, hb2⟩
 refine wn g hg l[i] hbi _ _ ?_
 have hcov := fun (t : Nat) (ht : t < g.T.length) => zfm hg hlt hbi ht
 have hmem := qc hg hbi.1 hbi.2
 have h0 := zfk g l i (xa g.W l[i])
 have hts := zcs g.W hbi.1
 have hcm := zqo hg hlt hbi hup
 have hso := zdj hg hbi
 generalize xa g.W l[i] = ts at *
 refine AWp.loop (σ := Nat) ⟨fun k => [(2, .bx 2 0), (5, .av (blV b g.T.length)), (22, .av (lst 6 bldC l)), (23, .av (int (l.length : Nat))), (24, .av (int (i : Nat))), (45, .av (ints ts)), (46, .av (int (ts.length : Nat))), (47, .av (int (k : Nat)))], fun _ => [(2, gndC g)],
  fun k st' => k <= ts.length /\ st' = st.setObj b (.cells (bl g.T.length (covF g l i ts k))) /\ ∀ m, (hm : m < ts.length) -> m < k -> covB g (l.take i) ts[m].toNat = false, fun k => ts.length - k⟩ zd ?_ ?_
 ·refine ⟨0, Tv, ⟨Nat.zero_le _, ?_, fun m _ hm => by omega⟩, ⟨Tq, Tq, Tq, Tq, Tq, Tq, ?_, Tq, Tv⟩, ⟨rfl, Tv⟩⟩
  ·rw [show covF g l i ts 0 = covB g (l.take i) from funext h0]
  ·rw [<- zi (f := intC) ts]
   exact Tq
 rintro k st' ⟨hk, rfl, hno⟩
 refine bcd (fun h2 => ?_) (fun h2 => ?_)
 rotate_left
 ·have : k = ts.length := by omega
  subst this
  refine in64 (by omega) ?_
  refine ⟨i + 1, ?_, ⟨by omega, ?_, fun j hj hji => ?_⟩, ⟨Tq, Tq, Tq, Tq, Tq, Tv⟩, ⟨rfl, Tv⟩⟩
  ·show l.length - (i + 1) < l.length - i
   omega
  ·have : bl g.T.length (covF g l i ts ts.length) = bl g.T.length (covB g (l.take (i + 1))) := by
    unfold bl
    exact List.map_congr_left fun t ht => by rw [hcov t (List.mem_range.1 ht)]
   rw [this]
  ·by_cases e : j = i
   ·subst e
    refine ⟨⟨hb1, hb2, hb3⟩, fun m hm hmt => ?_⟩
    obtain ⟨t, ht, hc⟩ := hcm.2 ⟨m, hm, hmt⟩
    obtain ⟨q, hq, rfl⟩ := List.getElem_of_mem ht
    rw [hno q hq hq] at hc
    cases hc
   ·exact hup j hj (by omega)
 have hklt : k < ts.length := by omega
 obtain ⟨n, hn, hn2, hn3⟩ := (hmem ts[k]).1 (List.getElem_mem hklt)
 have hnl : n < g.T.length := by omega
 obtain ⟨s1, s2⟩ := zfl (g := g) (l := l) (i := i) hklt hn
 have hnk : covF g l i ts k n = covB g (l.take i) n := by
  unfold covF
  have : (ts.take k).contains (n : Int) = false := by
   rw [<- hn]
   have := zey hso hklt
   simpa using this
  rw [this, Bool.or_false]
 refine ⟨k, rfl, za _ (zg hklt) ?_⟩
 have ho : (st.setObj b (.cells (bl g.T.length (covF g l i ts k)))).obj b = some (.cells (bl g.T.length (covF g l i ts k))) := zb _ _ _
 have hhead : ((bl g.T.length (covF g l i ts k)).drop (0 + n * 1)).head? = some (V.bool (covB g (l.take i) n)) := by
  rw [List.head?_drop, show 0 + n * 1 = n by omega, wh hnl, hnk]
 refine ⟨n, hn, hnl, ?_⟩
 refine za _ ho (za _ hhead ?_)
 refine ze (fun c6 => ?_) (fun c6 => ?_)
 ·refine zah (Tt) (hhas _) (no fun q => ?_)
  obtain ⟨m, hm, hmt⟩ := hcm.1 ⟨ts[k], List.getElem_mem hklt, by rw [hn, Int.toNat_natCast]; exact c6⟩
  exact q.2.2.2 i hlt m hm hmt
 refine ⟨n, hn, hnl, ?_⟩
 refine zp (i := ti4) (v := bool true) (b := b) (o := 0 + n * 1) (l := bl g.T.length (covF g l i ts k)) (st2 := st.setObj b (.cells (bl g.T.length (covF g l i ts (k + 1))))) rfl rfl rfl (zb _ _ _) (by rw [xx]; omega) ?_ ?_
 ·rw [zk, show 0 + n * 1 = n by omega, <- s1, zb5 hnl _ s2]
 refine in64 (by omega) ?_
 refine ⟨k + 1, ?_, ⟨by omega, rfl, fun m hm hmk => ?_⟩, ⟨Tq, Tq, Tq, Tq, Tq, Tq, Tq, Tq, Tv⟩, ⟨rfl, Tv⟩⟩
 ·show ts.length - (k + 1) < ts.length - k
  omega
 ·by_cases e : m = k
  ·subst e
   rw [hn, Int.toNat_natCast]; exact c6
  ·exact hno m hm (by omega)
theorem zce (g : Gnd) (hgf : g.fits) (l : List Bld) (hl : l.length <= 1000000000000) (st : Store) (R : AV -> Store -> Prop)
  (h : ∀ z : Bool, (z = true ↔ gndP g /\ zfv g l) -> R (bool z) st) : ACalls Tryz.prog 38 [.agg (gndC g), lst 6 bldC l] st R := by
 have hL : ((rws bldC l).length : Int) = (l.length : Int) := by rw [zi]
 have no : ¬ (gndP g /\ zfv g l) -> R (bool false) st := fun hn => h false (by simp only [Bool.false_eq_true, false_iff]; exact hn)
 refine ACalls.of_body (c := cfg 64) zd Tryz.func38 (by rfl) (by rfl) (by rfl) (by rfl) ?_
 refine ze8 g hgf _ _ (fun z hz => ?_)
 refine y5 ?_
 refine ze (fun c0 => ?_) (fun c0 => ret (no fun q => by have := hz.2 q.1; rw [this] at c0; cases c0))
 have hg := hz.1 c0
 refine bcd (fun c1 => ret (no fun q => by have := q.2.1; omega)) (fun c1 => ?_)
 refine zkl l hl _ _ (fun z hz => ?_)
 refine y5 ?_
 refine ze (fun c2 => ?_) (fun c2 => ret (no fun q => by have := hz.2 q.2.2.1; rw [this] at c2; cases c2))
 have hr := hz.1 c2
 refine AWp.loop (σ := Nat) ⟨fun i => [(1, .av (lst 6 bldC l)), (2, .bx 2 0), (5, .av (int (i : Nat)))], fun _ => [(2, gndC g)],
  fun i st' => i <= l.length /\ st' = st /\ zqt g l i, fun i => l.length - i⟩ zd ?_ ?_
 ·exact ⟨0, Tv, ⟨Nat.zero_le _, rfl, fun j _ hj => by omega⟩, ⟨Tq, Tq, Tq, Tv⟩, ⟨rfl, Tv⟩⟩
 rintro i st' ⟨hi, rfl, hup⟩
 refine bcd (fun h1 => ?_) (fun h1 => ?_)
 rotate_left
 ·have : i = l.length := by omega
  subst this
  have hall := zft hup
  exact ret (h true (by simp only [true_iff]; exact ⟨hg, by omega, hr, hall.1, hall.2⟩))
 have hlt : i < l.length := by omega
 refine ADraw.of_sched zd (by rfl) (by rfl) zup (by rfl) ?_
 refine ⟨i, rfl, za _ (zg hlt) ?_⟩
 have nof : ¬ (bldP l[i] /\ onP g l[i] /\ zcl g l[i]) -> R (bool false) st' := fun hn => no fun q => hn (q.2.2.2.1 _ (List.getElem_mem hlt))
 refine ⟨zh9 l[i] _ _ (fun z1 hz1 => ⟨Tv, ?_⟩), Tv⟩
 refine y5 ?_
 refine ze (fun c3 => ?_) (fun c3 => ⟨⟨Tv, ⟨⟨Tv, ret (nof fun q => by have := hz1.2 q.1; rw [this] at c3; cases c3)⟩, Tv⟩⟩, Tv⟩)
 have hb1 := hz1.1 c3
 refine ⟨i, rfl, za _ (zg hlt) ?_⟩
 refine ⟨zp7 g l[i] hg hb1 _ _ (fun z2 hz2 => ⟨Tv, ?_⟩), Tv⟩
 refine y5 ?_
 refine ze (fun c4 => ?_) (fun c4 => ⟨⟨Tv, ret (nof fun q => by have := hz2.2 q.2.1; rw [this] at c4; cases c4)⟩, Tv⟩)
 have hb2 := hz2.1 c4
 refine ⟨i, rfl, za _ (zg hlt) ?_⟩
 refine ⟨zik g hg l[i] ⟨hb1, hb2⟩ _ _ (fun z3 hz3 => ⟨Tv, ?_⟩), Tv⟩
 refine y5 ?_
 refine ze (fun c5 => ?_) (fun c5 => ret (nof fun q => by have := hz3.2 q.2.2; rw [this] at c5; cases c5))
 have hb3 := hz3.1 c5
 refine AWp.loop (σ := Nat) ⟨fun k => [(1, .av (lst 6 bldC l)), (2, .bx 2 0), (5, .av (int (i : Nat))), (6, .av (int (k : Nat)))], fun _ => [(2, gndC g)],
  fun k st2 => k <= i /\ st2 = st' /\ ∀ m, (hm : m < k) -> (hmi : m < i) -> ¬ v6 l[i] (l[m]'(by omega)), fun k => i - k⟩ zd ?_ ?_
 ·exact ⟨0, Tv, ⟨Nat.zero_le _, rfl, fun m hm => by omega⟩, ⟨Tq, Tq, Tq, Tq, Tv⟩, ⟨rfl, Tv⟩⟩
 rintro k st2 ⟨hk, rfl, hno⟩
 refine bcd (fun h2 => ?_) (fun h2 => ?_)
 rotate_left
 ·refine in64 (by omega) ?_
  refine ⟨i + 1, ?_, ⟨by omega, rfl, fun j hj hji => ?_⟩, ⟨Tq, Tq, Tq, Tv⟩, ⟨rfl, Tv⟩⟩
  ·show l.length - (i + 1) < l.length - i
   omega
  ·by_cases e : j = i
   ·subst e
    exact ⟨⟨hb1, hb2, hb3⟩, fun m hm => hno m (by omega) hm⟩
   ·exact hup j hj (by omega)
 have hki : k < i := by omega
 have hkl : k < l.length := by omega
 have hbk := (hup k hkl hki).1
 refine ADraw.of_sched zd (by rfl) (by rfl) zpu (by rfl) ?_
 refine ⟨i, rfl, za _ (zg hlt) ?_⟩
 refine ⟨k, rfl, za _ (zg hkl) ?_⟩
 refine ⟨zk3 g hg l[i] l[k] ⟨hb1, hb2⟩ ⟨hbk.1, hbk.2.1⟩ _ _ (fun z4 hz4 => ⟨Tv, ?_⟩), Tv⟩
 refine ze (fun c6 => ret (no fun q => q.2.2.2.2 i hlt k hki (hz4.1 c6))) (fun c6 => ?_)
 refine in64 (by omega) ?_
 refine ⟨k + 1, ?_, ⟨by omega, rfl, fun m hm hmi => ?_⟩, ⟨Tq, Tq, Tq, Tq, Tv⟩, ⟨rfl, Tv⟩⟩
 ·show i - (k + 1) < i - k
  omega
 ·by_cases e : m = k
  ·subst e
   intro hm2
   have := hz4.2 hm2
   rw [this] at c6; cases c6
  ·exact hno m (by omega) hmi
theorem zdm (g : Gnd) (hg : gndP g) (l : List Bld) (hl : l.length <= 1000000000000) (hb : ∀ b ∈ l, bldP b /\ onP g b) (st : Store) (R : AV -> Store -> Prop)
  (h : ∀ b, Fresh st b -> R (blV b g.T.length) (st.setObj b (.cells (bl g.T.length (covB g l))))) : ACalls Tryz.prog 24 [.agg (gndC g), lst 6 bldC l] st R := by
 have ha := z7 hg
 have hg1 := hg.1
 have hg2 := hg.2.1
 refine ACalls.of_body (c := cfg 70) zd Tryz.func24 (by rfl) (by rfl) (by rfl) (by rfl) ?_
 refine in64 (by omega) ?_
 rw [<- ha.2.2]
 refine wi rfl (it := ti59) (ie := ti4) rfl rfl rfl rfl rfl (n := g.T.length) ?_ ?_ (fun b hf => ?_)
 ·show 1 * _ <= _; omega
 ·omega
 rw [zg6]
 refine AWp.loop (σ := Nat) ⟨fun i => [(1, .av (lst 6 bldC l)), (2, .bx 2 0), (5, .av (blV b g.T.length)), (6, .av (int (i : Nat)))], fun _ => [(2, gndC g)],
  fun i st' => i <= l.length /\ st' = st.setObj b (.cells (bl g.T.length (covB g (l.take i)))), fun i => l.length - i⟩ zd ?_ ?_
 ·exact ⟨0, Tv, ⟨Nat.zero_le _, rfl⟩, ⟨Tq, Tq, Tq, Tq, Tv⟩, ⟨rfl, Tv⟩⟩
 rintro i st' ⟨hi, rfl⟩
 refine ze (fun h1 => ?_) (fun h1 => ?_)
 rotate_left
 ·have : i = l.length := xq h1 hi
  subst this
  rw [List.take_length]
  exact ret (h b hf)
 have hlt : i < l.length := ql h1
 have hbi := hb l[i] (List.getElem_mem hlt)
 have hbi' := hbi
 unfold bldP onP at hbi'
 refine ⟨i, rfl, za _ (zg hlt) ?_⟩
 refine AWp.loop (σ := Nat) ⟨fun k => [(1, .av (lst 6 bldC l)), (2, .bx 2 0), (5, .av (blV b g.T.length)), (6, .av (int (i : Nat))), (7, .av (int (l[i].y + (k : Nat))))], fun _ => [(2, gndC g)],
  fun k st' => k <= l[i].h.toNat /\ st' = st.setObj b (.cells (bl g.T.length (covR g l i l[i] k 0))), fun k => l[i].h.toNat - k⟩ zd ?_ ?_
 ·refine ⟨0, Tv, ⟨Nat.zero_le _, ?_⟩, ⟨Tq, Tq, Tq, Tq, ?_, Tv⟩, ⟨rfl, Tv⟩⟩
  ·rw [zl0]
  ·rw [show l[i].y + ((0 : Nat) : Int) = l[i].y by omega]; exact Tq
 rintro k st' ⟨hk, rfl⟩
 refine ADraw.of_sched zd (by rfl) (by rfl) zur (by rfl) ?_
 refine ⟨i, rfl, za _ (zg hlt) ?_⟩
 refine ⟨i, rfl, za _ (zg hlt) ?_⟩
 refine in64 (by omega) ?_
 refine bcd (fun h2 => ?_) (fun h2 => ?_)
 rotate_left
 ·have : k = l[i].h.toNat := by omega
  subst this
  refine in64 (by omega) ?_
  refine ⟨i + 1, ?_, ⟨by omega, ?_⟩, ⟨Tq, Tq, Tq, Tq, Tv⟩, ⟨rfl, Tv⟩⟩
  ·show l.length - (i + 1) < l.length - i
   omega
  ·rw [zl2 hlt (by omega)]
 refine ⟨i, rfl, za _ (zg hlt) ?_⟩
 refine AWp.loop (σ := Nat) ⟨fun m => [(1, .av (lst 6 bldC l)), (2, .bx 2 0), (5, .av (blV b g.T.length)), (6, .av (int (i : Nat))), (7, .av (int (l[i].y + (k : Nat)))), (8, .av (int (l[i].x + (m : Nat))))], fun _ => [(2, gndC g)],
  fun m st' => m <= l[i].w.toNat /\ st' = st.setObj b (.cells (bl g.T.length (covR g l i l[i] k m))), fun m => l[i].w.toNat - m⟩ zd ?_ ?_
 ·refine ⟨0, Tv, ⟨Nat.zero_le _, rfl⟩, ⟨Tq, Tq, Tq, Tq, Tq, ?_, Tv⟩, ⟨rfl, Tv⟩⟩
  rw [show l[i].x + ((0 : Nat) : Int) = l[i].x by omega]; exact Tq
 rintro m st' ⟨hm, rfl⟩
 refine ADraw.of_sched zd (by rfl) (by rfl) zuq (by rfl) ?_
 refine ⟨i, rfl, za _ (zg hlt) ?_⟩
 refine ⟨i, rfl, za _ (zg hlt) ?_⟩
 refine in64 (by omega) ?_
 refine bcd (fun h3 => ?_) (fun h3 => ?_)
 rotate_left
 ·have : m = l[i].w.toNat := by omega
  subst this
  refine in64 (by omega) ?_
  refine ⟨k + 1, ?_, ⟨by omega, ?_⟩, ⟨Tq, Tq, Tq, Tq, ?_, Tv⟩, ⟨rfl, Tv⟩⟩
  ·show l[i].h.toNat - (k + 1) < l[i].h.toNat - k
   omega
  ·rw [zqp _ _ _ _ _ (by omega)]
  ·rw [show l[i].y + ((k + 1 : Nat) : Int) = l[i].y + (k : Int) + 1 by omega]; exact Tq
 obtain ⟨q1, q2, _⟩ := qn hg (x := l[i].x + m) (y := l[i].y + k) (by omega) (by omega)
 have q3 : 0 <= g.W * (l[i].y + (k : Int)) := Int.mul_nonneg (by omega) (by omega)
 obtain ⟨s1, s2⟩ := zl1 hg (l := l) (i := i) hbi (k := k) (m := m) (by omega) (by omega) (n := (l[i].x + (m : Int) + g.W * (l[i].y + (k : Int))).toNat) (by omega)
 refine in64 (by omega) ?_
 refine in64 (by omega) ?_
 refine ⟨(l[i].x + (m : Int) + g.W * (l[i].y + (k : Int))).toNat, by omega, by omega, ?_⟩
 refine zp (i := ti4) (v := V.bool true) (b := b) (o := 0 + (l[i].x + (m : Int) + g.W * (l[i].y + (k : Int))).toNat * 1) (l := bl g.T.length (covR g l i l[i] k m)) (st2 := st.setObj b (.cells (bl g.T.length (covR g l i l[i] k (m + 1))))) rfl rfl rfl (zb _ _ _) (by rw [xx]; omega) ?_ ?_
 ·rw [zk, show ∀ n : Nat, 0 + n * 1 = n by omega, <- s1, zb5 (by omega) _ s2]
 refine in64 (by omega) ?_
 refine ⟨m + 1, ?_, ⟨by omega, rfl⟩, ⟨Tq, Tq, Tq, Tq, Tq, ?_, Tv⟩, ⟨rfl, Tv⟩⟩
 ·show l[i].w.toNat - (m + 1) < l[i].w.toNat - m
  omega
 ·rw [show l[i].x + ((m + 1 : Nat) : Int) = l[i].x + (m : Int) + 1 by omega]; exact Tq
theorem zk1 (g : Gnd) (l : List Bld) (c : Int) (i : Nat) : midB g l c (i + 1) i = qh g l c i /\ ∀ s, s ≠ i -> midB g l c (i + 1) s = midB g l c i s := by
 unfold midB
 refine ⟨if_pos (by omega), fun s hs => ?_⟩
 by_cases h1 : s < i
 ·rw [if_pos (by omega), if_pos h1]
 ·rw [if_neg (by omega), if_neg h1]
theorem zie (g : Gnd) (hg : gndP g) (l : List Bld) (hl : l.length <= 1000000000000) (hb : ∀ b ∈ l, bldP b /\ onP g b) (c : Int) (hc : c = 0 \/ c = 1 \/ c = 2) (st : Store) (R : AV -> Store -> Prop) (h : R (opV g l c) st) :
  ACalls Tryz.prog 59 [.agg (gndC g), lst 6 bldC l, int c] st R := by
 have ha := z7 hg
 refine ACalls.of_awp (c := cfg 37) zd Tryz.func59 (by rfl) (by rfl) (by rfl) (by rfl) ?_
 refine AWp.seq (AWp.of_vc zd ?_)
 refine AWp.seq (AWp.of_vc zd ?_)
 refine zdm g hg l hl hb _ _ (fun b hf => ?_)
 refine AWp.meetA (σ := Unit) ⟨fun _ => [(7, .av (blV b g.T.length))], fun _ => [], fun _ st' => st' = st.setObj b (.cells (bl g.T.length (qh g l c)))⟩ ?_ ?_
 ·refine AWp.of_vc zd ?_
  refine AWp.loop (σ := Nat) ⟨fun i => [(2, .av (int c)), (3, .bx 3 0), (7, .av (blV b g.T.length)), (8, .av (int (i : Nat)))], fun _ => [(3, gndC g)],
   fun i st' => i <= g.T.length /\ st' = st.setObj b (.cells (bl g.T.length (midB g l c i))), fun i => g.T.length - i⟩ zd ?_ ?_
  ·refine ⟨0, Tv, ⟨Nat.zero_le _, ?_⟩, ⟨Tq, Tq, Tq, Tq, Tv⟩, ⟨rfl, Tv⟩⟩
   rw [show midB g l c 0 = covB g l from funext fun t => if_neg (Nat.not_lt_zero t)]
  rintro i st' ⟨hi, rfl⟩
  refine bcd (fun h1 => ?_) (fun h1 => ?_)
  rotate_left
  ·have : i = g.T.length := by omega
   subst this
   refine ⟨(), ?_, ⟨Tq, Tv⟩, Tv⟩
   have : bl g.T.length (midB g l c g.T.length) = bl g.T.length (qh g l c) := by
    unfold bl midB
    exact List.map_congr_left fun t ht => by rw [if_pos (List.mem_range.1 ht)]
   rw [this]
  have hlt : i < g.T.length := by omega
  obtain ⟨s1, s2⟩ := zk1 g l c i
  have ho : (st.setObj b (.cells (bl g.T.length (midB g l c i)))).obj b = some (.cells (bl g.T.length (midB g l c i))) := zb _ _ _
  have hmid : midB g l c i i = covB g l i := if_neg (Nat.lt_irrefl i)
  have hhead : ((bl g.T.length (midB g l c i)).drop (0 + i * 1)).head? = some (V.bool (covB g l i)) := by
   rw [List.head?_drop, show 0 + i * 1 = i by omega, wh hlt, hmid]
  refine ⟨i, rfl, hlt, ?_⟩
  refine za _ ho (za _ hhead ?_)
  have hti : g.T[i].toNat <= 5 := hg.2.2.2 _ (List.getElem_mem hlt)
  have hget : g.T.getD i 0 = g.T[i] := by simp [hlt]
  refine ze (fun c1 => ?_) (fun c1 => ?_)
  ·have c1 : covB g l i = false := by simpa using c1
   refine ⟨i, rfl, za _ (zg hlt) ?_⟩
   refine zl3 c hc g.T[i] hti _ _ ?_
   have hz : decide (0 < zdn c g.T[i].toNat) = qh g l c i := by
    unfold qh
    rw [c1, hget]; rfl
   refine ⟨i, rfl, hlt, ?_⟩
   refine zp (i := ti4) (v := V.bool (decide (0 < zdn c g.T[i].toNat))) (b := b) (o := 0 + i * 1) (l := _) (st2 := st.setObj b (.cells (bl g.T.length (midB g l c (i + 1))))) rfl rfl rfl ho (by rw [xx]; omega) (by rw [zk, show 0 + i * 1 = i by omega, hz, <- s1, zb5 hlt _ s2]) ?_
   refine in64 (by omega) ?_
   refine ⟨i + 1, ?_, ⟨by omega, rfl⟩, ⟨Tq, Tq, Tq, Tq, Tv⟩, ⟨rfl, Tv⟩⟩
   show g.T.length - (i + 1) < g.T.length - i
   omega
  ·have c1 : covB g l i = true := by simpa using c1
   have hz : false = qh g l c i := by
    unfold qh
    rw [c1]; rfl
   refine ⟨i, rfl, hlt, ?_⟩
   refine zp (i := ti4) (v := V.bool false) (b := b) (o := 0 + i * 1) (l := _) (st2 := st.setObj b (.cells (bl g.T.length (midB g l c (i + 1))))) rfl rfl rfl ho (by rw [xx]; omega) (by rw [zk, show 0 + i * 1 = i by omega, hz, <- s1, zb5 hlt _ s2]) ?_
   refine in64 (by omega) ?_
   refine ⟨i + 1, ?_, ⟨by omega, rfl⟩, ⟨Tq, Tq, Tq, Tq, Tv⟩, ⟨rfl, Tv⟩⟩
   show g.T.length - (i + 1) < g.T.length - i
   omega
 ·rintro _ _ rfl
  refine AWp.freeze (d := 7) (b := b) (k := 1) (n := g.T.length) (cap := g.T.length) (rows := rws zaz (blL g.T.length (qh g l c))) (pad := []) rfl ?_ ?_ ?_ (Nat.le_refl _) ?_ ?_ ?_
  ·rw [zbn]; exact zb _ _ _
  ·exact hf.2
  ·rw [zi, w9]
  ·intro row hr
   obtain ⟨x, _, rfl⟩ := List.mem_map.1 hr
   rfl
  ·intro row hr y hy
   obtain ⟨x, _, rfl⟩ := List.mem_map.1 hr
   simp [zaz] at hy
   exact ⟨_, hy, rfl⟩
  rw [zb2 hf.1]
  refine AWp.of_vc zd ?_
  exact ret h
theorem zij (g : Gnd) (hg : gndP g) (l : List Bld) (hl : l.length <= 1000000000000) (hb : ∀ b ∈ l, bldP b /\ onP g b) (c : Int) (hc : c = 0 \/ c = 1 \/ c = 2) (p : Vc) (hp : yx p.1 p.2) (r : Int) (hr : 0 < r /\ r <= 262144) (st : Store) (R : AV -> Store -> Prop)
  (h : ∀ z : Bool, (z = true ↔ zci g l c p r) -> R (V.bool z) st) : ACalls Tryz.prog 41 [.agg (gndC g), lst 6 bldC l, int c, .agg (vecC p), int r] st R := by
 have ha := z7 hg
 have hg1 := hg.1
 have hg2 := hg.2.1
 have hp' := hp
 unfold yx at hp'
 have no : ¬ zci g l c p r -> R (V.bool false) st := fun hn => h false (by simp only [Bool.false_eq_true, false_iff]; exact hn)
 refine ACalls.of_body (c := cfg 65) zd Tryz.func41 (by rfl) (by rfl) (by rfl) (by rfl) ?_
 refine bcd (fun c1 => ret (no fun q => by have := q.1; omega)) (fun c1 => ?_)
 refine bcd (fun c2 => ret (no fun q => by have := q.1; omega)) (fun c2 => ?_)
 refine in64 (by omega) ?_
 refine in64 (by omega) ?_
 refine bcd (fun c3 => ret (no fun q => by have := q.1; omega)) (fun c3 => ?_)
 refine in64 (by omega) ?_
 refine in64 (by omega) ?_
 refine bcd (fun c4 => ret (no fun q => by have := q.1; omega)) (fun c4 => ?_)
 refine zie g hg l hl hb c hc _ _ ?_
 refine AWp.loop (σ := Nat) ⟨fun i => [(4, .av (int r)), (5, .bx 5 0), (8, .bx 8 0), (11, .av (opV g l c)), (12, .av (int (i : Nat)))], fun _ => [(5, gndC g), (8, vecC p)],
  fun i st' => i <= g.T.length /\ st' = st /\ ∀ t, t < i -> qh g l c t = false -> ¬ hitP g t p r, fun i => g.T.length - i⟩ zd ?_ ?_
 ·exact ⟨0, Tv, ⟨Nat.zero_le _, rfl, fun t ht => by omega⟩, ⟨Tq, Tq, Tq, Tq, Tq, Tv⟩, ⟨rfl, rfl, Tv⟩⟩
 rintro i st' ⟨hi, rfl, hall⟩
 refine ze (fun h1 => ?_) (fun h1 => ?_)
 rotate_left
 ·have h1 := xq h1 (by rw [w9]; exact hi)
  rw [w9] at h1
  subst h1
  exact ret (h true (by simp only [true_iff]; exact ⟨by omega, hall⟩))
 have hlt := ql h1
 rw [w9] at hlt
 refine ⟨i, rfl, za _ (zmc hlt) ?_⟩
 have next : (qh g l c i = false -> ¬ hitP g i p r) -> ∀ t, t < i + 1 -> qh g l c t = false -> ¬ hitP g t p r := fun hq t ht hh => by
  by_cases e : t = i
  ·subst e; exact hq hh
  ·exact hall t (by omega) hh
 refine y5 ?_
 refine ze (fun c5 => ?_) (fun c5 => ?_)
 ·refine in64 (by omega) ?_
  refine ⟨i + 1, ?_, ⟨by omega, rfl, next fun hh => by rw [c5] at hh; cases hh⟩, ⟨Tq, Tq, Tq, Tq, Tq, Tv⟩, ⟨rfl, rfl, Tv⟩⟩
  show g.T.length - (i + 1) < g.T.length - i
  omega
 refine zit g hg i (by omega) p hp r hr _ _ ?_
 refine bcd (fun c6 => ?_) (fun c6 => ?_)
 ·exact ret (no fun q => q.2 i hlt c5 c6)
 ·refine in64 (by omega) ?_
  refine ⟨i + 1, ?_, ⟨by omega, rfl, next fun _ => c6⟩, ⟨Tq, Tq, Tq, Tq, Tq, Tv⟩, ⟨rfl, rfl, Tv⟩⟩
  show g.T.length - (i + 1) < g.T.length - i
  omega
theorem zix (g : Gnd) (hg : gndP g) (t : Nat) (ht : (t : Int) < g.W * g.H) (x : Int) (hx : x = (t : Int)) (p : Vc) (hp : yx p.1 p.2) (r : Int) (hr : 0 < r /\ r <= 262144) (st : Store) (R : AV -> Store -> Prop) (h : R (V.bool (decide (hitP g t p r))) st) :
  ACalls Tryz.prog 97 [.agg (gndC g), int x, .agg (vecC p), int r] st R := by
 subst hx
 exact zlg g hg t ht p hp r hr st R h
set_option maxHeartbeats 1000000 in
theorem zlq (g : Gnd) (hg : gndP g) (l : List Bld) (c : Int) (p : Vc) (hpo : p.ok) (r : Int) (hr : 0 < r /\ r <= 262144) (st : Store) (R : AV -> Store -> Prop)
  (h : ∀ z : Bool, (z = true ↔ zci g l c p r) -> R (V.bool z) st) : ACalls Tryz.prog 71 [.agg (gndC g), opV g l c, .agg (vecC p), int r] st R := by
 have ha := z7 hg
 have hg1 := hg.1
 have hg2 := hg.2.1
 have no : ¬ zci g l c p r -> R (V.bool false) st := fun hn => h false (by simp only [Bool.false_eq_true, false_iff]; exact hn)
 refine ACalls.of_body (c := cfg 112) zd Tryz.func71 (by rfl) (by rfl) (by rfl) (by rfl) ?_
 refine ADraw.of_sched zd (by rfl) (by rfl) zub (by rfl) ?_
 refine in64 (by omega) ?_
 refine in64 (by omega) ?_
 refine ⟨⟨(by repeat (first | exact Tv | refine ⟨rfl, ?_⟩ | refine ⟨optR (optR (optR (za _ (zb _ _ _) rfl))), ?_⟩)), ?_⟩, Tv⟩
 refine ⟨⟨Tv, ?_⟩, Tv⟩
 refine zjd p r _ _ (fun z hz => ?_)
 refine y5 ?_
 refine ze (fun c0 => ?_) (fun c0 => ret (no fun q => by
  have := hz.2 ⟨⟨by omega, hr.2⟩, by unfold yx; have := q.1; omega⟩
  rw [this] at c0; cases c0))
 have hp := (hz.1 c0).2
 have hp' := hp
 unfold yx at hp'
 refine in64 (by omega) ?_
 refine bcd (fun c1 => ret (no fun q => by have := q.1; omega)) (fun c1 => ?_)
 refine in64 (by omega) ?_
 refine bcd (fun c2 => ret (no fun q => by have := q.1; omega)) (fun c2 => ?_)
 refine in64 (by omega) ?_
 refine bcd (fun c3 => ret (no fun q => by have := q.1; omega)) (fun c3 => ?_)
 refine in64 (by omega) ?_
 refine bcd (fun c4 => ret (no fun q => by have := q.1; omega)) (fun c4 => ?_)
 refine in64 (by omega) ?_
 refine ⟨by decide, ?_⟩
 have hy0 : (p.2 - r).tdiv 65536 = (p.2 - r) / 65536 := Int.tdiv_eq_ediv_of_nonneg (by omega)
 have hx0 : (p.1 - r).tdiv 65536 = (p.1 - r) / 65536 := Int.tdiv_eq_ediv_of_nonneg (by omega)
 have hy1 : (p.2 + r).tdiv 65536 = (p.2 + r) / 65536 := Int.tdiv_eq_ediv_of_nonneg (by omega)
 have hx1 : (p.1 + r).tdiv 65536 = (p.1 + r) / 65536 := Int.tdiv_eq_ediv_of_nonneg (by omega)
 refine in64 (by omega) ?_
 rw [hy0]
 refine AWp.loop (σ := Nat) ⟨fun k => [(1, .av (opV g l c)), (3, .av (int r)), (4, .bx 4 0), (6, .bx 6 0), (11, .av (int ((p.2 - r) / 65536 + (k : Nat))))], fun _ => [(4, gndC g), (6, vecC p)],
  fun k st' => st' = st /\ ((k : Int) <= g.H - (p.2 - r) / 65536 \/ k = 0) /\ wz g l c p r ((p.2 - r) / 65536 + (k : Nat)), fun k => (g.H - (p.2 - r) / 65536).toNat - k⟩ zd ?_ ?_
 ·refine ⟨0, Tv, ⟨rfl, .inr rfl, ?_⟩, ⟨Tq, Tq, Tq, Tq, ?_, Tv⟩, ⟨rfl, rfl, Tv⟩⟩
  ·rw [show (p.2 - r) / 65536 + ((0 : Nat) : Int) = (p.2 - r) / 65536 by omega]
   exact zg2 hr.1 (by omega)
  ·rw [show (p.2 - r) / 65536 + ((0 : Nat) : Int) = (p.2 - r) / 65536 by omega]; exact Tq
 rintro k st' ⟨rfl, hk, hup⟩
 refine in64 (by omega) ?_
 refine ⟨by decide, ?_⟩
 refine in64 (by omega) ?_
 rw [hy1]
 have done : (¬ ((p.2 - r) / 65536 + (k : Int) <= (p.2 + r) / 65536) \/ ¬ ((p.2 - r) / 65536 + (k : Int) < g.H)) -> R (V.bool true) st' := fun hh =>
  h true (by simp only [true_iff]; exact ⟨by omega, zg3 hg hr.1 (by omega) hh hup⟩)
 refine bcd (fun c5 => ?_) (fun c5 => ret (done (.inl c5)))
 refine bcd (fun c6 => ?_) (fun c6 => ret (done (.inr c6)))
 refine in64 (by omega) ?_
 refine ⟨by decide, ?_⟩
 refine in64 (by omega) ?_
 rw [hx0]
 have hyb : 0 <= (p.2 - r) / 65536 := by omega
 have hxb : 0 <= (p.1 - r) / 65536 := by omega
 refine AWp.loop (σ := Nat) ⟨fun m => [(1, .av (opV g l c)), (3, .av (int r)), (4, .bx 4 0), (6, .bx 6 0), (11, .av (int ((p.2 - r) / 65536 + (k : Nat)))), (12, .av (int ((p.1 - r) / 65536 + (m : Nat))))], fun _ => [(4, gndC g), (6, vecC p)],
  fun m st2 => st2 = st' /\ ((m : Int) <= g.W - (p.1 - r) / 65536 \/ m = 0) /\ wd g l c p r ((p.2 - r) / 65536 + (k : Nat)) ((p.1 - r) / 65536 + (m : Nat)), fun m => (g.W - (p.1 - r) / 65536).toNat - m⟩ zd ?_ ?_
 ·refine ⟨0, Tv, ⟨rfl, .inr rfl, ?_⟩, ⟨Tq, Tq, Tq, Tq, Tq, ?_, Tv⟩, ⟨rfl, rfl, Tv⟩⟩
  ·rw [show (p.1 - r) / 65536 + ((0 : Nat) : Int) = (p.1 - r) / 65536 by omega]
   exact zfo hr.1 (by omega)
  ·rw [show (p.1 - r) / 65536 + ((0 : Nat) : Int) = (p.1 - r) / 65536 by omega]; exact Tq
 rintro m st2 ⟨rfl, hm, hrow⟩
 refine in64 (by omega) ?_
 refine ⟨by decide, ?_⟩
 refine in64 (by omega) ?_
 rw [hx1]
 have done2 : (¬ ((p.1 - r) / 65536 + (m : Int) <= (p.1 + r) / 65536) \/ ¬ ((p.1 - r) / 65536 + (m : Int) < g.W)) -> wz g l c p r ((p.2 - r) / 65536 + ((k + 1 : Nat) : Int)) := fun hh => by
  rw [zb3]
  exact zfp hg hr.1 (by omega) hh hup hrow
 have mu : (g.H - (p.2 - r) / 65536).toNat - (k + 1) < (g.H - (p.2 - r) / 65536).toNat - k := zq7 (Int.lt_sub_left_of_add_lt c6)
 have step2 : LV.le (vint .i64 ((p.2 - r) / 65536 + (k : Int) + 1)) (.av (int ((p.2 - r) / 65536 + ((k + 1 : Nat) : Int)))) := by
  rw [zb3]; exact Tq
 refine bcd (fun c7 => ?_) (fun c7 => in64 (by omega) ⟨k + 1, mu, ⟨rfl, .inl (za3 c6), done2 (.inl c7)⟩, ⟨Tq, Tq, Tq, Tq, step2, Tv⟩, ⟨rfl, rfl, Tv⟩⟩)
 refine bcd (fun c8 => ?_) (fun c8 => in64 (by omega) ⟨k + 1, mu, ⟨rfl, .inl (za3 c6), done2 (.inr c8)⟩, ⟨Tq, Tq, Tq, Tq, step2, Tv⟩, ⟨rfl, rfl, Tv⟩⟩)
 obtain ⟨q1, q2, q3, q4⟩ := qn hg (x := (p.1 - r) / 65536 + (m : Int)) (y := (p.2 - r) / 65536 + (k : Int)) (by omega) (by omega)
 have q5 : 0 <= g.W * ((p.2 - r) / 65536 + (k : Int)) := Int.mul_nonneg (by omega) (by omega)
 have hstep := zd5 (l := l) (c := c) (p := p) (r := r) hg (x := (p.1 - r) / 65536 + (m : Int)) (y := (p.2 - r) / 65536 + (k : Int)) (by omega) (by omega) hrow
 refine in64 (by omega) ?_
 refine in64 (by omega) ?_
 obtain ⟨n, hn⟩ : ∃ n : Nat, (n : Int) = (p.1 - r) / 65536 + (m : Int) + g.W * ((p.2 - r) / 65536 + (k : Int)) := ⟨_, Int.toNat_of_nonneg q1⟩
 rw [<- hn, Int.toNat_natCast] at hstep
 have hnl : n < g.T.length := by omega
 have mu2 : (g.W - (p.1 - r) / 65536).toNat - (m + 1) < (g.W - (p.1 - r) / 65536).toNat - m := zq7 (Int.lt_sub_left_of_add_lt c8)
 have e2 : (p.1 - r) / 65536 + ((m + 1 : Nat) : Int) = (p.1 - r) / 65536 + (m : Int) + 1 := zb3 _ _
 have step3 : LV.le (vint .i64 ((p.1 - r) / 65536 + (m : Int) + 1)) (.av (int ((p.1 - r) / 65536 + ((m + 1 : Nat) : Int)))) := by
  rw [e2]; exact Tq
 refine ⟨n, hn.symm, za _ (zmc hnl) ?_⟩
 refine y5 ?_
 refine ze (fun c9 => ?_) (fun c9 => ?_)
 ·refine in64 (by omega) ?_
  exact ⟨m + 1, mu2, ⟨rfl, .inl (za3 c8), by rw [e2]; exact hstep fun hh => by rw [c9] at hh; cases hh⟩, ⟨Tq, Tq, Tq, Tq, Tq, step3, Tv⟩, ⟨rfl, rfl, Tv⟩⟩
 refine zix g hg n (by omega) _ hn.symm p hp r hr _ _ ?_
 refine bcd (fun c10 => ?_) (fun c10 => ?_)
 ·exact ret (no fun q => q.2 n hnl c9 c10)
 ·refine in64 (by omega) ?_
  exact ⟨m + 1, mu2, ⟨rfl, .inl (za3 c8), by rw [e2]; exact hstep fun _ => c10⟩, ⟨Tq, Tq, Tq, Tq, Tq, step3, Tv⟩, ⟨rfl, rfl, Tv⟩⟩
theorem zc3 (x : Int) (st : Store) (R : AV -> Store -> Prop) (h : R (V.bool false) st) : ACalls Tryz.prog 126 [int x] st R := by
 refine ACalls.of_body (c := cfg 6) zd Tryz.func126 (by rfl) (by rfl) (by rfl) (by rfl) ?_
 refine ⟨_, st, Tt, Store.Has.refl st, ?_⟩
 have e : (x != x) = false := by simp
 rw [<- e] at h
 exact h
theorem zfn (x y : Int) (st : Store) (R : AV -> Store -> Prop) (h : R (int (cmpZ x y)) st) : ACalls Tryz.prog 104 [int x, int y] st R := by
 refine ACalls.of_body (c := cfg 20) zd Tryz.func104 (by rfl) (by rfl) (by rfl) (by rfl) ?_
 refine zc3 _ _ _ ?_
 refine zc3 _ _ _ ?_
 unfold cmpZ at h
 refine ze (fun h1 => ⟨_, st, Tt, Store.Has.refl st, ?_⟩) (fun h1 => ?_)
 ·rw [if_pos (by simpa using h1)] at h
  exact h
 ·rw [if_neg (by simpa using h1)] at h
  refine ze (fun h2 => ⟨_, st, Tt, Store.Has.refl st, ?_⟩) (fun h2 => ⟨_, st, Tt, Store.Has.refl st, ?_⟩)
  ·rw [if_pos (by simpa using h2)] at h
   exact h
  ·rw [if_neg (by simpa using h2)] at h
   exact h
theorem zfw (u : Unt) (id : Int) (st : Store) (R : AV -> Store -> Prop) (h : R (int (cmpZ u.id id)) st) : ACalls Tryz.prog 103 [.agg (untC u), int id] st R := by
 refine ACalls.of_body (c := cfg 9) zd Tryz.func103 (by rfl) (by rfl) (by rfl) (by rfl) ?_
 exact zfn u.id id _ _ (ret h)
/-- Where an ID stands, or would stand. -/
def isAt (l : List Unt) (id : Int) (i : Nat) : Prop := i <= l.length /\ (∀ j, (h : j < l.length) -> j < i -> l[j].id < id) /\ ∀ j, (h : j < l.length) -> i <= j -> id <= l[j].id
theorem zqu (l : List Unt) (hl : l.length <= 1000000000000) (hr : xn l) (id : Int) (st : Store) (R : AV -> Store -> Prop)
  (h : ∀ i, isAt l id i -> ∀ z : Bool, (z = true ↔ ∃ hi : i < l.length, l[i].id = id) -> R (.tup [int (i : Nat), V.bool z]) st) : ACalls Tryz.prog 102 [lst 10 untC l, int id, .clos 103 []] st R := by
 refine ACalls.of_body (c := cfg 49) zd Tryz.func102 (by rfl) (by rfl) (by rfl) (by rfl) ?_
 refine AWp.loop (σ := Nat × Nat) ⟨fun s => [(0, .av (lst 10 untC l)), (1, .av (int id)), (2, .av (.clos 103 [])), (8, .av (int (l.length : Nat))), (9, .av (int (s.1 : Nat))), (10, .av (int (s.2 : Nat)))], fun _ => [],
  fun s st' => st' = st /\ s.1 <= s.2 /\ s.2 <= l.length /\ (∀ j, (h : j < l.length) -> j < s.1 -> l[j].id < id) /\ ∀ j, (h : j < l.length) -> s.2 <= j -> id <= l[j].id, fun s => s.2 - s.1⟩ zd ?_ ?_
 ·refine ⟨(0, l.length), Tv, ⟨rfl, Nat.zero_le _, Nat.le_refl _, fun j _ hj => by omega, fun j hj hj2 => by omega⟩, ⟨Tq, Tq, Tq, ?_, Tq, ?_, Tv⟩, Tv⟩
  ·rw [<- zi (f := untC) l]; exact Tq
  ·rw [<- zi (f := untC) l]; exact Tq
 rintro ⟨i, j⟩ st' ⟨rfl, hij, hj, hlo, hhi⟩
 dsimp only at hij hj hlo hhi ⊢
 refine bcd (fun h1 => ?_) (fun h1 => ?_)
 rotate_left
 ·have e : i = j := by omega
  subst e
  have hat : isAt l id i := ⟨hj, hlo, hhi⟩
  refine bcd (fun h2 => ?_) (fun h2 => ?_)
  ·have hlt : i < l.length := by omega
   refine ⟨i, rfl, za _ (zg hlt) ?_⟩
   refine zfw l[i] id _ _ ?_
   refine ret (h i hat _ ?_)
   have := hhi i hlt (Nat.le_refl _)
   unfold cmpZ
   rw [if_neg (by omega)]
   by_cases e : l[i].id = id
   ·rw [if_neg (by omega)]; simp [hlt, e]
   ·rw [if_pos (by omega)]; simp [e]
  ·exact ret (h i hat _ (by simp; omega))
 refine in64 (by omega) ?_
 refine ⟨by decide, ?_⟩
 have hmid : (IntKind.u64.wrap ((i : Int) + (j : Int))).fdiv (2 ^ (min (1 : Int).toNat IntKind.u64.bits)) = (((i + j) / 2 : Nat) : Int) := by
  have e1 : IntKind.u64.wrap ((i : Int) + (j : Int)) = ((i + j : Nat) : Int) := by
   simp [IntKind.wrap, IntKind.bits, IntKind.signed]; omega
  have e2 : (2 : Int) ^ (min (1 : Int).toNat IntKind.u64.bits) = 2 := rfl
  have e3 : (((i + j : Nat) : Int)).fdiv 2 = (((i + j) / 2 : Nat) : Int) := by
   rw [Int.fdiv_eq_ediv_of_nonneg _ (by decide)]; rfl
  rw [e1, e2, e3]
 have hk1 : (i + j) / 2 < j := by omega
 have hk2 : i <= (i + j) / 2 := by omega
 have hkl : (i + j) / 2 < l.length := by omega
 have hmono : ∀ a b, (ha : a < l.length) -> (hb : b < l.length) -> a <= b -> l[a].id <= l[b].id := by
  intro a b ha hb hab
  induction b with
  | zero =>
   have : a = 0 := by omega
   subst this; exact Int.le_refl _
  | succ b ih =>
   by_cases e : a = b + 1
   ·subst e; exact Int.le_refl _
   ·have h2 := ih (by omega) (by omega)
    have h3 := hr (b + 1) hb (by omega)
    simp only [Nat.add_sub_cancel] at h3
    omega
 refine ⟨by rw [hmid]; exact ⟨by omega, by omega⟩, ?_⟩
 refine ⟨(i + j) / 2, hmid, za _ (zg hkl) ?_⟩
 refine zfw l[(i + j) / 2] id _ _ ?_
 have hc : cmpZ l[(i + j) / 2].id id < 0 ↔ l[(i + j) / 2].id < id := by
  unfold cmpZ; split
  ·omega
  ·split <;> omega
 refine bcd (fun h2 => ?_) (fun h2 => ?_)
 ·have h2 := hc.1 h2
  refine in64 (by rw [hmid]; omega) ?_
  refine ⟨((i + j) / 2 + 1, j), ?_, ⟨rfl, by dsimp only; omega, hj, fun a ha ha2 => ?_, hhi⟩, ⟨Tq, Tq, Tq, Tq, ?_, Tq, Tv⟩, Tv⟩
  ·show j - ((i + j) / 2 + 1) < j - i
   omega
  ·have := hmono a ((i + j) / 2) ha hkl (by dsimp only at ha2; omega)
   omega
  ·dsimp only
   exact (congrArg (fun n : Int => LV.le (vint .i64 (n + 1)) (.av (int (((i + j) / 2 + 1 : Nat) : Int)))) hmid).mpr (Tq)
 ·have h2 : ¬ l[(i + j) / 2].id < id := fun hh => h2 (hc.2 hh)
  refine ⟨(i, (i + j) / 2), ?_, ⟨rfl, hk2, by dsimp only; omega, hlo, fun a ha ha2 => ?_⟩, ⟨Tq, Tq, Tq, Tq, Tq, ?_, Tv⟩, Tv⟩
  ·show (i + j) / 2 - i < j - i
   omega
  ·have := hmono ((i + j) / 2) a hkl ha (by dsimp only at ha2; omega)
   omega
  ·dsimp only
   exact (congrArg (fun n : Int => LV.le (vint .i64 n) (.av (int (((i + j) / 2 : Nat) : Int)))) hmid).mpr (Tq)
theorem zme (l : List Unt) (hl : l.length <= 1000000000000) (hr : xn l) (id : Int) (st : Store) (R : AV -> Store -> Prop)
  (h : ∀ i, isAt l id i -> ∀ z : Bool, (z = true ↔ ∃ hi : i < l.length, l[i].id = id) -> R (.tup [int (i : Nat), V.bool z]) st) : ACalls Tryz.prog 75 [lst 10 untC l, int id] st R := by
 refine ACalls.of_body (c := cfg 11) zd Tryz.func75 (by rfl) (by rfl) (by rfl) (by rfl) ?_
 exact zqu l hl hr id _ _ fun i hi z hz => ret (h i hi z hz)
theorem zwm {F S : Store} {p : Nat} {l : List Ent} (hc : CellsOf F p l) (hd : Disj F S) (hl : l.length <= 1000000000) (hok : ∀ e ∈ l, e.2.ok) (id : Int) (pos : Vc) (hpos : pos.ok) (R : AV -> Store -> Prop)
  (h : ∀ F', CellsOf F' p (ye l id ++ [(id, pos)]) -> Disj F' S -> R (.tup []) (F'.un S)) : ACalls Tryz.prog 69 [ptr p, int id, .agg (vecC pos)] (F.un S) R :=
 ACalls.frame (R := fun r a' => r = .tup [] /\ CellsOf a' p (ye l id ++ [(id, pos)])) hd (zd7 hc hl hok id pos hpos _ fun a' ha' => ⟨rfl, ha'⟩) fun r a' ⟨h1, h2⟩ hd' => h1 ▸ h a' h2 hd'
theorem zwa {F S : Store} {p : Nat} {l : List Ent} (hc : CellsOf F p l) (hd : Disj F S) (hl : l.length <= 1000000000) (hok : ∀ e ∈ l, e.2.ok) {q : Vc} (hq : q.ok) {r : Int} (hr : yb r) (R : AV -> Store -> Prop)
  (h : ∀ F' N v ns, CellsOf F' p l -> Disj F' N -> Disj F' S -> Disj N S -> Ints N v ns -> zf0 l q r ns -> R v ((F'.un N).un S)) : ACalls Tryz.prog 99 [ptr p, .agg (vecC q), int r] (F.un S) R :=
 ACalls.frame (R := fun v a' => ∃ F' N ns, a' = F'.un N /\ CellsOf F' p l /\ Disj F' N /\ Ints N v ns /\ zf0 l q r ns) hd (zcm hc hl hok hq hr _ fun F' N v ns h1 h2 h3 h4 => ⟨F', N, ns, rfl, h1, h2, h3, h4⟩)
  fun v a' ⟨F', N, ns, h1, h2, h3, h4, h5⟩ hd' => by subst h1; exact h F' N v ns h2 h3 (disj_un.1 hd').1 (disj_un.1 hd').2 h4 h5
end Go.Proofs
