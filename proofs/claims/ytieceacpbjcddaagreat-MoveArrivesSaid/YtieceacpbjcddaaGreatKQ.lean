/- Ground of laws of thronglaw24: contracts and plain lemmas; no condition beyond the row's own. -/
import Derived.Test.YtieceacpbjcddaaGreatKP
set_option linter.unusedSimpArgs false
set_option linter.unusedVariables false
set_option linter.defProp false
namespace Go.Proofs
open Go Go.V
set_option maxRecDepth 4000
theorem zos (g : Gnd) (hgf : g.fits) (l : List Bld) (hl : l.length <= 1000000000000) (st : Store) (R : AV -> Store -> Prop)
  (h : ∀ z : Bool, (z = true ↔ zi g /\ Dc g l) -> R (bool z) st) : ACalls Tryz.prog 64 [.agg (zr g), lst 6 zz l] st R := by
 have hL : ((rws zz l).length : Int) = (l.length : Int) := by rw [zl]
 have no : ¬ (zi g /\ Dc g l) -> R (bool false) st := fun hn => h false (by simp only [Bool.false_eq_true, false_iff]; exact hn)
 refine ACalls.of_body (c := cfg 64) zb Tryz.func64 (by rfl) (by rfl) (by rfl) (by rfl) ?_
 refine zst g hgf _ _ (fun z hz => ?_)
 refine yf ?_
 refine zh (fun c0 => ?_) (fun c0 => ret (no fun q => by have := hz.2 q.1; rw [this] at c0; cases c0))
 have hg := hz.1 c0
 refine bcd (fun c1 => ret (no fun q => by have := q.2.1; omega)) (fun c1 => ?_)
 refine zoa l hl _ _ (fun z hz => ?_)
 refine yf ?_
 refine zh (fun c2 => ?_) (fun c2 => ret (no fun q => by have := hz.2 q.2.2.1; rw [this] at c2; cases c2))
 have hr := hz.1 c2
 refine AWp.loop (σ := Nat) ⟨fun i => [(1, .av (lst 6 zz l)), (2, .bx 2 0), (5, .av (int (i : Nat)))], fun _ => [(2, zr g)],
  fun i st' => i <= l.length /\ st' = st /\ L6 g l i, fun i => l.length - i⟩ zb ?_ ?_
 ·exact ⟨0, Tv, ⟨Nat.zero_le _, rfl, fun j _ hj => by omega⟩, ⟨Tq, Tq, Tq, Tv⟩, ⟨rfl, Tv⟩⟩
 rintro i st' ⟨hi, rfl, hup⟩
 refine bcd (fun h1 => ?_) (fun h1 => ?_)
 rotate_left
 ·have : i = l.length := by omega
  subst this
  have hall := gu hup
  exact ret (h true (by simp only [true_iff]; exact ⟨hg, by omega, hr, hall.1, hall.2⟩))
 have hlt : i < l.length := by omega
 refine ADraw.of_sched zb (by rfl) (by rfl) zle (by rfl) ?_
 refine ⟨i, rfl, za _ (zn hlt) ?_⟩
 have nof : ¬ (yc l[i] /\ onP g l[i] /\ Bc g l[i]) -> R (bool false) st' := fun hn => no fun q => hn (q.2.2.2.1 _ (List.getElem_mem hlt))
 refine ⟨zks l[i] _ _ (fun z1 hz1 => ⟨Tv, ?_⟩), Tv⟩
 refine yf ?_
 refine zh (fun c3 => ?_) (fun c3 => ⟨⟨Tv, ⟨⟨Tv, ret (nof fun q => by have := hz1.2 q.1; rw [this] at c3; cases c3)⟩, Tv⟩⟩, Tv⟩)
 have hb1 := hz1.1 c3
 refine ⟨i, rfl, za _ (zn hlt) ?_⟩
 refine ⟨zn2 g l[i] hg hb1 _ _ (fun z2 hz2 => ⟨Tv, ?_⟩), Tv⟩
 refine yf ?_
 refine zh (fun c4 => ?_) (fun c4 => ⟨⟨Tv, ret (nof fun q => by have := hz2.2 q.2.1; rw [this] at c4; cases c4)⟩, Tv⟩)
 have hb2 := hz2.1 c4
 refine ⟨i, rfl, za _ (zn hlt) ?_⟩
 refine ⟨zog g hg l[i] ⟨hb1, hb2⟩ _ _ (fun z3 hz3 => ⟨Tv, ?_⟩), Tv⟩
 refine yf ?_
 refine zh (fun c5 => ?_) (fun c5 => ret (nof fun q => by have := hz3.2 q.2.2; rw [this] at c5; cases c5))
 have hb3 := hz3.1 c5
 refine AWp.loop (σ := Nat) ⟨fun k => [(1, .av (lst 6 zz l)), (2, .bx 2 0), (5, .av (int (i : Nat))), (6, .av (int (k : Nat)))], fun _ => [(2, zr g)],
  fun k st2 => k <= i /\ st2 = st' /\ ∀ m, (hm : m < k) -> (hmi : m < i) -> ¬ v6 l[i] (l[m]'(by omega)), fun k => i - k⟩ zb ?_ ?_
 ·exact ⟨0, Tv, ⟨Nat.zero_le _, rfl, fun m hm => by omega⟩, ⟨Tq, Tq, Tq, Tq, Tv⟩, ⟨rfl, Tv⟩⟩
 rintro k st2 ⟨hk, rfl, hno⟩
 refine bcd (fun h2 => ?_) (fun h2 => ?_)
 rotate_left
 ·refine zc (by omega) ?_
  refine ⟨i + 1, ?_, ⟨by omega, rfl, fun j hj hji => ?_⟩, ⟨Tq, Tq, Tq, Tv⟩, ⟨rfl, Tv⟩⟩
  ·show l.length - (i + 1) < l.length - i
   omega
  ·by_cases e : j = i
   ·subst e
    exact ⟨⟨hb1, hb2, hb3⟩, fun m hm => hno m (by omega) hm⟩
   ·exact hup j hj (by omega)
 have hki : k < i := by omega
 have hkl : k < l.length := by omega
 have hbk := (hup k hkl hki).1
 refine ADraw.of_sched zb (by rfl) (by rfl) zlf (by rfl) ?_
 refine ⟨i, rfl, za _ (zn hlt) ?_⟩
 refine ⟨k, rfl, za _ (zn hkl) ?_⟩
 refine ⟨zra g hg l[i] l[k] ⟨hb1, hb2⟩ ⟨hbk.1, hbk.2.1⟩ _ _ (fun z4 hz4 => ⟨Tv, ?_⟩), Tv⟩
 refine zh (fun c6 => ret (no fun q => q.2.2.2.2 i hlt k hki (hz4.1 c6))) (fun c6 => ?_)
 refine zc (by omega) ?_
 refine ⟨k + 1, ?_, ⟨by omega, rfl, fun m hm hmi => ?_⟩, ⟨Tq, Tq, Tq, Tq, Tv⟩, ⟨rfl, Tv⟩⟩
 ·show i - (k + 1) < i - k
  omega
 ·by_cases e : m = k
  ·subst e
   intro hm2
   have := hz4.2 hm2
   rw [this] at c6; cases c6
  ·exact hno m (by omega) hmi
theorem zoq (g : Gnd) (hg : zi g) (l : List Bld) (hl : l.length <= 1000000000000) (hb : ∀ b ∈ l, yc b /\ onP g b) (st : Store) (R : AV -> Store -> Prop)
  (h : ∀ b, Fresh st b -> R (blV b g.T.length) (st.setObj b (.cells (bl g.T.length (qa g l))))) : ACalls Tryz.prog 152 [.agg (zr g), lst 6 zz l] st R := by
 have ha := yw hg
 have hg1 := hg.1
 have hg2 := hg.2.1
 refine ACalls.of_body (c := cfg 70) zb Tryz.func152 (by rfl) (by rfl) (by rfl) (by rfl) ?_
 refine zc (by omega) ?_
 rw [<- ha.2.2]
 refine vm rfl (it := ti50) (ie := ti4) rfl rfl rfl rfl rfl (n := g.T.length) ?_ ?_ (fun b hf => ?_)
 ·show 1 * _ <= _; omega
 ·omega
 rw [Dd]
 refine AWp.loop (σ := Nat) ⟨fun i => [(1, .av (lst 6 zz l)), (2, .bx 2 0), (5, .av (blV b g.T.length)), (6, .av (int (i : Nat)))], fun _ => [(2, zr g)],
  fun i st' => i <= l.length /\ st' = st.setObj b (.cells (bl g.T.length (qa g (l.take i)))), fun i => l.length - i⟩ zb ?_ ?_
 ·exact ⟨0, Tv, ⟨Nat.zero_le _, rfl⟩, ⟨Tq, Tq, Tq, Tq, Tv⟩, ⟨rfl, Tv⟩⟩
 rintro i st' ⟨hi, rfl⟩
 refine zh (fun h1 => ?_) (fun h1 => ?_)
 rotate_left
 ·have : i = l.length := k8 h1 hi
  subst this
  rw [List.take_length]
  exact ret (h b hf)
 have hlt : i < l.length := kh h1
 have hbi := hb l[i] (List.getElem_mem hlt)
 have hbi' := hbi
 unfold yc onP at hbi'
 refine ⟨i, rfl, za _ (zn hlt) ?_⟩
 refine AWp.loop (σ := Nat) ⟨fun k => [(1, .av (lst 6 zz l)), (2, .bx 2 0), (5, .av (blV b g.T.length)), (6, .av (int (i : Nat))), (7, .av (int (l[i].y + (k : Nat))))], fun _ => [(2, zr g)],
  fun k st' => k <= l[i].h.toNat /\ st' = st.setObj b (.cells (bl g.T.length (kq g l i l[i] k 0))), fun k => l[i].h.toNat - k⟩ zb ?_ ?_
 ·refine ⟨0, Tv, ⟨Nat.zero_le _, ?_⟩, ⟨Tq, Tq, Tq, Tq, ?_, Tv⟩, ⟨rfl, Tv⟩⟩
  ·rw [zvm]
  ·rw [show l[i].y + ((0 : Nat) : Int) = l[i].y by omega]; exact Tq
 rintro k st' ⟨hk, rfl⟩
 refine ADraw.of_sched zb (by rfl) (by rfl) zmk (by rfl) ?_
 refine ⟨i, rfl, za _ (zn hlt) ?_⟩
 refine ⟨i, rfl, za _ (zn hlt) ?_⟩
 refine zc (by omega) ?_
 refine bcd (fun h2 => ?_) (fun h2 => ?_)
 rotate_left
 ·have : k = l[i].h.toNat := by omega
  subst this
  refine zc (by omega) ?_
  refine ⟨i + 1, ?_, ⟨by omega, ?_⟩, ⟨Tq, Tq, Tq, Tq, Tv⟩, ⟨rfl, Tv⟩⟩
  ·show l.length - (i + 1) < l.length - i
   omega
  ·rw [zvp hlt (by omega)]
 refine ⟨i, rfl, za _ (zn hlt) ?_⟩
 refine AWp.loop (σ := Nat) ⟨fun m => [(1, .av (lst 6 zz l)), (2, .bx 2 0), (5, .av (blV b g.T.length)), (6, .av (int (i : Nat))), (7, .av (int (l[i].y + (k : Nat)))), (8, .av (int (l[i].x + (m : Nat))))], fun _ => [(2, zr g)],
  fun m st' => m <= l[i].w.toNat /\ st' = st.setObj b (.cells (bl g.T.length (kq g l i l[i] k m))), fun m => l[i].w.toNat - m⟩ zb ?_ ?_
 ·refine ⟨0, Tv, ⟨Nat.zero_le _, rfl⟩, ⟨Tq, Tq, Tq, Tq, Tq, ?_, Tv⟩, ⟨rfl, Tv⟩⟩
  rw [show l[i].x + ((0 : Nat) : Int) = l[i].x by omega]; exact Tq
 rintro m st' ⟨hm, rfl⟩
 refine ADraw.of_sched zb (by rfl) (by rfl) zmj (by rfl) ?_
 refine ⟨i, rfl, za _ (zn hlt) ?_⟩
 refine ⟨i, rfl, za _ (zn hlt) ?_⟩
 refine zc (by omega) ?_
 refine bcd (fun h3 => ?_) (fun h3 => ?_)
 rotate_left
 ·have : m = l[i].w.toNat := by omega
  subst this
  refine zc (by omega) ?_
  refine ⟨k + 1, ?_, ⟨by omega, ?_⟩, ⟨Tq, Tq, Tq, Tq, ?_, Tv⟩, ⟨rfl, Tv⟩⟩
  ·show l[i].h.toNat - (k + 1) < l[i].h.toNat - k
   omega
  ·rw [zvo _ _ _ _ _ (by omega)]
  ·rw [show l[i].y + ((k + 1 : Nat) : Int) = l[i].y + (k : Int) + 1 by omega]; exact Tq
 obtain ⟨q1, q2, _⟩ := Dl hg (x := l[i].x + m) (y := l[i].y + k) (by omega) (by omega)
 have q3 : 0 <= g.W * (l[i].y + (k : Int)) := Int.mul_nonneg (by omega) (by omega)
 obtain ⟨s1, s2⟩ := zvn hg (l := l) (i := i) hbi (k := k) (m := m) (by omega) (by omega) (n := (l[i].x + (m : Int) + g.W * (l[i].y + (k : Int))).toNat) (by omega)
 refine zc (by omega) ?_
 refine zc (by omega) ?_
 refine ⟨(l[i].x + (m : Int) + g.W * (l[i].y + (k : Int))).toNat, by omega, by omega, ?_⟩
 refine y7 (i := ti4) (v := V.bool true) (b := b) (o := 0 + (l[i].x + (m : Int) + g.W * (l[i].y + (k : Int))).toNat * 1) (l := bl g.T.length (kq g l i l[i] k m)) (st2 := st.setObj b (.cells (bl g.T.length (kq g l i l[i] k (m + 1))))) rfl rfl rfl (zd _ _ _) (by rw [xp]; omega) ?_ ?_
 ·rw [yx, show ∀ n : Nat, 0 + n * 1 = n by omega, <- s1, Af (by omega) _ s2]
 refine zc (by omega) ?_
 refine ⟨m + 1, ?_, ⟨by omega, rfl⟩, ⟨Tq, Tq, Tq, Tq, Tq, ?_, Tv⟩, ⟨rfl, Tv⟩⟩
 ·show l[i].w.toNat - (m + 1) < l[i].w.toNat - m
  omega
 ·rw [show l[i].x + ((m + 1 : Nat) : Int) = l[i].x + (m : Int) + 1 by omega]; exact Tq
theorem zq4 (g : Gnd) (l : List Bld) (c : Int) (i : Nat) : qt g l c (i + 1) i = z6 g l c i /\ ∀ s, s ≠ i -> qt g l c (i + 1) s = qt g l c i s := by
 unfold qt
 refine ⟨if_pos (by omega), fun s hs => ?_⟩
 by_cases h1 : s < i
 ·rw [if_pos (by omega), if_pos h1]
 ·rw [if_neg (by omega), if_neg h1]
theorem V8 (g : Gnd) (hg : zi g) (l : List Bld) (hl : l.length <= 1000000000000) (hb : ∀ b ∈ l, yc b /\ onP g b) (c : Int) (hc : c = 0 \/ c = 1 \/ c = 2) (st : Store) (R : AV -> Store -> Prop) (h : R (opV g l c) st) :
  ACalls Tryz.prog 78 [.agg (zr g), lst 6 zz l, int c] st R := by
 have ha := yw hg
 refine ACalls.of_awp (c := cfg 37) zb Tryz.func78 (by rfl) (by rfl) (by rfl) (by rfl) ?_
 refine AWp.seq (AWp.of_vc zb ?_)
 refine AWp.seq (AWp.of_vc zb ?_)
 refine zoq g hg l hl hb _ _ (fun b hf => ?_)
 refine AWp.meetA (σ := Unit) ⟨fun _ => [(7, .av (blV b g.T.length))], fun _ => [], fun _ st' => st' = st.setObj b (.cells (bl g.T.length (z6 g l c)))⟩ ?_ ?_
 ·refine AWp.of_vc zb ?_
  refine AWp.loop (σ := Nat) ⟨fun i => [(2, .av (int c)), (3, .bx 3 0), (7, .av (blV b g.T.length)), (8, .av (int (i : Nat)))], fun _ => [(3, zr g)],
   fun i st' => i <= g.T.length /\ st' = st.setObj b (.cells (bl g.T.length (qt g l c i))), fun i => g.T.length - i⟩ zb ?_ ?_
  ·refine ⟨0, Tv, ⟨Nat.zero_le _, ?_⟩, ⟨Tq, Tq, Tq, Tq, Tv⟩, ⟨rfl, Tv⟩⟩
   rw [show qt g l c 0 = qa g l from funext fun t => if_neg (Nat.not_lt_zero t)]
  rintro i st' ⟨hi, rfl⟩
  refine bcd (fun h1 => ?_) (fun h1 => ?_)
  rotate_left
  ·have : i = g.T.length := by omega
   subst this
   refine ⟨(), ?_, ⟨Tq, Tv⟩, Tv⟩
   have : bl g.T.length (qt g l c g.T.length) = bl g.T.length (z6 g l c) := by
    unfold bl qt
    exact List.map_congr_left fun t ht => by rw [if_pos (List.mem_range.1 ht)]
   rw [this]
  have hlt : i < g.T.length := by omega
  obtain ⟨s1, s2⟩ := zq4 g l c i
  have ho : (st.setObj b (.cells (bl g.T.length (qt g l c i)))).obj b = some (.cells (bl g.T.length (qt g l c i))) := zd _ _ _
  have hmid : qt g l c i i = qa g l i := if_neg (Nat.lt_irrefl i)
  have hhead : ((bl g.T.length (qt g l c i)).drop (0 + i * 1)).head? = some (V.bool (qa g l i)) := by
   rw [List.head?_drop, show 0 + i * 1 = i by omega, Bx hlt, hmid]
  refine ⟨i, rfl, hlt, ?_⟩
  refine za _ ho (za _ hhead ?_)
  have hti : g.T[i].toNat <= 5 := hg.2.2.2 _ (List.getElem_mem hlt)
  have hget : g.T.getD i 0 = g.T[i] := by simp [hlt]
  refine zh (fun c1 => ?_) (fun c1 => ?_)
  ·have c1 : qa g l i = false := by simpa using c1
   refine ⟨i, rfl, za _ (zn hlt) ?_⟩
   refine P6 c hc g.T[i] hti _ _ ?_
   have hz : decide (0 < js c g.T[i].toNat) = z6 g l c i := by
    unfold z6
    rw [c1, hget]; rfl
   refine ⟨i, rfl, hlt, ?_⟩
   refine y7 (i := ti4) (v := V.bool (decide (0 < js c g.T[i].toNat))) (b := b) (o := 0 + i * 1) (l := _) (st2 := st.setObj b (.cells (bl g.T.length (qt g l c (i + 1))))) rfl rfl rfl ho (by rw [xp]; omega) (by rw [yx, show 0 + i * 1 = i by omega, hz, <- s1, Af hlt _ s2]) ?_
   refine zc (by omega) ?_
   refine ⟨i + 1, ?_, ⟨by omega, rfl⟩, ⟨Tq, Tq, Tq, Tq, Tv⟩, ⟨rfl, Tv⟩⟩
   show g.T.length - (i + 1) < g.T.length - i
   omega
  ·have c1 : qa g l i = true := by simpa using c1
   have hz : false = z6 g l c i := by
    unfold z6
    rw [c1]; rfl
   refine ⟨i, rfl, hlt, ?_⟩
   refine y7 (i := ti4) (v := V.bool false) (b := b) (o := 0 + i * 1) (l := _) (st2 := st.setObj b (.cells (bl g.T.length (qt g l c (i + 1))))) rfl rfl rfl ho (by rw [xp]; omega) (by rw [yx, show 0 + i * 1 = i by omega, hz, <- s1, Af hlt _ s2]) ?_
   refine zc (by omega) ?_
   refine ⟨i + 1, ?_, ⟨by omega, rfl⟩, ⟨Tq, Tq, Tq, Tq, Tv⟩, ⟨rfl, Tv⟩⟩
   show g.T.length - (i + 1) < g.T.length - i
   omega
 ·rintro _ _ rfl
  refine AWp.freeze (d := 7) (b := b) (k := 1) (n := g.T.length) (cap := g.T.length) (rows := rws xi (blL g.T.length (z6 g l c))) (pad := []) rfl ?_ ?_ ?_ (Nat.le_refl _) ?_ ?_ ?_
  ·rw [Hu]; exact zd _ _ _
  ·exact hf.2
  ·rw [zl, qq]
  ·intro row hr
   obtain ⟨x, _, rfl⟩ := List.mem_map.1 hr
   rfl
  ·intro row hr y hy
   obtain ⟨x, _, rfl⟩ := List.mem_map.1 hr
   simp [xi] at hy
   exact ⟨_, hy, rfl⟩
  rw [Da hf.1]
  refine AWp.of_vc zb ?_
  exact ret h
theorem zof (g : Gnd) (hg : zi g) (l : List Bld) (hl : l.length <= 1000000000000) (hb : ∀ b ∈ l, yc b /\ onP g b) (c : Int) (hc : c = 0 \/ c = 1 \/ c = 2) (p : Vc) (hp : xf p.1 p.2) (r : Int) (hr : 0 < r /\ r <= 262144) (st : Store) (R : AV -> Store -> Prop)
  (h : ∀ z : Bool, (z = true ↔ qw g l c p r) -> R (V.bool z) st) : ACalls Tryz.prog 66 [.agg (zr g), lst 6 zz l, int c, .agg (zy p), int r] st R := by
 have ha := yw hg
 have hg1 := hg.1
 have hg2 := hg.2.1
 have hp' := hp
 unfold xf at hp'
 have no : ¬ qw g l c p r -> R (V.bool false) st := fun hn => h false (by simp only [Bool.false_eq_true, false_iff]; exact hn)
 refine ACalls.of_body (c := cfg 65) zb Tryz.func66 (by rfl) (by rfl) (by rfl) (by rfl) ?_
 refine bcd (fun c1 => ret (no fun q => by have := q.1; omega)) (fun c1 => ?_)
 refine bcd (fun c2 => ret (no fun q => by have := q.1; omega)) (fun c2 => ?_)
 refine zc (by omega) ?_
 refine zc (by omega) ?_
 refine bcd (fun c3 => ret (no fun q => by have := q.1; omega)) (fun c3 => ?_)
 refine zc (by omega) ?_
 refine zc (by omega) ?_
 refine bcd (fun c4 => ret (no fun q => by have := q.1; omega)) (fun c4 => ?_)
 refine V8 g hg l hl hb c hc _ _ ?_
 refine AWp.loop (σ := Nat) ⟨fun i => [(4, .av (int r)), (5, .bx 5 0), (8, .bx 8 0), (11, .av (opV g l c)), (12, .av (int (i : Nat)))], fun _ => [(5, zr g), (8, zy p)],
  fun i st' => i <= g.T.length /\ st' = st /\ ∀ t, t < i -> z6 g l c t = false -> ¬ xb g t p r, fun i => g.T.length - i⟩ zb ?_ ?_
 ·exact ⟨0, Tv, ⟨Nat.zero_le _, rfl, fun t ht => by omega⟩, ⟨Tq, Tq, Tq, Tq, Tq, Tv⟩, ⟨rfl, rfl, Tv⟩⟩
 rintro i st' ⟨hi, rfl, hall⟩
 refine zh (fun h1 => ?_) (fun h1 => ?_)
 rotate_left
 ·have h1 := k8 h1 (by rw [qq]; exact hi)
  rw [qq] at h1
  subst h1
  exact ret (h true (by simp only [true_iff]; exact ⟨by omega, hall⟩))
 have hlt := kh h1
 rw [qq] at hlt
 refine ⟨i, rfl, za _ (ia hlt) ?_⟩
 have next : (z6 g l c i = false -> ¬ xb g i p r) -> ∀ t, t < i + 1 -> z6 g l c t = false -> ¬ xb g t p r := fun hq t ht hh => by
  by_cases e : t = i
  ·subst e; exact hq hh
  ·exact hall t (by omega) hh
 refine yf ?_
 refine zh (fun c5 => ?_) (fun c5 => ?_)
 ·refine zc (by omega) ?_
  refine ⟨i + 1, ?_, ⟨by omega, rfl, next fun hh => by rw [c5] at hh; cases hh⟩, ⟨Tq, Tq, Tq, Tq, Tq, Tv⟩, ⟨rfl, rfl, Tv⟩⟩
  show g.T.length - (i + 1) < g.T.length - i
  omega
 refine zq6 g hg i (by omega) p hp r hr _ _ ?_
 refine bcd (fun c6 => ?_) (fun c6 => ?_)
 ·exact ret (no fun q => q.2 i hlt c5 c6)
 ·refine zc (by omega) ?_
  refine ⟨i + 1, ?_, ⟨by omega, rfl, next fun _ => c6⟩, ⟨Tq, Tq, Tq, Tq, Tq, Tv⟩, ⟨rfl, rfl, Tv⟩⟩
  show g.T.length - (i + 1) < g.T.length - i
  omega
theorem zsg (g : Gnd) (hg : zi g) (t : Nat) (ht : (t : Int) < g.W * g.H) (x : Int) (hx : x = (t : Int)) (p : Vc) (hp : xf p.1 p.2) (r : Int) (hr : 0 < r /\ r <= 262144) (st : Store) (R : AV -> Store -> Prop) (h : R (V.bool (decide (xb g t p r))) st) :
  ACalls Tryz.prog 295 [.agg (zr g), int x, .agg (zy p), int r] st R := by
 subst hx
 exact zsh g hg t ht p hp r hr st R h
set_option maxHeartbeats 1000000 in
theorem ec (g : Gnd) (hg : zi g) (l : List Bld) (c : Int) (p : Vc) (hpo : p.ok) (r : Int) (hr : 0 < r /\ r <= 262144) (st : Store) (R : AV -> Store -> Prop)
  (h : ∀ z : Bool, (z = true ↔ qw g l c p r) -> R (V.bool z) st) : ACalls Tryz.prog 218 [.agg (zr g), opV g l c, .agg (zy p), int r] st R := by
 have ha := yw hg
 have hg1 := hg.1
 have hg2 := hg.2.1
 have no : ¬ qw g l c p r -> R (V.bool false) st := fun hn => h false (by simp only [Bool.false_eq_true, false_iff]; exact hn)
 refine ACalls.of_body (c := cfg 112) zb Tryz.func218 (by rfl) (by rfl) (by rfl) (by rfl) ?_
 refine ADraw.of_sched zb (by rfl) (by rfl) zmc (by rfl) ?_
 refine zc (by omega) ?_
 refine zc (by omega) ?_
 refine ⟨⟨(by repeat (first | exact Tv | refine ⟨rfl, ?_⟩ | refine ⟨optR (optR (optR (za _ (zd _ _ _) rfl))), ?_⟩)), ?_⟩, Tv⟩
 refine ⟨⟨Tv, ?_⟩, Tv⟩
 refine zvd p r _ _ (fun z hz => ?_)
 refine yf ?_
 refine zh (fun c0 => ?_) (fun c0 => ret (no fun q => by
  have := hz.2 ⟨⟨by omega, hr.2⟩, by unfold xf; have := q.1; omega⟩
  rw [this] at c0; cases c0))
 have hp := (hz.1 c0).2
 have hp' := hp
 unfold xf at hp'
 refine zc (by omega) ?_
 refine bcd (fun c1 => ret (no fun q => by have := q.1; omega)) (fun c1 => ?_)
 refine zc (by omega) ?_
 refine bcd (fun c2 => ret (no fun q => by have := q.1; omega)) (fun c2 => ?_)
 refine zc (by omega) ?_
 refine bcd (fun c3 => ret (no fun q => by have := q.1; omega)) (fun c3 => ?_)
 refine zc (by omega) ?_
 refine bcd (fun c4 => ret (no fun q => by have := q.1; omega)) (fun c4 => ?_)
 refine zc (by omega) ?_
 refine ⟨by decide, ?_⟩
 have hy0 : (p.2 - r).tdiv 65536 = (p.2 - r) / 65536 := Int.tdiv_eq_ediv_of_nonneg (by omega)
 have hx0 : (p.1 - r).tdiv 65536 = (p.1 - r) / 65536 := Int.tdiv_eq_ediv_of_nonneg (by omega)
 have hy1 : (p.2 + r).tdiv 65536 = (p.2 + r) / 65536 := Int.tdiv_eq_ediv_of_nonneg (by omega)
 have hx1 : (p.1 + r).tdiv 65536 = (p.1 + r) / 65536 := Int.tdiv_eq_ediv_of_nonneg (by omega)
 refine zc (by omega) ?_
 rw [hy0]
 refine AWp.loop (σ := Nat) ⟨fun k => [(1, .av (opV g l c)), (3, .av (int r)), (4, .bx 4 0), (6, .bx 6 0), (11, .av (int ((p.2 - r) / 65536 + (k : Nat))))], fun _ => [(4, zr g), (6, zy p)],
  fun k st' => st' = st /\ ((k : Int) <= g.H - (p.2 - r) / 65536 \/ k = 0) /\ Gv g l c p r ((p.2 - r) / 65536 + (k : Nat)), fun k => (g.H - (p.2 - r) / 65536).toNat - k⟩ zb ?_ ?_
 ·refine ⟨0, Tv, ⟨rfl, .inr rfl, ?_⟩, ⟨Tq, Tq, Tq, Tq, ?_, Tv⟩, ⟨rfl, rfl, Tv⟩⟩
  ·rw [show (p.2 - r) / 65536 + ((0 : Nat) : Int) = (p.2 - r) / 65536 by omega]
   exact zv3 hr.1 (by omega)
  ·rw [show (p.2 - r) / 65536 + ((0 : Nat) : Int) = (p.2 - r) / 65536 by omega]; exact Tq
 rintro k st' ⟨rfl, hk, hup⟩
 refine zc (by omega) ?_
 refine ⟨by decide, ?_⟩
 refine zc (by omega) ?_
 rw [hy1]
 have done : (¬ ((p.2 - r) / 65536 + (k : Int) <= (p.2 + r) / 65536) \/ ¬ ((p.2 - r) / 65536 + (k : Int) < g.H)) -> R (V.bool true) st' := fun hh =>
  h true (by simp only [true_iff]; exact ⟨by omega, zv4 hg hr.1 (by omega) hh hup⟩)
 refine bcd (fun c5 => ?_) (fun c5 => ret (done (.inl c5)))
 refine bcd (fun c6 => ?_) (fun c6 => ret (done (.inr c6)))
 refine zc (by omega) ?_
 refine ⟨by decide, ?_⟩
 refine zc (by omega) ?_
 rw [hx0]
 have hyb : 0 <= (p.2 - r) / 65536 := by omega
 have hxb : 0 <= (p.1 - r) / 65536 := by omega
 refine AWp.loop (σ := Nat) ⟨fun m => [(1, .av (opV g l c)), (3, .av (int r)), (4, .bx 4 0), (6, .bx 6 0), (11, .av (int ((p.2 - r) / 65536 + (k : Nat)))), (12, .av (int ((p.1 - r) / 65536 + (m : Nat))))], fun _ => [(4, zr g), (6, zy p)],
  fun m st2 => st2 = st' /\ ((m : Int) <= g.W - (p.1 - r) / 65536 \/ m = 0) /\ Ie g l c p r ((p.2 - r) / 65536 + (k : Nat)) ((p.1 - r) / 65536 + (m : Nat)), fun m => (g.W - (p.1 - r) / 65536).toNat - m⟩ zb ?_ ?_
 ·refine ⟨0, Tv, ⟨rfl, .inr rfl, ?_⟩, ⟨Tq, Tq, Tq, Tq, Tq, ?_, Tv⟩, ⟨rfl, rfl, Tv⟩⟩
  ·rw [show (p.1 - r) / 65536 + ((0 : Nat) : Int) = (p.1 - r) / 65536 by omega]
   exact zv6 hr.1 (by omega)
  ·rw [show (p.1 - r) / 65536 + ((0 : Nat) : Int) = (p.1 - r) / 65536 by omega]; exact Tq
 rintro m st2 ⟨rfl, hm, hrow⟩
 refine zc (by omega) ?_
 refine ⟨by decide, ?_⟩
 refine zc (by omega) ?_
 rw [hx1]
 have done2 : (¬ ((p.1 - r) / 65536 + (m : Int) <= (p.1 + r) / 65536) \/ ¬ ((p.1 - r) / 65536 + (m : Int) < g.W)) -> Gv g l c p r ((p.2 - r) / 65536 + ((k + 1 : Nat) : Int)) := fun hh => by
  rw [Re]
  exact zv7 hg hr.1 (by omega) hh hup hrow
 have mu : (g.H - (p.2 - r) / 65536).toNat - (k + 1) < (g.H - (p.2 - r) / 65536).toNat - k := bz (Int.lt_sub_left_of_add_lt c6)
 have step2 : LV.le (qr .i64 ((p.2 - r) / 65536 + (k : Int) + 1)) (.av (int ((p.2 - r) / 65536 + ((k + 1 : Nat) : Int)))) := by
  rw [Re]; exact Tq
 refine bcd (fun c7 => ?_) (fun c7 => zc (by omega) ⟨k + 1, mu, ⟨rfl, .inl (Kx c6), done2 (.inl c7)⟩, ⟨Tq, Tq, Tq, Tq, step2, Tv⟩, ⟨rfl, rfl, Tv⟩⟩)
 refine bcd (fun c8 => ?_) (fun c8 => zc (by omega) ⟨k + 1, mu, ⟨rfl, .inl (Kx c6), done2 (.inr c8)⟩, ⟨Tq, Tq, Tq, Tq, step2, Tv⟩, ⟨rfl, rfl, Tv⟩⟩)
 obtain ⟨q1, q2, q3, q4⟩ := Dl hg (x := (p.1 - r) / 65536 + (m : Int)) (y := (p.2 - r) / 65536 + (k : Int)) (by omega) (by omega)
 have q5 : 0 <= g.W * ((p.2 - r) / 65536 + (k : Int)) := Int.mul_nonneg (by omega) (by omega)
 have hstep := zv5 (l := l) (c := c) (p := p) (r := r) hg (x := (p.1 - r) / 65536 + (m : Int)) (y := (p.2 - r) / 65536 + (k : Int)) (by omega) (by omega) hrow
 refine zc (by omega) ?_
 refine zc (by omega) ?_
 obtain ⟨n, hn⟩ : ∃ n : Nat, (n : Int) = (p.1 - r) / 65536 + (m : Int) + g.W * ((p.2 - r) / 65536 + (k : Int)) := ⟨_, Int.toNat_of_nonneg q1⟩
 rw [<- hn, Int.toNat_natCast] at hstep
 have hnl : n < g.T.length := by omega
 have mu2 : (g.W - (p.1 - r) / 65536).toNat - (m + 1) < (g.W - (p.1 - r) / 65536).toNat - m := bz (Int.lt_sub_left_of_add_lt c8)
 have e2 : (p.1 - r) / 65536 + ((m + 1 : Nat) : Int) = (p.1 - r) / 65536 + (m : Int) + 1 := Re _ _
 have step3 : LV.le (qr .i64 ((p.1 - r) / 65536 + (m : Int) + 1)) (.av (int ((p.1 - r) / 65536 + ((m + 1 : Nat) : Int)))) := by
  rw [e2]; exact Tq
 refine ⟨n, hn.symm, za _ (ia hnl) ?_⟩
 refine yf ?_
 refine zh (fun c9 => ?_) (fun c9 => ?_)
 ·refine zc (by omega) ?_
  exact ⟨m + 1, mu2, ⟨rfl, .inl (Kx c8), by rw [e2]; exact hstep fun hh => by rw [c9] at hh; cases hh⟩, ⟨Tq, Tq, Tq, Tq, Tq, step3, Tv⟩, ⟨rfl, rfl, Tv⟩⟩
 refine zsg g hg n (by omega) _ hn.symm p hp r hr _ _ ?_
 refine bcd (fun c10 => ?_) (fun c10 => ?_)
 ·exact ret (no fun q => q.2 n hnl c9 c10)
 ·refine zc (by omega) ?_
  exact ⟨m + 1, mu2, ⟨rfl, .inl (Kx c8), by rw [e2]; exact hstep fun _ => c10⟩, ⟨Tq, Tq, Tq, Tq, Tq, step3, Tv⟩, ⟨rfl, rfl, Tv⟩⟩
theorem cx (x : Int) (st : Store) (R : AV -> Store -> Prop) (h : R (V.bool false) st) : ACalls Tryz.prog 225 [int x] st R := by
 refine ACalls.of_body (c := cfg 6) zb Tryz.func225 (by rfl) (by rfl) (by rfl) (by rfl) ?_
 refine ⟨_, st, Tt, Store.Has.refl st, ?_⟩
 have e : (x != x) = false := by simp
 rw [<- e] at h
 exact h
theorem zvy (x y : Int) (st : Store) (R : AV -> Store -> Prop) (h : R (int (Gu x y)) st) : ACalls Tryz.prog 138 [int x, int y] st R := by
 refine ACalls.of_body (c := cfg 20) zb Tryz.func138 (by rfl) (by rfl) (by rfl) (by rfl) ?_
 refine cx _ _ _ ?_
 refine cx _ _ _ ?_
 unfold Gu at h
 refine zh (fun h1 => ⟨_, st, Tt, Store.Has.refl st, ?_⟩) (fun h1 => ?_)
 ·rw [if_pos (by simpa using h1)] at h
  exact h
 ·rw [if_neg (by simpa using h1)] at h
  refine zh (fun h2 => ⟨_, st, Tt, Store.Has.refl st, ?_⟩) (fun h2 => ⟨_, st, Tt, Store.Has.refl st, ?_⟩)
  ·rw [if_pos (by simpa using h2)] at h
   exact h
  ·rw [if_neg (by simpa using h2)] at h
   exact h
theorem io (u : Unt) (id : Int) (st : Store) (R : AV -> Store -> Prop) (h : R (int (Gu u.id id)) st) : ACalls Tryz.prog 137 [.agg (zp u), int id] st R := by
 refine ACalls.of_body (c := cfg 9) zb Tryz.func137 (by rfl) (by rfl) (by rfl) (by rfl) ?_
 exact zvy u.id id _ _ (ret h)
/-- Where an ID stands, or would stand. -/
def H0 (l : List Unt) (id : Int) (i : Nat) : Prop := i <= l.length /\ (∀ j, (h : j < l.length) -> j < i -> l[j].id < id) /\ ∀ j, (h : j < l.length) -> i <= j -> id <= l[j].id
theorem zwk (l : List Unt) (hl : l.length <= 1000000000000) (hr : yq l) (id : Int) (st : Store) (R : AV -> Store -> Prop)
  (h : ∀ i, H0 l id i -> ∀ z : Bool, (z = true ↔ ∃ hi : i < l.length, l[i].id = id) -> R (.tup [int (i : Nat), V.bool z]) st) : ACalls Tryz.prog 136 [lst 10 zp l, int id, .clos 137 []] st R := by
 refine ACalls.of_body (c := cfg 49) zb Tryz.func136 (by rfl) (by rfl) (by rfl) (by rfl) ?_
 refine AWp.loop (σ := Nat × Nat) ⟨fun s => [(0, .av (lst 10 zp l)), (1, .av (int id)), (2, .av (.clos 137 [])), (8, .av (int (l.length : Nat))), (9, .av (int (s.1 : Nat))), (10, .av (int (s.2 : Nat)))], fun _ => [],
  fun s st' => st' = st /\ s.1 <= s.2 /\ s.2 <= l.length /\ (∀ j, (h : j < l.length) -> j < s.1 -> l[j].id < id) /\ ∀ j, (h : j < l.length) -> s.2 <= j -> id <= l[j].id, fun s => s.2 - s.1⟩ zb ?_ ?_
 ·refine ⟨(0, l.length), Tv, ⟨rfl, Nat.zero_le _, Nat.le_refl _, fun j _ hj => by omega, fun j hj hj2 => by omega⟩, ⟨Tq, Tq, Tq, ?_, Tq, ?_, Tv⟩, Tv⟩
  ·rw [<- zl (f := zp) l]; exact Tq
  ·rw [<- zl (f := zp) l]; exact Tq
 rintro ⟨i, j⟩ st' ⟨rfl, hij, hj, hlo, hhi⟩
 dsimp only at hij hj hlo hhi ⊢
 refine bcd (fun h1 => ?_) (fun h1 => ?_)
 rotate_left
 ·have e : i = j := by omega
  subst e
  have hat : H0 l id i := ⟨hj, hlo, hhi⟩
  refine bcd (fun h2 => ?_) (fun h2 => ?_)
  ·have hlt : i < l.length := by omega
   refine ⟨i, rfl, za _ (zn hlt) ?_⟩
   refine io l[i] id _ _ ?_
   refine ret (h i hat _ ?_)
   have := hhi i hlt (Nat.le_refl _)
   unfold Gu
   rw [if_neg (by omega)]
   by_cases e : l[i].id = id
   ·rw [if_neg (by omega)]; simp [hlt, e]
   ·rw [if_pos (by omega)]; simp [e]
  ·exact ret (h i hat _ (by simp; omega))
 refine zc (by omega) ?_
 refine ⟨by decide, ?_⟩
 have hmid : (IntKind.u64.wrap ((i : Int) + (j : Int))).fdiv (2 ^ (min (1 : Int).toNat IntKind.u64.bits)) = (((i + j) / 2 : Nat) : Int) := by
  have e1 : IntKind.u64.wrap ((i : Int) + (j : Int)) = ((i + j : Nat) : Int) := by
   simp [IntKind.wrap, IntKind.bits, IntKind.signed]; omega
  have e2 : (2 : Int) ^ (min (1 : Int).toNat IntKind.u64.bits) = 2 := rfl
  have e3 : (((i + j : Nat) : Int)).fdiv 2 = (((i + j) / 2 : Nat) : Int) := by
   rw [Int.fdiv_eq_ediv_of_nonneg _ (by decide)]; rfl
  rw [e1, e2, e3]
 have hk1 : (i + j) / 2 < j := by omega
 have hk2 : i <= (i + j) / 2 := by omega
 have hkl : (i + j) / 2 < l.length := by omega
 have hmono : ∀ a b, (ha : a < l.length) -> (hb : b < l.length) -> a <= b -> l[a].id <= l[b].id := by
  intro a b ha hb hab
  induction b with
  | zero =>
   have : a = 0 := by omega
   subst this; exact Int.le_refl _
  | succ b ih =>
   by_cases e : a = b + 1
   ·subst e; exact Int.le_refl _
   ·have h2 := ih (by omega) (by omega)
    have h3 := hr (b + 1) hb (by omega)
    simp only [Nat.add_sub_cancel] at h3
    omega
 refine ⟨by rw [hmid]; exact ⟨by omega, by omega⟩, ?_⟩
 refine ⟨(i + j) / 2, hmid, za _ (zn hkl) ?_⟩
 refine io l[(i + j) / 2] id _ _ ?_
 have hc : Gu l[(i + j) / 2].id id < 0 ↔ l[(i + j) / 2].id < id := by
  unfold Gu; split
  ·omega
  ·split <;> omega
 refine bcd (fun h2 => ?_) (fun h2 => ?_)
 ·have h2 := hc.1 h2
  refine zc (by rw [hmid]; omega) ?_
  refine ⟨((i + j) / 2 + 1, j), ?_, ⟨rfl, by dsimp only; omega, hj, fun a ha ha2 => ?_, hhi⟩, ⟨Tq, Tq, Tq, Tq, ?_, Tq, Tv⟩, Tv⟩
  ·show j - ((i + j) / 2 + 1) < j - i
   omega
  ·have := hmono a ((i + j) / 2) ha hkl (by dsimp only at ha2; omega)
   omega
  ·dsimp only
   exact (congrArg (fun n : Int => LV.le (qr .i64 (n + 1)) (.av (int (((i + j) / 2 + 1 : Nat) : Int)))) hmid).mpr (Tq)
 ·have h2 : ¬ l[(i + j) / 2].id < id := fun hh => h2 (hc.2 hh)
  refine ⟨(i, (i + j) / 2), ?_, ⟨rfl, hk2, by dsimp only; omega, hlo, fun a ha ha2 => ?_⟩, ⟨Tq, Tq, Tq, Tq, Tq, ?_, Tv⟩, Tv⟩
  ·show (i + j) / 2 - i < j - i
   omega
  ·have := hmono ((i + j) / 2) a hkl ha (by dsimp only at ha2; omega)
   omega
  ·dsimp only
   exact (congrArg (fun n : Int => LV.le (qr .i64 n) (.av (int (((i + j) / 2 : Nat) : Int)))) hmid).mpr (Tq)
theorem Mb (l : List Unt) (hl : l.length <= 1000000000000) (hr : yq l) (id : Int) (st : Store) (R : AV -> Store -> Prop)
  (h : ∀ i, H0 l id i -> ∀ z : Bool, (z = true ↔ ∃ hi : i < l.length, l[i].id = id) -> R (.tup [int (i : Nat), V.bool z]) st) : ACalls Tryz.prog 75 [lst 10 zp l, int id] st R := by
 refine ACalls.of_body (c := cfg 11) zb Tryz.func75 (by rfl) (by rfl) (by rfl) (by rfl) ?_
 exact zwk l hl hr id _ _ fun i hi z hz => ret (h i hi z hz)
/-- The cells beside something else. -/
theorem zwg {F S : Store} {p : Nat} {l : List Ent} (hc : CellsOf F p l) (hd : zv F S) (hl : l.length <= 1000000000) (hok : ∀ e ∈ l, e.2.ok) (id : Int) (R : AV -> Store -> Prop)
  (h : ∀ F', CellsOf F' p (yu l id) -> zv F' S -> R (V.bool (l.find? (jx id)).isSome) (F'.un S)) : ACalls Tryz.prog 221 [ptr p, int id] (F.un S) R :=
 ACalls.frame (R := fun r a' => r = V.bool (l.find? (jx id)).isSome /\ CellsOf a' p (yu l id)) hd (gj hc hl hok id _ fun a' ha' => ⟨rfl, ha'⟩) fun r a' ⟨h1, h2⟩ hd' => h1 ▸ h a' h2 hd'
theorem Rf {F S : Store} {p : Nat} {l : List Ent} (hc : CellsOf F p l) (hd : zv F S) (hl : l.length <= 1000000000) (hok : ∀ e ∈ l, e.2.ok) (id : Int) (pos : Vc) (hpos : pos.ok) (R : AV -> Store -> Prop)
  (h : ∀ F', CellsOf F' p (yu l id ++ [(id, pos)]) -> zv F' S -> R (.tup []) (F'.un S)) : ACalls Tryz.prog 133 [ptr p, int id, .agg (zy pos)] (F.un S) R :=
 ACalls.frame (R := fun r a' => r = .tup [] /\ CellsOf a' p (yu l id ++ [(id, pos)])) hd (zwc hc hl hok id pos hpos _ fun a' ha' => ⟨rfl, ha'⟩) fun r a' ⟨h1, h2⟩ hd' => h1 ▸ h a' h2 hd'
theorem gr {F S : Store} {p : Nat} {l : List Ent} (hc : CellsOf F p l) (hd : zv F S) (hl : l.length <= 1000000000) (hok : ∀ e ∈ l, e.2.ok) {q : Vc} (hq : q.ok) {r : Int} (hr : ye r) (R : AV -> Store -> Prop)
  (h : ∀ F' N v ns, CellsOf F' p l -> zv F' N -> zv F' S -> zv N S -> Ints N v ns -> Iq l q r ns -> R v ((F'.un N).un S)) : ACalls Tryz.prog 226 [ptr p, .agg (zy q), int r] (F.un S) R :=
 ACalls.frame (R := fun v a' => ∃ F' N ns, a' = F'.un N /\ CellsOf F' p l /\ zv F' N /\ Ints N v ns /\ Iq l q r ns) hd (zwd hc hl hok hq hr _ fun F' N v ns h1 h2 h3 h4 => ⟨F', N, ns, rfl, h1, h2, h3, h4⟩)
  fun v a' ⟨F', N, ns, h1, h2, h3, h4, h5⟩ hd' => by subst h1; exact h F' N v ns h2 h3 (disj_un.1 hd').1 (disj_un.1 hd').2 h4 h5
def stC (w : Wld) (o0 o1 o2 : AV) (p : Nat) : List AV := yd w ++ [o0, o1, o2, ptr p]
def stS (s : Nat) (w : Wld) (o0 o1 o2 : AV) (p : Nat) : Store := Store.empty.setObj s (.cells (stC w o0 o1 o2 p))
def F8 (w : Wld) (c : Int) (o : AV) : Prop := o = .s (.slice none 0 0) \/ o = opV w.G w.B c
/-- A stand: who stands in its cells. -/
structure StandAt (F : Store) (s p : Nat) (w : Wld) (L : List Ent) (o0 o1 o2 : AV) : Prop where
 hc : CellsOf F p L
 hd : zv F (stS s w o0 o1 o2 p)
 h0 : F8 w 0 o0
 h1 : F8 w 1 o1
 h2 : F8 w 2 o2
theorem Bh (s : Nat) (w : Wld) (o0 o1 o2 : AV) (p : Nat) : (stS s w o0 o1 o2 p).obj s = some (.cells (stC w o0 o1 o2 p)) := zd _ _ _
theorem stS_has {s : Nat} {w : Wld} {o0 o1 o2 : AV} {p i : Nat} : (stS s w o0 o1 o2 p).has i ↔ i = s := by
 unfold Store.has stS
 constructor
 ·rintro (h | h)
  ·apply Decidable.byContradiction
   intro hn
   rw [zw hn] at h
   exact h rfl
  ·exact absurd rfl h
 ·rintro rfl
  exact .inl (by rw [zd]; simp)
theorem Pz {F : Store} {s : Nat} {w : Wld} {o0 o1 o2 q0 q1 q2 : AV} {p : Nat} (h : zv F (stS s w o0 o1 o2 p)) : zv F (stS s w q0 q1 q2 p) := fun i h1 h2 => h i h1 (stS_has.2 (stS_has.1 h2))
theorem Ny {l : List Unt} (hr : yq l) {a b : Nat} (hab : a < b) (hb : b < l.length) : (l[a]'(by omega)).id < l[b].id := by
 induction b with
 | zero => omega
 | succ b ih =>
  have h3 := hr (b + 1) hb (by omega)
  simp only [Nat.add_sub_cancel] at h3
  by_cases e : a = b
  ·subst e; exact h3
  ·have := ih (by omega) (by omega)
   omega
theorem zp3 (w : Wld) (hU : w.U.length <= 1000000) (hn : ∀ u ∈ w.U, u.pos.ok) (R : AV -> Store -> Prop)
  (h : ∀ F s p L o0 o1 o2, StandAt F s p w L o0 o1 o2 -> L.length <= w.U.length -> (yq w.U -> ∀ e, e ∈ L ↔ ∃ u ∈ w.U, u.inn = 0 /\ e = (u.id, u.pos)) -> R (ptr s) (F.un (stS s w o0 o1 o2 p))) : ACalls Tryz.prog 73 [.agg (yd w)] Store.empty R := by
 refine ACalls.of_body (c := cfg 31 [9] []) zb Tryz.func73 (by rfl) (by rfl) (by rfl) (by rfl) ?_
 refine ADraw.of_sched zb (by rfl) (by rfl) Vt (by rfl) ?_
 refine ⟨gk _ (fun F p hc => ⟨(by repeat (first | exact Tv | refine ⟨rfl, ?_⟩ | refine ⟨optR (optR (optR (za _ (zd _ _ _) rfl))), ?_⟩)), ?_⟩), Tv⟩
 refine ⟨fun s hs => ⟨Tv, ?_⟩, Tv⟩
 refine ⟨⟨Tv, ?_⟩, Tv⟩
 have e0 : F.setObj s (.cells (stC w (.s (.slice none 0 0)) (.s (.slice none 0 0)) (.s (.slice none 0 0)) p)) = F.un (stS s w (.s (.slice none 0 0)) (.s (.slice none 0 0)) (.s (.slice none 0 0)) p) := by
  exact qk F Store.empty s _
 have h0 : StandAt F s p w [] (.s (.slice none 0 0)) (.s (.slice none 0 0)) (.s (.slice none 0 0)) := ⟨hc, fun i h1 h2 => by
  have := stS_has.1 h2
  subst this
  exact (fresh_iff.1 hs) h1, .inl rfl, .inl rfl, .inl rfl⟩
 refine AWp.loop (σ := Nat × Store × List Ent) ⟨fun q => [(3, .av (ptr s)), (11, .av (lst 10 zp w.U)), (12, .av (int (w.U.length : Nat))), (13, .av (int (q.1 : Nat)))], fun _ => [],
  fun q st' => st' = q.2.1.un (stS s w (.s (.slice none 0 0)) (.s (.slice none 0 0)) (.s (.slice none 0 0)) p) /\ StandAt q.2.1 s p w q.2.2 (.s (.slice none 0 0)) (.s (.slice none 0 0)) (.s (.slice none 0 0)) /\ q.1 <= w.U.length /\ q.2.2.length <= q.1 /\ (∀ e ∈ q.2.2, e.2.ok) /\ (yq w.U -> ∀ e, e ∈ q.2.2 ↔ ∃ u ∈ w.U.take q.1, u.inn = 0 /\ e = (u.id, u.pos)), fun q => w.U.length - q.1⟩ zb ?_ ?_
 ·refine ⟨(0, F, []), Tv, ⟨e0, h0, Nat.zero_le _, Nat.le_refl _, fun e he => (by cases he), fun _ e => (by simp)⟩, ⟨Tq, Tq, ?_, Tq, Tv⟩, Tv⟩
  rw [<- zl (f := zp) w.U]; exact Tq
 rintro ⟨i, F1, L⟩ st' ⟨rfl, hS, hi, hL, hok, hmem⟩
 dsimp only at hS hi hL hok hmem ⊢
 refine bcd (fun h1 => ?_) (fun h1 => ?_)
 rotate_left
 ·have : i = w.U.length := by omega
  subst this
  rw [List.take_length] at hmem
  exact ret (h F1 s p L _ _ _ hS hL hmem)
 have hlt : i < w.U.length := by omega
 refine ⟨i, rfl, za _ (zn hlt) ?_⟩
 have hn2 := hn w.U[i] (List.getElem_mem hlt)
 refine yj (fun c1 => ?_) (fun c1 => ?_)
 ·refine ADraw.of_sched zb (by rfl) (by rfl) Vs (by rfl) ?_
  refine za (o := (F1.un (stS s w _ _ _ p)).obj s) _ (ze (Bh s w _ _ _ p)) ?_
  refine ⟨Rf hS.hc hS.hd (by omega) hok w.U[i].id w.U[i].pos hn2 _ (fun F2 h2 h3 => ⟨Tv, ?_⟩), Tv⟩
  have hlen : (yu L w.U[i].id ++ [(w.U[i].id, w.U[i].pos)]).length <= i + 1 := by
   rw [List.length_append]
   have : (yu L w.U[i].id).length <= L.length := List.length_filter_le _ _
   simp only [List.length_singleton]; omega
  refine zc (by omega) ?_
  refine ⟨(i + 1, F2, _), ?_, ⟨rfl, ⟨h2, h3, .inl rfl, .inl rfl, .inl rfl⟩, by dsimp only; omega, hlen, fun e he => ?_, fun hr e => ?_⟩, ⟨Tq, Tq, Tq, Tq, Tv⟩, Tv⟩
  ·show w.U.length - (i + 1) < w.U.length - i
   omega
  ·rcases List.mem_append.1 he with he | he
   ·exact hok e (mem_dropId.1 he).1
   ·simp at he; subst he; exact hn2
  ·dsimp only
   rw [List.take_succ_eq_append_getElem hlt, List.mem_append, mem_dropId, hmem hr e]
   constructor
   ·rintro (⟨⟨u, hu, h4⟩, _⟩ | he)
    ·exact ⟨u, List.mem_append.2 (.inl hu), h4⟩
    ·simp at he
     exact ⟨w.U[i], List.mem_append.2 (.inr (by simp)), c1, he⟩
   ·rintro ⟨u, hu, h4, h5⟩
    rcases List.mem_append.1 hu with hu | hu
    ·refine .inl ⟨⟨u, hu, h4, h5⟩, ?_⟩
     obtain ⟨j, hj, rfl⟩ := List.getElem_of_mem hu
     rw [List.length_take] at hj
     rw [List.getElem_take] at h5
     have := Ny hr (a := j) (b := i) (by omega) hlt
     subst h5
     show w.U[j].id ≠ w.U[i].id
     omega
    ·simp at hu
     subst hu
     exact .inr (by simp [h5])
 ·refine zc (by omega) ?_
  refine ⟨(i + 1, F1, L), ?_, ⟨rfl, hS, by dsimp only; omega, by dsimp only; omega, hok, fun hr e => ?_⟩, ⟨Tq, Tq, Tq, Tq, Tv⟩, Tv⟩
  ·show w.U.length - (i + 1) < w.U.length - i
   omega
  ·dsimp only
   rw [hmem hr e, List.take_succ_eq_append_getElem hlt]
   constructor
   ·rintro ⟨u, hu, h3⟩; exact ⟨u, List.mem_append.2 (.inl hu), h3⟩
   ·rintro ⟨u, hu, h3, h4⟩
    rcases List.mem_append.1 hu with hu | hu
    ·exact ⟨u, hu, h3, h4⟩
    ·simp at hu
     subst hu
     exact absurd h3 c1
theorem vx {g : Gnd} (hg : zi g) (l : List Bld) (c : Int) : ∃ x y, opV g l c = .lst 1 (x :: y) none := by
 have ha := yw hg
 unfold opV lst
 cases h : rws xi (blL g.T.length (z6 g l c)) with
 | nil =>
  have := zl (f := xi) (blL g.T.length (z6 g l c))
  rw [h, qq] at this
  simp at this
  omega
 | cons x y => exact ⟨x, y, rfl⟩
theorem Gw {v : AV} (h : ∃ x y, v = .lst 1 (x :: y) none) : cellsOf v = some [v] /\ v.one = true := by
 obtain ⟨x, y, rfl⟩ := h
 exact ⟨rfl, rfl⟩
theorem zj4 {F : Store} {s p : Nat} {w : Wld} {L : List Ent} {o0 o1 o2 : AV} (hS : StandAt F s p w L o0 o1 o2) (hg : zi w.G) (hB : w.B.length <= 1000000000000) (hb : ∀ b ∈ w.B, yc b /\ onP w.G b) (c : Int) (hc : c = 0 \/ c = 1 \/ c = 2) (R : AV -> Store -> Prop)
  (h : ∀ q0 q1 q2, StandAt F s p w L q0 q1 q2 -> R (opV w.G w.B c) (F.un (stS s w q0 q1 q2 p))) : ACalls Tryz.prog 219 [ptr s, int c] (F.un (stS s w o0 o1 o2 p)) R := by
 have ho := ze (a := F) (Bh s w o0 o1 o2 p)
 obtain ⟨x0, y0, hne0⟩ := vx hg w.B 0
 obtain ⟨x1, y1, hne1⟩ := vx hg w.B 1
 obtain ⟨x2, y2, hne2⟩ := vx hg w.B 2
 rcases hc with rfl | rfl | rfl
 ·rcases hS.h0 with e | e
  ·subst e
   refine ACalls.of_body (c := cfg 35) zb Tryz.func219 (by rfl) (by rfl) (by rfl) (by rfl) ?_
   refine ⟨0, rfl, by decide, ?_⟩
   refine za (o := (F.un (stS s w _ _ _ p)).obj s) _ ho ?_
   refine ADraw.of_sched zb (by rfl) (by rfl) Fz (by rfl) ?_
   refine za (o := (F.un (stS s w _ _ _ p)).obj s) _ ho ?_
   refine za (o := (F.un (stS s w _ _ _ p)).obj s) _ ho ?_
   refine ⟨D9 w.G hg w.B hB hb 0 _ _ ⟨Tv, ?_⟩, Tv⟩
   refine ⟨0, rfl, by decide, ?_⟩
   have ho2 := ze (a := F) (Bh s w (opV w.G w.B 0) o1 o2 p)
   have hc2 := Gw (vx hg w.B 0)
   refine ⟨?_, Tv⟩
   refine za _ rfl (kk rfl (j8 (v := opV w.G w.B 0) rfl rfl rfl rfl ?_))
   refine y7 (i := ti50) (v := opV w.G w.B 0) (b := s) (o := 0 + 8 + 0 * ti50.size) (l := stC w _ o1 o2 p) (st2 := F.un (stS s w (opV w.G w.B 0) o1 o2 p)) hc2.1 hc2.2 rfl ho (show 8 + 1 <= 12 by decide) ?_ ?_
   ·rw [qk]
    unfold stS
    rw [yx]
    rfl
   refine ⟨Tv, ?_⟩
   refine ⟨0, rfl, by decide, ?_⟩
   refine za (o := (F.un (stS s w _ _ _ p)).obj s) _ ho2 ?_
   exact ret (h _ _ _ ⟨hS.hc, Pz hS.hd, .inr rfl, hS.h1, hS.h2⟩)
  ·rw [hne0] at e
   subst e
   refine ACalls.of_body (c := cfg 35) zb Tryz.func219 (by rfl) (by rfl) (by rfl) (by rfl) ?_
   refine ⟨0, rfl, by decide, ?_⟩
   refine za (o := (F.un (stS s w _ _ _ p)).obj s) _ ho ?_
   refine fun bb hbb => ?_
   have hbf : bb = false := by
    cases bb with
    | true => cases hbb rfl
    | false => rfl
   subst hbf
   refine ⟨0, rfl, by decide, ?_⟩
   refine za (o := (F.un (stS s w _ _ _ p)).obj s) _ ho ?_
   refine ret ?_
   have := h _ _ _ hS
   rw [hne0] at this
   exact this
 ·rcases hS.h1 with e | e
  ·subst e
   refine ACalls.of_body (c := cfg 35) zb Tryz.func219 (by rfl) (by rfl) (by rfl) (by rfl) ?_
   refine ⟨1, rfl, by decide, ?_⟩
   refine za (o := (F.un (stS s w _ _ _ p)).obj s) _ ho ?_
   refine ADraw.of_sched zb (by rfl) (by rfl) Fz (by rfl) ?_
   refine za (o := (F.un (stS s w _ _ _ p)).obj s) _ ho ?_
   refine za (o := (F.un (stS s w _ _ _ p)).obj s) _ ho ?_
   refine ⟨D9 w.G hg w.B hB hb 1 _ _ ⟨Tv, ?_⟩, Tv⟩
   refine ⟨1, rfl, by decide, ?_⟩
   have ho2 := ze (a := F) (Bh s w o0 (opV w.G w.B 1) o2 p)
   have hc2 := Gw (vx hg w.B 1)
   refine ⟨?_, Tv⟩
   refine za _ rfl (kk rfl (j8 (v := opV w.G w.B 1) rfl rfl rfl rfl ?_))
   refine y7 (i := ti50) (v := opV w.G w.B 1) (b := s) (o := 0 + 8 + 1 * ti50.size) (l := stC w o0 _ o2 p) (st2 := F.un (stS s w o0 (opV w.G w.B 1) o2 p)) hc2.1 hc2.2 rfl ho (show 9 + 1 <= 12 by decide) ?_ ?_
   ·rw [qk]
    unfold stS
    rw [yx]
    rfl
   refine ⟨Tv, ?_⟩
   refine ⟨1, rfl, by decide, ?_⟩
   refine za (o := (F.un (stS s w _ _ _ p)).obj s) _ ho2 ?_
   exact ret (h _ _ _ ⟨hS.hc, Pz hS.hd, hS.h0, .inr rfl, hS.h2⟩)
  ·rw [hne1] at e
   subst e
   refine ACalls.of_body (c := cfg 35) zb Tryz.func219 (by rfl) (by rfl) (by rfl) (by rfl) ?_
   refine ⟨1, rfl, by decide, ?_⟩
   refine za (o := (F.un (stS s w _ _ _ p)).obj s) _ ho ?_
   refine fun bb hbb => ?_
   have hbf : bb = false := by
    cases bb with
    | true => cases hbb rfl
    | false => rfl
   subst hbf
   refine ⟨1, rfl, by decide, ?_⟩
   refine za (o := (F.un (stS s w _ _ _ p)).obj s) _ ho ?_
   refine ret ?_
   have := h _ _ _ hS
   rw [hne1] at this
   exact this
 ·rcases hS.h2 with e | e
  ·subst e
   refine ACalls.of_body (c := cfg 35) zb Tryz.func219 (by rfl) (by rfl) (by rfl) (by rfl) ?_
   refine ⟨2, rfl, by decide, ?_⟩
   refine za (o := (F.un (stS s w _ _ _ p)).obj s) _ ho ?_
   refine ADraw.of_sched zb (by rfl) (by rfl) Fz (by rfl) ?_
   refine za (o := (F.un (stS s w _ _ _ p)).obj s) _ ho ?_
   refine za (o := (F.un (stS s w _ _ _ p)).obj s) _ ho ?_
   refine ⟨D9 w.G hg w.B hB hb 2 _ _ ⟨Tv, ?_⟩, Tv⟩
   refine ⟨2, rfl, by decide, ?_⟩
   have ho2 := ze (a := F) (Bh s w o0 o1 (opV w.G w.B 2) p)
   have hc2 := Gw (vx hg w.B 2)
   refine ⟨?_, Tv⟩
   refine za _ rfl (kk rfl (j8 (v := opV w.G w.B 2) rfl rfl rfl rfl ?_))
   refine y7 (i := ti50) (v := opV w.G w.B 2) (b := s) (o := 0 + 8 + 2 * ti50.size) (l := stC w o0 o1 _ p) (st2 := F.un (stS s w o0 o1 (opV w.G w.B 2) p)) hc2.1 hc2.2 rfl ho (show 10 + 1 <= 12 by decide) ?_ ?_
   ·rw [qk]
    unfold stS
    rw [yx]
    rfl
   refine ⟨Tv, ?_⟩
   refine ⟨2, rfl, by decide, ?_⟩
   refine za (o := (F.un (stS s w _ _ _ p)).obj s) _ ho2 ?_
   exact ret (h _ _ _ ⟨hS.hc, Pz hS.hd, hS.h0, hS.h1, .inr rfl⟩)
  ·rw [hne2] at e
   subst e
   refine ACalls.of_body (c := cfg 35) zb Tryz.func219 (by rfl) (by rfl) (by rfl) (by rfl) ?_
   refine ⟨2, rfl, by decide, ?_⟩
   refine za (o := (F.un (stS s w _ _ _ p)).obj s) _ ho ?_
   refine fun bb hbb => ?_
   have hbf : bb = false := by
    cases bb with
    | true => cases hbb rfl
    | false => rfl
   subst hbf
   refine ⟨2, rfl, by decide, ?_⟩
   refine za (o := (F.un (stS s w _ _ _ p)).obj s) _ ho ?_
   refine ret ?_
   have := h _ _ _ hS
   rw [hne2] at this
   exact this
theorem zko {F : Store} {s p : Nat} {w : Wld} {L : List Ent} {o0 o1 o2 : AV} (hS : StandAt F s p w L o0 o1 o2) (hr : yq w.U) (hU : w.U.length <= 1000000) (hn : ∀ u ∈ w.U, u.pos.ok) (hLl : L.length <= w.U.length) (hL : ww w L) (q : Vc) (hq : q.ok) (r : Int) (hrr : 0 < r /\ r <= 262144) (R : AV -> Store -> Prop)
  (h : ∀ F' us, StandAt F' s p w L o0 o1 o2 -> Dv w q (r + 81920) us -> us.length <= 1000000 -> R (lst 10 zp us) (F'.un (stS s w o0 o1 o2 p))) : ACalls Tryz.prog 140 [ptr s, .agg (zy q), int r] (F.un (stS s w o0 o1 o2 p)) R := by
 have ho := ze (a := F) (Bh s w o0 o1 o2 p)
 refine ACalls.of_body (c := cfg 47) zb Tryz.func140 (by rfl) (by rfl) (by rfl) (by rfl) ?_
 refine ADraw.of_sched zb (by rfl) (by rfl) Vv (by rfl) ?_
 refine za (o := (F.un (stS s w _ _ _ p)).obj s) _ ho ?_
 refine zc (by omega) ?_
 refine ⟨gr hS.hc hS.hd (by omega) (Om hL hn) hq (r := r + 81920) ⟨by omega, by omega⟩ _ (fun F' N v ns g1 g2 g3 g4 g5 g6 => ⟨Tv, ?_⟩), Tv⟩
 have hS' : StandAt F' s p w L o0 o1 o2 := ⟨g1, g3, hS.h0, hS.h1, hS.h2⟩
 have ho' : ((F'.un N).un (stS s w o0 o1 o2 p)).obj s = some (.cells (stC w o0 o1 o2 p)) := ze (Bh s w o0 o1 o2 p)
 have g4' : zv (F'.un N) (stS s w o0 o1 o2 p) := disj_un.2 ⟨g3, g4⟩
 have hv : ∃ oa cap, v = .s (.slice oa ns.length cap) /\ ∀ i, i < ns.length -> ∃ b J, oa = some ⟨b, 0, none⟩ /\ ((F'.un N).un (stS s w o0 o1 o2 p)).obj b = some (.cells (ns.map aI ++ J)) := by
  rcases H1 g5 with ⟨rfl, rfl⟩ | ⟨b, cap, J, rfl, hob, _⟩
  ·exact ⟨none, 0, rfl, fun i hi => absurd hi (Nat.not_lt_zero i)⟩
  ·exact ⟨_, cap, rfl, fun i _ => ⟨b, J, rfl, qj g4' (ze hob)⟩⟩
 obtain ⟨oa, cap, rfl, hget⟩ := hv
 have hnl : ns.length <= w.U.length := by
  have := List.Nodup.length_le_of_subset (l₂ := L.map (·.1)) (g6.1.imp fun h => by omega) (fun id hid => by
   obtain ⟨e, he, h2, _⟩ := (g6.2 id).1 hid
   exact List.mem_map.2 ⟨e, he, h2⟩)
  rw [List.length_map] at this
  omega
 have hfin : ∀ us : List Unt, us.map (·.id) = ns -> (∀ u ∈ us, u ∈ w.U /\ u.inn = 0) -> R (lst 10 zp us) (F'.un (stS s w o0 o1 o2 p)) := fun us e1 e2 =>
  h F' us hS' (bh hr hL g6 e1 e2) (by
   have := congrArg List.length e1
   rw [List.length_map] at this
   omega)
 have hback := dg (S := stS s w o0 o1 o2 p) g2
 generalize (F'.un N).un (stS s w o0 o1 o2 p) = st1 at *
 refine AWp.loop (σ := Nat × AV × List Unt) ⟨fun x => [(0, .av (ptr s)), (6, .av x.2.1), (18, .av (.s (.slice oa ns.length cap))), (19, .av (int (ns.length : Nat))), (20, .av (int (x.1 : Nat)))], fun _ => [],
  fun x st' => x.1 <= ns.length /\ App 10 st1 x.2.1 (rws zp x.2.2) st' /\ x.2.2.map (·.id) = ns.take x.1 /\ ∀ u ∈ x.2.2, u ∈ w.U /\ u.inn = 0, fun x => ns.length - x.1⟩ zb ?_ ?_
 ·exact ⟨(0, _, []), Tv, ⟨Nat.zero_le _, App.start 10 st1, rfl, fun u hu => (by cases hu)⟩, ⟨Tq, Tq, Tq, Tq, Tq, Tv⟩, Tv⟩
 rintro ⟨i, v2, us⟩ st' ⟨hi, ha, hus, hin⟩
 dsimp only at hi ha hus hin ⊢
 refine bcd (fun h1 => ?_) (fun h1 => ?_)
 rotate_left
 ·have : i = ns.length := by omega
  subst this
  rw [List.take_length] at hus
  exact ⟨_, _, AV.le_trans ha.le (Tt), ha.has.trans hback, hfin us hus hin⟩
 have hlt : i < ns.length := by omega
 obtain ⟨b, J, rfl, hob⟩ := hget i hlt
 have hob' : st'.obj b = some (.cells (ns.map aI ++ J)) := by rw [ha.obj]; exact hob
 have hos : st'.obj s = some (.cells (stC w o0 o1 o2 p)) := by rw [ha.obj]; exact ho'
 refine ⟨i, rfl, hlt, ?_⟩
 refine za (o := st'.obj b) _ hob' ?_
 refine za (o := List.head? _) (int ns[i]) (by
  rw [List.head?_drop, show 0 + i * ti3.size = i from by show 0 + i * 1 = i; omega, List.getElem?_append_left (by simpa using hlt), List.getElem?_map, List.getElem?_eq_getElem hlt]; rfl) ?_
 refine za (o := st'.obj s) _ hos ?_
 refine Mb w.U (by omega) hr ns[i] _ _ (fun k hk z hz => ?_)
 obtain ⟨e, he, hid, _⟩ := (g6.2 ns[i]).1 (List.getElem_mem hlt)
 obtain ⟨u, hu, hu0, rfl⟩ := (hL e).1 he
 have hfound : ∃ hk2 : k < w.U.length, w.U[k].id = ns[i] := by
  obtain ⟨j, hj, rfl⟩ := List.getElem_of_mem hu
  have h5 : j >= k := Decidable.byContradiction fun hn2 => by
   have := hk.2.1 j hj (by omega)
   have h6 : (w.U[j]).id = ns[i] := hid
   omega
  have h7 : k < w.U.length := by omega
  refine ⟨h7, ?_⟩
  have h8 := hk.2.2 k h7 (Nat.le_refl _)
  have h6 : (w.U[j]).id = ns[i] := hid
  by_cases e : k = j
  ·subst e; exact h6
  ·have := Bi hr (show k < j by omega) hj
   omega
 obtain ⟨hk2, hk3⟩ := hfound
 refine za (o := st'.obj s) _ hos ?_
 refine ⟨k, rfl, za _ (zn hk2) ?_⟩
 refine ⟨by decide, ?_⟩
 have hul : us.length = i := by
  have := congrArg List.length hus
  rw [List.length_map, List.length_take] at this
  omega
 refine By (ie := ti38) (rows' := [zp w.U[k]]) ha ?_ ?_ ⟨?_, ?_⟩ (fun v3 st3 ha3 => ?_)
 ·rfl
 ·rfl
 ·simp only [zl, List.length_singleton, ti38]; omega
 ·simp only [zl, List.length_singleton]; omega
 refine zc (by omega) ?_
 have huk : w.U[k] = u := Ds hr (List.getElem_mem hk2) hu (by rw [hk3]; exact hid.symm)
 refine ⟨(i + 1, v3, us ++ [w.U[k]]), ?_, ⟨by dsimp only; omega, ?_, ?_, fun u2 hu2 => ?_⟩, ⟨Tq, Tq, Tq, Tq, Tq, Tv⟩, Tv⟩
 ·show ns.length - (i + 1) < ns.length - i
  omega
 ·dsimp only
  unfold rws at ha3 ⊢
  rw [List.map_append]
  exact ha3
 ·dsimp only
  rw [List.map_append, hus, List.take_succ_eq_append_getElem hlt]
  simp [hk3]
 ·rcases List.mem_append.1 hu2 with h9 | h9
  ·exact hin u2 h9
  ·simp at h9
   subst h9
   rw [huk]
   exact ⟨hu, hu0⟩
theorem zke {F : Store} {s p : Nat} {w : Wld} {L : List Ent} {o0 o1 o2 : AV} (hS : StandAt F s p w L o0 o1 o2) (hg : zi w.G) (hB : w.B.length <= 1000000000000) (hb : ∀ b ∈ w.B, yc b /\ onP w.G b) (hr : yq w.U) (hU : w.U.length <= 1000000) (hn : ∀ u ∈ w.U, u.pos.ok) (hLl : L.length <= w.U.length) (hL : ww w L)
  (id k : Int) (q : Vc) (hq : q.ok) (R : AV -> Store -> Prop)
  (h : ∀ z F' q0 q1 q2, (z = true ↔ qh w id k q) -> StandAt F' s p w L q0 q1 q2 -> R (V.bool z) (F'.un (stS s w q0 q1 q2 p))) : ACalls Tryz.prog 130 [ptr s, int id, int k, .agg (zy q)] (F.un (stS s w o0 o1 o2 p)) R := by
 have ho := ze (a := F) (Bh s w o0 o1 o2 p)
 have hk := Ax k
 have hc := Hz k
 refine ACalls.of_body (c := cfg 56) zb Tryz.func130 (by rfl) (by rfl) (by rfl) (by rfl) ?_
 refine xx k _ _ ?_
 refine ADraw.of_sched zb (by rfl) (by rfl) Vy (by rfl) ?_
 refine za (o := (F.un (stS s w _ _ _ p)).obj s) _ ho ?_
 refine ⟨zj4 hS hg hB hb (zm k) hc _ (fun a0 a1 a2 hS1 => ⟨?_, ?_⟩), Tv⟩
 ·have ho1 := ze (a := F) (Bh s w a0 a1 a2 p)
  repeat (first | exact Tv | refine ⟨rfl, ?_⟩ | refine ⟨za (o := (F.un (stS s w a0 a1 a2 p)).obj s) _ ho1 rfl, ?_⟩)
 refine ⟨ec w.G hg w.B (zm k) q hq (zk k) ⟨hk.1, by omega⟩ _ _ (fun z hz => ⟨Tv, ?_⟩), Tv⟩
 refine yf ?_
 refine zh (fun c1 => ?_) (fun c1 => ret (h false _ _ _ _ (by simp only [Bool.false_eq_true, false_iff]; exact fun hh => by have := hz.2 hh.1; rw [this] at c1; cases c1) hS1))
 have hfree := hz.1 c1
 refine zko hS1 hr hU hn hLl hL q hq (zk k) ⟨hk.1, by omega⟩ _ (fun F' us hS2 hus hul => ?_)
 have hci := f7 (id := id) hfree hus
 have no : ¬ qh w id k q -> R (V.bool false) (F'.un (stS s w a0 a1 a2 p)) := fun hh => h false _ _ _ _ (by simp only [Bool.false_eq_true, false_iff]; exact hh) hS2
 refine AWp.loop (σ := Nat) ⟨fun i => [(1, .av (int id)), (7, .bx 7 0), (9, .bx 9 0), (32, .av (lst 10 zp us)), (33, .av (int (us.length : Nat))), (34, .av (int (i : Nat)))], fun _ => [(7, zy q), (9, v8 k)],
  fun i st' => st' = F'.un (stS s w a0 a1 a2 p) /\ i <= us.length /\ ∀ j, (hj : j < us.length) -> j < i -> us[j].id ≠ id -> xq q (zk k) us[j].pos (zk us[j].kind) = true, fun i => us.length - i⟩ zb ?_ ?_
 ·refine ⟨0, Tv, ⟨rfl, Nat.zero_le _, fun j _ hj => by omega⟩, ⟨Tq, Tq, Tq, Tq, ?_, Tq, Tv⟩, ⟨rfl, rfl, Tv⟩⟩
  rw [<- zl (f := zp) us]; exact Tq
 rintro i st' ⟨rfl, hi, hall⟩
 refine bcd (fun h1 => ?_) (fun h1 => ?_)
 rotate_left
 ·refine ret (h true _ _ _ _ (by
   simp only [true_iff]
   refine hci.2 fun u hu hne => ?_
   obtain ⟨j, hj, rfl⟩ := List.getElem_of_mem hu
   exact hall j hj (by omega) hne) hS2)
 have hlt : i < us.length := by omega
 have hui := (hus us[i]).1 (List.getElem_mem hlt)
 have next : (us[i].id ≠ id -> xq q (zk k) us[i].pos (zk us[i].kind) = true) -> ∀ j, (hj : j < us.length) -> j < i + 1 -> us[j].id ≠ id -> xq q (zk k) us[j].pos (zk us[j].kind) = true := fun hh j hj hji => by
  by_cases e : j = i
  ·subst e; exact hh
  ·exact hall j hj (by omega)
 refine ⟨i, rfl, za _ (zn hlt) ?_⟩
 refine ADraw.of_sched zb (by rfl) (by rfl) Vx (by rfl) ?_
 refine xd (fun c2 => ?_) (fun c2 => ?_)
 ·refine ⟨xx us[i].kind _ _ ⟨(by repeat (first | exact Tv | refine ⟨rfl, ?_⟩ | refine ⟨optR (optR (optR (za _ (zd _ _ _) rfl))), ?_⟩)), ?_⟩, Tv⟩
  have hk2 := Ax us[i].kind
  refine ⟨iw q (zk k) us[i].pos (zk us[i].kind) hq (hn _ hui.1.1) ⟨hk.1, by omega⟩ ⟨hk2.1, by omega⟩ _ _ ⟨Tv, ?_⟩, Tv⟩
  refine yf ?_
  refine zh (fun c3 => ?_) (fun c3 => ?_)
  ·refine zc (by omega) ?_
   refine ⟨i + 1, ?_, ⟨rfl, by omega, next fun _ => c3⟩, ⟨Tq, Tq, Tq, Tq, Tq, Tq, Tv⟩, ⟨rfl, rfl, Tv⟩⟩
   show us.length - (i + 1) < us.length - i
   omega
  ·refine ret (no fun hh => ?_)
   have := hci.1 hh us[i] (List.getElem_mem hlt) c2
   rw [this] at c3; cases c3
 ·refine ⟨⟨(by repeat (first | exact Tv | refine ⟨rfl, ?_⟩ | refine ⟨optR (optR (optR (za _ (zd _ _ _) rfl))), ?_⟩)), ?_⟩, Tv⟩
  refine ⟨⟨Tv, ?_⟩, Tv⟩
  refine zc (by omega) ?_
  refine ⟨i + 1, ?_, ⟨rfl, by omega, next fun hne => absurd c2 hne⟩, ⟨Tq, Tq, Tq, Tq, Tq, Tq, Tv⟩, ⟨rfl, rfl, Tv⟩⟩
  show us.length - (i + 1) < us.length - i
  omega
theorem zrv {R : AV -> Store -> Prop} {b : Bool} {st : Store} (h : R (V.bool b) st) (hb : b = true) : R (V.bool true) st := by rw [hb] at h; exact h
theorem zt0 (w : Wld) (b : Bld) (p : Nat) (st : Store) (hp : st.obj p = some (.cells (yd w))) (R : AV -> Store -> Prop) (h : R (V.bool (decide (b.owner > w.players \/ b.id >= w.next))) st) :
  ACalls Tryz.prog 215 ([.agg (zz b)] ++ [ptr p]) st R := by
 refine ACalls.of_body (c := cfg 16) zb Tryz.func215 (by rfl) (by rfl) (by rfl) (by rfl) ?_
 refine za _ hp ?_
 refine bcd (fun c1 => ret (zrv h (decide_eq_true (.inl c1)))) (fun c1 => ?_)
 refine za _ hp ?_
 refine ret ?_
 have e : decide (b.owner > w.players \/ b.id >= w.next) = decide (b.id >= w.next) := by
  rw [Bool.eq_iff_iff, decide_eq_true_iff, decide_eq_true_iff]; omega
 rw [e] at h
 exact h
set_option maxRecDepth 10000 in
theorem ztz (w : Wld) (hw : w.fits) (st : Store) (R : AV -> Store -> Prop) (h : ∀ z : Bool, (z = true ↔ Cz w) -> R (V.bool z) st) : ACalls Tryz.prog 128 [.agg (yd w)] st R := by
 obtain ⟨hw1, hw2, hw3⟩ := hw
 refine ACalls.of_body (c := cfg 54 [1] []) zb Tryz.func128 (by rfl) (by rfl) (by rfl) (by rfl) ?_
 intro p hp
 have ho : (st.setObj p (.cells (yd w))).obj p = some (.cells (yd w)) := zd _ _ _
 have nof : ¬ Cz w -> ∃ r st', AV.le (V.bool false) r /\ (st.setObj p (.cells (yd w))).Has st' /\ R r st' := fun hn => vg (Tt) (Ay hp.1) (h false (by simp only [Bool.false_eq_true, false_iff]; exact hn))
 refine za _ ho ?_
 refine bcd (fun c1 => nof fun q => by have := q.1; omega) (fun c1 => ?_)
 refine za _ ho ?_
 refine bcd (fun c2 => nof fun q => by have := q.1; omega) (fun c2 => ?_)
 refine za _ ho ?_
 refine bcd (fun c3 => nof fun q => by have := q.1; omega) (fun c3 => ?_)
 refine za _ ho ?_
 refine bcd (fun c4 => nof fun q => by have := q.1; omega) (fun c4 => ?_)
 refine za _ ho ?_
 refine bcd (fun c5 => nof fun q => by have := q.1; omega) (fun c5 => ?_)
 refine za _ ho ?_
 refine bcd (fun c6 => nof fun q => by have := q.1; omega) (fun c6 => ?_)
 refine za _ ho ?_
 refine zss w.G hw1 _ _ (fun z hz => ?_)
 refine yf ?_
 refine zh (fun c7 => ?_) (fun c7 => nof fun q => by have := hz.2 q.2.1.1; rw [this] at c7; cases c7)
 have hg := hz.1 c7
 refine za _ ho ?_
 refine za _ ho ?_
 refine zwj w.G hg w.B hw2 _ _ (fun z hz => ?_)
 refine yf ?_
 refine zh (fun c8 => ?_) (fun c8 => nof fun q => by have := hz.2 q.2.1.2.1; rw [this] at c8; cases c8)
 have hb := hz.1 c8
 refine za _ ho ?_
 have hUl : ((rws zp w.U).length : Int) = (w.U.length : Int) := by rw [zl]
 refine bcd (fun c9 => nof fun q => by have := q.2.1.2.2; omega) (fun c9 => ?_)
 refine za _ ho ?_
 refine zwr w.B hw2 _ _ (fun b => decide (b.owner > w.players \/ b.id >= w.next)) _ (fun b hb R h => zt0 w b p _ ho R h) _ ?_
 refine vg (Tt) (Ay hp.1) (h _ ?_)
 rw [Bool.not_eq_true', List.any_eq_false]
 constructor
 ·intro hh
  refine ⟨by omega, ⟨hg, hb, by omega⟩, fun b hb2 => ?_⟩
  have := hh b hb2
  rw [decide_eq_true_iff] at this
  omega
 ·intro hh b hb2
  have := hh.2.2 b hb2
  rw [decide_eq_true_iff]
  omega
def Gt (cs : List (Int × Int)) (bs : List Nat) (clk : Nat) : AObj := .map (cs.map (xn int)) bs clk
def Lw (m : Nat) : AV := .s (.map (some m))
set_option maxHeartbeats 1000000 in
theorem zob (w : Wld) (hU : w.U.length <= 1000000) (hr : yq w.U) (st : Store) (R : AV -> Store -> Prop) (h : ∀ z : Bool, (z = true ↔ ∀ u ∈ w.U, u.inn ≠ 0 -> kg w u) -> R (V.bool z) st) : ACalls Tryz.prog 131 [.agg (yd w)] st R := by
 refine ACalls.of_body (c := cfg 85) zb Tryz.func131 (by rfl) (by rfl) (by rfl) (by rfl) ?_
 refine Mg rfl (fun m hm => ?_)
 have hhas : ∀ x, (st.setObj m x).Has st := fun x => Ay hm.1
 have nof : ∀ x, ¬ (∀ u ∈ w.U, u.inn ≠ 0 -> kg w u) -> ∃ r st', AV.le (V.bool false) r /\ (st.setObj m x).Has st' /\ R r st' := fun x hn => vg (Tt) (hhas x) (h false (by simp only [Bool.false_eq_true, false_iff]; exact hn))
 refine AWp.loop (σ := Nat × List (Int × Int) × List Nat × Nat) ⟨fun x => [(1, .bx 1 0), (3, .av (Lw m)), (11, .av (lst 10 zp w.U)), (12, .av (int (w.U.length : Nat))), (13, .av (int (x.1 : Nat)))], fun _ => [(1, yd w)],
  fun x st' => x.1 <= w.U.length /\ st' = st.setObj m (Gt x.2.1 x.2.2.1 x.2.2.2) /\ (∀ id, id ≠ 0 -> (kl x.2.1 id).getD 0 = ((yi (w.U.take x.1) id).length : Int)) /\ Nz w x.1, fun x => w.U.length - x.1⟩ zb ?_ ?_
 ·refine ⟨(0, [], [], 0), Tv, ⟨Nat.zero_le _, rfl, fun id _ => rfl, fun j _ hj => by omega, fun x _ _ => (Pa _).1⟩, ⟨Tq, Tq, Tq, ?_, Tq, Tv⟩, ⟨rfl, Tv⟩⟩
  rw [<- zl (f := zp) w.U]; exact Tq
 rintro ⟨i, cs, bs, clk⟩ st' ⟨hi, rfl, hcnt, hup⟩
 dsimp only at hi hcnt hup ⊢
 refine bcd (fun h1 => ?_) (fun h1 => ?_)
 rotate_left
 ·have : i = w.U.length := by omega
  subst this
  exact vg (Tt) (hhas _) (h true (by simp only [true_iff]; exact zoc hup))
 have hlt : i < w.U.length := by omega
 have hui := List.getElem_mem hlt
 refine ⟨i, rfl, za _ (zn hlt) ?_⟩
 refine yj (fun c1 => ?_) (fun c1 => ?_)
 ·refine zc (by omega) ?_
  refine ⟨(i + 1, cs, bs, clk), ?_, ⟨by dsimp only; omega, rfl, fun id hid => ?_, fun j hj hji hne => ?_, fun x hx hx0 => ?_⟩, ⟨Tq, Tq, Tq, Tq, Tq, Tv⟩, ⟨rfl, Tv⟩⟩
  ·show w.U.length - (i + 1) < w.U.length - i
   omega
  ·dsimp only
   rw [hcnt id hid, H3 hlt, if_neg (by rw [c1]; omega)]; omega
  ·by_cases e : j = i
   ·subst e; exact absurd c1 hne
   ·exact hup.1 j hj (by dsimp only at hji; omega) hne
  ·dsimp only
   rw [H3 hlt, if_neg (by rw [c1]; omega)]
   have := hup.2 x hx hx0
   omega
 refine Mb w.U (by omega) hr w.U[i].inn _ _ (fun k hk z hz => ?_)
 have nou : ∀ x, ¬ kg w w.U[i] -> ∃ r st', AV.le (V.bool false) r /\ (st.setObj m x).Has st' /\ R r st' := fun x hn => nof x fun hh => hn (hh _ hui c1)
 have found : kg w w.U[i] -> z = true := fun ⟨x, hx, e, _⟩ => by
  obtain ⟨j, hj, rfl⟩ := List.getElem_of_mem hx
  refine hz.2 ?_
  have h5 : j >= k := Decidable.byContradiction fun hn2 => by
   have := hk.2.1 j hj (by omega)
   omega
  have h7 : k < w.U.length := by omega
  refine ⟨h7, ?_⟩
  have h8 := hk.2.2 k h7 (Nat.le_refl _)
  by_cases e2 : k = j
  ·subst e2; exact e
  ·have := Bi hr (show k < j by omega) hj
   omega
 refine yf ?_
 refine zh (fun c2 => ?_) (fun c2 => nou _ fun hh => by rw [found hh] at c2; cases c2)
 obtain ⟨hkl, hkid⟩ := hz.1 c2
 have uniq : kg w w.U[i] -> (w.U[k].inn = 0 /\ w.U[k].owner = w.U[i].owner) /\ ((yi w.U w.U[i].inn).length : Int) <= x5 w.U[k].kind := fun ⟨x, hx, e, e2, e3, _⟩ => by
  have := Ds hr hx (List.getElem_mem hkl) (by rw [e, hkid])
  subst this
  exact ⟨e2, e3⟩
 refine xx w.U[i].kind _ _ ?_
 refine bcd (fun c3 => nou _ fun ⟨x, _, _, _, _, e, _⟩ => by omega) (fun c3 => ?_)
 have hroom : x5 w.U[i].kind = 0 := by have := Pa w.U[i].kind; omega
 refine yf ?_
 refine zh (fun c4 => ?_) (fun c4 => nou _ fun ⟨x, _, _, _, _, _, e, _⟩ => by rw [e] at c4; cases c4)
 have hpos : w.U[i].pos = (0, 0) := by
  have : (w.U[i].pos.1 == 0 && (w.U[i].pos.2 == 0 && true)) = true := c4
  simp at this
  exact Prod.ext this.1 this.2
 refine xd (fun c5 => nou _ fun ⟨x, _, _, _, _, _, _, e, _⟩ => c5 e) (fun c5 => ?_)
 refine xd (fun c6 => nou _ fun ⟨x, _, _, _, _, _, _, _, e⟩ => c6 e) (fun c6 => ?_)
 refine ⟨k, rfl, za _ (zn hkl) ?_⟩
 have hmo : (st.setObj m (Gt cs bs clk)).obj m = some (Gt cs bs clk) := zd _ _ _
 refine Ah rfl (it := ti319) (ie := ti3) (ik := ti3) rfl rfl rfl rfl hmo rfl (qA w.U[k].id) (fun e he => ?_) ?_
 ·obtain ⟨e, _, rfl⟩ := List.mem_map.1 he
  rfl
 rw [O3]
 have hz0 : w.U[k].id ≠ 0 := by rw [hkid]; exact c1
 have hcv : (Option.map int (kl cs w.U[k].id)).getD (wi ti3) = int ((yi (w.U.take i) w.U[k].id).length : Int) := by
  rw [<- hcnt _ hz0]
  cases kl cs w.U[k].id <;> rfl
 rw [hcv]
 have hcl : (yi (w.U.take i) w.U[k].id).length <= 1000000 := by
  have h1 := Pc (l := w.U) i w.U[k].id
  have h2 : (yi w.U w.U[k].id).length <= w.U.length := by unfold yi; rw [List.length_map]; exact List.length_filter_le _ _
  omega
 refine zc (by omega) ?_
 refine Ff (.inl rfl) rfl (it := ti319) (ik := ti3) rfl rfl rfl (es := cs.map (xn int)) (bs := bs) (clk := clk) (k := int w.U[k].id) (v := int (((yi (w.U.take i) w.U[k].id).length : Int) + 1)) hmo rfl rfl (qA w.U[k].id) (fun e he => ?_) (fun e1 he hq => ?_) ?_
 ·obtain ⟨e, _, rfl⟩ := List.mem_map.1 he
  rfl
 ·obtain ⟨g1, _, rfl⟩ := List.mem_map.1 he
  have : w.U[k].id = g1.1 := by simpa [qA, xn, int] using hq
  show int g1.1 = _
  rw [this]
 obtain ⟨bs', clk', hput⟩ := cf int cs bs clk w.U[k].id (((yi (w.U.take i) w.U[k].id).length : Int) + 1)
 have hput : j3 (cs.map (xn int)) bs clk (qA w.U[k].id) (int w.U[k].id) (int (((yi (w.U.take i) w.U[k].id).length : Int) + 1)) = Gt (jf cs w.U[k].id (((yi (w.U.take i) w.U[k].id).length : Int) + 1)) bs' clk' := hput
 rw [hput, yx]
 have hmo2 : (st.setObj m (Gt (jf cs w.U[k].id (((yi (w.U.take i) w.U[k].id).length : Int) + 1)) bs' clk')).obj m = some (Gt (jf cs w.U[k].id (((yi (w.U.take i) w.U[k].id).length : Int) + 1)) bs' clk') := zd _ _ _
 have hlook : Bl false (wi ti3) (((jf cs w.U[k].id (((yi (w.U.take i) w.U[k].id).length : Int) + 1)).map (xn int)).find? (qA w.U[k].id)) = int (((yi (w.U.take i) w.U[k].id).length : Int) + 1) := by
  rw [O3, K8, if_pos rfl]; rfl
 have hsucc := H3 hlt w.U[k].id
 rw [if_pos hkid.symm] at hsucc
 have hcnt2 : ∀ id, id ≠ 0 -> (kl (jf cs w.U[k].id (((yi (w.U.take i) w.U[k].id).length : Int) + 1)) id).getD 0 = ((yi (w.U.take (i + 1)) id).length : Int) := fun id hid => by
  rw [K8]
  by_cases e : id = w.U[k].id
  ·rw [if_pos e, e, hsucc]; rfl
  ·rw [if_neg e, hcnt id hid, H3 hlt, if_neg (by rw [<- hkid]; exact Ne.symm e)]; omega
 generalize jf cs w.U[k].id (((yi (w.U.take i) w.U[k].id).length : Int) + 1) = cs2 at *
 have over : x5 w.U[k].kind < ((yi (w.U.take i) w.U[k].id).length : Int) + 1 -> ¬ kg w w.U[i] := fun hh hp => by
  have h2 := (uniq hp).2
  have h3 := Pc (l := w.U) (i + 1) w.U[k].id
  rw [<- hkid] at h2
  omega
 have good : w.U[k].inn = 0 -> w.U[k].owner = w.U[i].owner -> ((yi (w.U.take i) w.U[k].id).length : Int) + 1 <= x5 w.U[k].kind -> Nz w (i + 1) := fun e1 e2 e3 => by
  refine ⟨fun j hj hji hne => ?_, fun x hx hx0 => ?_⟩
  ·by_cases e : j = i
   ·subst e
    exact ⟨w.U[k], List.getElem_mem hkl, hkid, ⟨e1, e2⟩, hroom, hpos, c5, c6⟩
   ·exact hup.1 j hj (by omega) hne
  ·by_cases e : x.id = w.U[k].id
   ·have := Ds hr hx (List.getElem_mem hkl) e
    subst this
    omega
   ·rw [H3 hlt, if_neg (by rw [<- hkid]; exact Ne.symm e)]
    have := hup.2 x hx hx0
    omega
 refine ADraw.of_sched zb (by rfl) (by rfl) zm4 (by rfl) ?_
 refine xd (fun c7 => ?_) (fun c7 => ?_)
 ·refine ⟨⟨(by repeat (first | exact Tv | refine ⟨rfl, ?_⟩ | refine ⟨optR (optR (optR (za _ (zd _ _ _) rfl))), ?_⟩)), ⟨⟨(by repeat (first | exact Tv | refine ⟨rfl, ?_⟩ | refine ⟨optR (optR (optR (za _ (zd _ _ _) rfl))), ?_⟩)), nou _ (fun hh => c7 (uniq hh).1.1)⟩, Tv⟩⟩, ⟨⟨(by repeat (first | exact Tv | refine ⟨rfl, ?_⟩ | refine ⟨optR (optR (optR (za _ (zd _ _ _) rfl))), ?_⟩)), ⟨⟨(by repeat (first | exact Tv | refine ⟨rfl, ?_⟩ | refine ⟨optR (optR (optR (za _ (zd _ _ _) rfl))), ?_⟩)), nou _ (fun hh => c7 (uniq hh).1.1)⟩, Tv⟩⟩, Tv⟩⟩
 refine xd (fun c8 => ?_) (fun c8 => ?_)
 ·refine ⟨⟨(by repeat (first | exact Tv | refine ⟨rfl, ?_⟩ | refine ⟨optR (optR (optR (za _ (zd _ _ _) rfl))), ?_⟩)), ⟨⟨(by repeat (first | exact Tv | refine ⟨rfl, ?_⟩ | refine ⟨optR (optR (optR (za _ (zd _ _ _) rfl))), ?_⟩)), nou _ (fun hh => c8 (uniq hh).1.2)⟩, Tv⟩⟩, ⟨⟨(by repeat (first | exact Tv | refine ⟨rfl, ?_⟩ | refine ⟨optR (optR (optR (za _ (zd _ _ _) rfl))), ?_⟩)), ⟨⟨(by repeat (first | exact Tv | refine ⟨rfl, ?_⟩ | refine ⟨optR (optR (optR (za _ (zd _ _ _) rfl))), ?_⟩)), nou _ (fun hh => c8 (uniq hh).1.2)⟩, Tv⟩⟩, Tv⟩⟩
 refine ⟨?_, ?_, Tv⟩
 ·refine Ah rfl (it := ti319) (ie := ti3) (ik := ti3) rfl rfl rfl rfl hmo2 rfl (qA w.U[k].id) (fun e he => by obtain ⟨e, _, rfl⟩ := List.mem_map.1 he; rfl) ?_
  rw [hlook]
  refine ⟨(by repeat (first | exact Tv | refine ⟨rfl, ?_⟩ | refine ⟨optR (optR (optR (za _ (zd _ _ _) rfl))), ?_⟩)), ?_⟩
  refine ⟨xx w.U[k].kind _ _ ⟨(by repeat (first | exact Tv | refine ⟨rfl, ?_⟩ | refine ⟨optR (optR (optR (za _ (zd _ _ _) rfl))), ?_⟩)), ?_⟩, Tv⟩
  refine bcd (fun c9 => nou _ (over (by omega))) (fun c9 => ?_)
  refine zc (by omega) ?_
  refine ⟨(i + 1, cs2, bs', clk'), ?_, ⟨by dsimp only; omega, rfl, hcnt2, good c7 c8 (by omega)⟩, ⟨Tq, Tq, Tq, Tq, Tq, Tv⟩, ⟨rfl, Tv⟩⟩
  show w.U.length - (i + 1) < w.U.length - i
  omega
 ·refine xx w.U[k].kind _ _ ⟨(by repeat (first | exact Tv | refine ⟨rfl, ?_⟩ | refine ⟨optR (optR (optR (za _ (zd _ _ _) rfl))), ?_⟩)), ?_⟩
  refine ⟨?_, Tv⟩
  refine Ah rfl (it := ti319) (ie := ti3) (ik := ti3) rfl rfl rfl rfl hmo2 rfl (qA w.U[k].id) (fun e he => by obtain ⟨e, _, rfl⟩ := List.mem_map.1 he; rfl) ?_
  rw [hlook]
  refine ⟨(by repeat (first | exact Tv | refine ⟨rfl, ?_⟩ | refine ⟨optR (optR (optR (za _ (zd _ _ _) rfl))), ?_⟩)), ?_⟩
  refine bcd (fun c9 => nou _ (over (by omega))) (fun c9 => ?_)
  refine zc (by omega) ?_
  refine ⟨(i + 1, cs2, bs', clk'), ?_, ⟨by dsimp only; omega, rfl, hcnt2, good c7 c8 (by omega)⟩, ⟨Tq, Tq, Tq, Tq, Tq, Tv⟩, ⟨rfl, Tv⟩⟩
  show w.U.length - (i + 1) < w.U.length - i
  omega
def tkO (cs : List (Int × Bool)) (bs : List Nat) (clk : Nat) : AObj := .map (cs.map (xn V.bool)) bs clk
set_option maxHeartbeats 1000000 in
theorem zrf (w : Wld) (hw : w.fits) (hn : ∀ u ∈ w.U, u.pos.ok) : ACalls Tryz.prog 72 [.agg (yd w)] Store.empty fun r _ => ∃ z, r = V.bool z /\ (z = true ↔ yg w) := by
 have no : ¬ yg w -> ∃ z, V.bool false = V.bool z /\ (z = true ↔ yg w) := fun hn => ⟨false, rfl, by grind⟩
 refine ACalls.of_awp (c := cfg 87) zb Tryz.func72 (by rfl) (by rfl) (by rfl) (by rfl) ?_
 refine AWp.seq (AWp.of_vc zb ?_)
 refine AWp.seq (AWp.of_vc zb ?_)
 refine ztz w hw _ _ (fun z hz => ?_)
 refine yf ?_
 refine zh (fun c1 => ?_) (fun c1 => ret (no fun q => by have := hz.2 q.1.1; rw [this] at c1; cases c1))
 have hh := hz.1 c1
 have hg := hh.2.1.1
 have hbl := hh.2.1.2.1
 have hBl : w.B.length <= 256 := hbl.1
 have hU : w.U.length <= 4096 := hh.2.1.2.2
 have hbb : ∀ b ∈ w.B, yc b /\ onP w.G b := fun b hb => ⟨(hbl.2.2.1 b hb).1, (hbl.2.2.1 b hb).2.1⟩
 refine AWp.seq (AWp.of_vc zb ?_)
 refine Mg rfl (fun m hm => ?_)
 refine AWp.meetA (σ := List (Int × Bool) × List Nat × Nat) ⟨fun _ => [(1, .bx 1 0), (3, .av (Lw m))], fun _ => [(1, yd w)], fun x st' => st' = Store.empty.setObj m (tkO x.1 x.2.1 x.2.2) /\ ∀ id, (kl x.1 id).getD false = true ↔ ∃ b ∈ w.B, b.id = id⟩ ?_ ?_
 ·refine AWp.of_vc zb ?_
  refine AWp.loop (σ := Nat × List (Int × Bool) × List Nat × Nat) ⟨fun x => [(1, .bx 1 0), (3, .av (Lw m)), (16, .av (lst 6 zz w.B)), (17, .av (int (w.B.length : Nat))), (18, .av (int (x.1 : Nat)))], fun _ => [(1, yd w)],
   fun x st' => x.1 <= w.B.length /\ st' = Store.empty.setObj m (tkO x.2.1 x.2.2.1 x.2.2.2) /\ ∀ id, (kl x.2.1 id).getD false = true ↔ ∃ b ∈ w.B.take x.1, b.id = id, fun x => w.B.length - x.1⟩ zb ?_ ?_
  ·refine ⟨(0, [], [], 0), Tv, ⟨Nat.zero_le _, rfl, fun id => ⟨fun h => (by cases h), fun ⟨b, hb, _⟩ => (by simp at hb)⟩⟩, ⟨Tq, Tq, Tq, ?_, Tq, Tv⟩, ⟨rfl, Tv⟩⟩
   rw [<- zl (f := zz) w.B]; exact Tq
  rintro ⟨i, cs, bs, clk⟩ st' ⟨hi, rfl, htk⟩
  dsimp only at hi htk ⊢
  refine bcd (fun h1 => ?_) (fun h1 => ?_)
  rotate_left
  ·have : i = w.B.length := by omega
   subst this
   rw [List.take_length] at htk
   exact ⟨(cs, bs, clk), ⟨rfl, htk⟩, ⟨Tq, Tq, Tv⟩, ⟨rfl, Tv⟩⟩
  have hlt : i < w.B.length := by omega
  refine ⟨i, rfl, za _ (zn hlt) ?_⟩
  have hmo : (Store.empty.setObj m (tkO cs bs clk)).obj m = some (tkO cs bs clk) := zd _ _ _
  refine Ff (.inl rfl) rfl (it := ti215) (ik := ti3) rfl rfl rfl (es := cs.map (xn V.bool)) (bs := bs) (clk := clk) (k := int w.B[i].id) (v := V.bool true) hmo rfl rfl (qA w.B[i].id) (fun e he => ?_) (fun e1 he hq => ?_) ?_
  ·obtain ⟨e, _, rfl⟩ := List.mem_map.1 he
   rfl
  ·obtain ⟨g1, _, rfl⟩ := List.mem_map.1 he
   grind[qA,xn,int]
  obtain ⟨bs', clk', hput⟩ := cf V.bool cs bs clk w.B[i].id true
  have hput : j3 (cs.map (xn V.bool)) bs clk (qA w.B[i].id) (int w.B[i].id) (V.bool true) = tkO (jf cs w.B[i].id true) bs' clk' := hput
  rw [hput, yx]
  refine zc (by omega) ?_
  refine ⟨(i + 1, jf cs w.B[i].id true, bs', clk'), ?_, ⟨by dsimp only; omega, rfl, fun id => ?_⟩, ⟨Tq, Tq, Tq, Tq, Tq, Tv⟩, ⟨rfl, Tv⟩⟩
  ·grind
  ·dsimp only
   rw [K8, List.take_succ_eq_append_getElem hlt]
   grind
 rintro ⟨cs, bs, clk⟩ st' ⟨rfl, htk⟩
 dsimp only at htk ⊢
 have hmo : (Store.empty.setObj m (tkO cs bs clk)).obj m = some (tkO cs bs clk) := zd _ _ _
 have hhas : (Store.empty.setObj m (tkO cs bs clk)).Has Store.empty := Ay rfl
 refine AWp.meetA (σ := Unit) ⟨fun _ => [(1, .bx 1 0)], fun _ => [(1, yd w)], fun _ st' => st' = Store.empty.setObj m (tkO cs bs clk) /\ Cd w w.U.length⟩ ?_ ?_
 ·refine AWp.of_vc zb ?_
  refine AWp.loop (σ := Nat) ⟨fun i => [(1, .bx 1 0), (3, .av (Lw m)), (27, .av (lst 10 zp w.U)), (28, .av (int (w.U.length : Nat))), (29, .av (int (i : Nat)))], fun _ => [(1, yd w)],
   fun i st' => i <= w.U.length /\ st' = Store.empty.setObj m (tkO cs bs clk) /\ Cd w i, fun i => w.U.length - i⟩ zb ?_ ?_
  ·refine ⟨0, Tv, ⟨Nat.zero_le _, rfl, fun j _ hj => by omega⟩, ⟨Tq, Tq, Tq, ?_, Tq, Tv⟩, ⟨rfl, Tv⟩⟩
   rw [<- zl (f := zp) w.U]; exact Tq
  rintro i st' ⟨hi, rfl, hup⟩
  refine bcd (fun h1 => ?_) (fun h1 => ?_)
  rotate_left
  ·have : i = w.U.length := by omega
   subst this
   exact ⟨(), ⟨rfl, hup⟩, ⟨Tq, Tv⟩, ⟨rfl, Tv⟩⟩
  have hlt : i < w.U.length := by omega
  have nou : ¬ ((xt w w.U[i] /\ ∀ b ∈ w.B, b.id ≠ w.U[i].id) /\ (0 < i -> (w.U[i - 1]'(by omega)).id < w.U[i].id)) -> ∃ z, V.bool false = V.bool z /\ (z = true ↔ yg w) := fun hq => no fun q => hq (Sb q.1.2 (i + 1) i hlt (by omega))
  refine ⟨i, rfl, za _ (zn hlt) ?_⟩
  refine ADraw.of_sched zb (by rfl) (by rfl) zlb (by rfl) ?_
  refine ⟨zxr w w.U[i] hg _ _ (fun z hz => ⟨Tv, ?_⟩), Tv⟩
  refine yf ?_
  refine zh (fun c2 => ?_) (fun c2 => ⟨⟨Tv, ret (nou fun q => by grind)⟩, Tv⟩)
  have hunt := hz.1 c2
  refine ⟨Ah rfl (it := ti215) (ie := ti4) (ik := ti3) rfl rfl rfl rfl hmo rfl (qA w.U[i].id) (fun e he => by obtain ⟨e, _, rfl⟩ := List.mem_map.1 he; rfl) ?_, Tv⟩
  rw [O3]
  have hcv : (Option.map V.bool (kl cs w.U[i].id)).getD (wi ti4) = V.bool ((kl cs w.U[i].id).getD false) := by
   cases kl cs w.U[i].id <;> rfl
  rw [hcv]
  have htki := htk w.U[i].id
  generalize (kl cs w.U[i].id).getD false = tk at htki
  refine ⟨Tv, ?_⟩
  refine zh (fun c3 => ret (nou fun q => by grind)) (fun c3 => ?_)
  have hnb : ∀ b ∈ w.B, b.id ≠ w.U[i].id := fun b hb e => by grind
  have next : (0 < i -> (w.U[i - 1]'(by omega)).id < w.U[i].id) -> Cd w (i + 1) := fun hq j hj hji => by
   by_cases e : j = i
   ·grind
   ·exact hup j hj (by omega)
  have fin : Cd w (i + 1) -> ye ((i : Int) + 1) /\ (i + 1 <= w.U.length /\ Store.empty.setObj m (tkO cs bs clk) = Store.empty.setObj m (tkO cs bs clk) /\ Cd w (i + 1)) := fun hq => ⟨⟨by omega, by omega⟩, by omega, rfl, hq⟩
  refine bcd (fun c4 => ?_) (fun c4 => ?_)
  ·have hi0 : 0 < i := by omega
   refine zc (by omega) ?_
   refine ⟨i - 1, by omega, za _ (zn (show i - 1 < w.U.length by omega)) ?_⟩
   refine bcd (fun c5 => ret (nou fun q => by have := q.2 hi0; omega)) (fun c5 => ?_)
   obtain ⟨f1, f2⟩ := fin (next fun _ => by omega)
   refine ⟨f1, ?_⟩
   refine ⟨i + 1, ?_, f2, ⟨Tq, Tq, Tq, Tq, Tq, Tv⟩, ⟨rfl, Tv⟩⟩
   grind
  ·obtain ⟨f1, f2⟩ := fin (next fun h0 => absurd h0 (by omega))
   refine ⟨f1, ?_⟩
   refine ⟨i + 1, ?_, f2, ⟨Tq, Tq, Tq, Tq, Tq, Tv⟩, ⟨rfl, Tv⟩⟩
   grind
 rintro _ _ ⟨rfl, hall⟩
 have hok := Sc hall
 refine AWp.leS hhas.toLe ?_
 refine AWp.seq (AWp.of_vc zb ?_)
 refine zp3 w (by omega) hn _ (fun F s p L o0 o1 o2 hS hLl hL => ?_)
 have hLm := hL hok.1
 refine AWp.meetA (σ := Unit) ⟨fun _ => [(1, .bx 1 0)], fun _ => [(1, yd w)], fun _ st' => ∀ u ∈ w.U, u.inn = 0 -> qh w u.id u.kind u.pos⟩ ?_ ?_
 ·refine AWp.of_vc zb ?_
  refine AWp.loop (σ := Nat × Store × AV × AV × AV) ⟨fun x => [(1, .bx 1 0), (8, .av (ptr s)), (64, .av (lst 10 zp w.U)), (65, .av (int (w.U.length : Nat))), (66, .av (int (x.1 : Nat)))], fun _ => [(1, yd w)],
   fun x st' => x.1 <= w.U.length /\ st' = x.2.1.un (stS s w x.2.2.1 x.2.2.2.1 x.2.2.2.2 p) /\ StandAt x.2.1 s p w L x.2.2.1 x.2.2.2.1 x.2.2.2.2 /\ ∀ j, (hj : j < w.U.length) -> j < x.1 -> w.U[j].inn = 0 -> qh w w.U[j].id w.U[j].kind w.U[j].pos, fun x => w.U.length - x.1⟩ zb ?_ ?_
  ·refine ⟨(0, F, o0, o1, o2), Tv, ⟨Nat.zero_le _, rfl, hS, fun j _ hj => by omega⟩, ⟨Tq, Tq, Tq, ?_, Tq, Tv⟩, ⟨rfl, Tv⟩⟩
   rw [<- zl (f := zp) w.U]; exact Tq
  rintro ⟨i, F1, a0, a1, a2⟩ st' ⟨hi, rfl, hS1, hcl⟩
  dsimp only at hi hS1 hcl ⊢
  refine bcd (fun h1 => ?_) (fun h1 => ?_)
  rotate_left
  ·have : i = w.U.length := by omega
   subst this
   refine ⟨(), fun u hu h0 => ?_, ⟨Tq, Tv⟩, ⟨rfl, Tv⟩⟩
   obtain ⟨j, hj, rfl⟩ := List.getElem_of_mem hu
   exact hcl j hj hj h0
  have hlt : i < w.U.length := by omega
  have hui := List.getElem_mem hlt
  have next : (w.U[i].inn = 0 -> qh w w.U[i].id w.U[i].kind w.U[i].pos) -> ∀ j, (hj : j < w.U.length) -> j < i + 1 -> w.U[j].inn = 0 -> qh w w.U[j].id w.U[j].kind w.U[j].pos := fun hq j hj hji => by grind
  refine ⟨i, rfl, za _ (zn hlt) ?_⟩
  refine yj (fun c2 => ?_) (fun c2 => ?_)
  ·refine zke hS1 hg (by omega) hbb hok.1 (by omega) hn hLl hLm w.U[i].id w.U[i].kind w.U[i].pos (hn _ hui) _ (fun z F2 b0 b1 b2 hz hS2 => ?_)
   refine yf ?_
   refine zh (fun c3 => ?_) (fun c3 => ret (no fun q => by have := hz.2 (q.2.1 _ hui c2); rw [this] at c3; cases c3))
   refine zc (by omega) ?_
   refine ⟨(i + 1, F2, b0, b1, b2), ?_, ⟨by dsimp only; omega, rfl, hS2, next fun _ => hz.1 c3⟩, ⟨Tq, Tq, Tq, Tq, Tq, Tv⟩, ⟨rfl, Tv⟩⟩
   grind
  ·refine zc (by omega) ?_
   refine ⟨(i + 1, F1, a0, a1, a2), ?_, ⟨by dsimp only; omega, rfl, hS1, next fun h0 => absurd h0 c2⟩, ⟨Tq, Tq, Tq, Tq, Tq, Tv⟩, ⟨rfl, Tv⟩⟩
   grind
 rintro _ st' hclear
 refine AWp.of_vc zb ?_
 refine zob w (by omega) hok.1 _ _ (fun z hz => ?_)
 refine ret ⟨z, rfl, ?_⟩
 rw [hz]
 exact ⟨fun hq => ⟨⟨hh, hok⟩, hclear, hq⟩, fun hq => hq.2.2⟩
/-- What tells one thing, in no store, tells it in any. -/
theorem O4 {f : FuncId} {xs : List AV} {Q : AV -> Prop} (key : ACalls Tryz.prog f xs Store.empty fun r _ => Q r) (st : Store) (R : AV -> Store -> Prop) (h : ∀ r, Q r -> R r st) : ACalls Tryz.prog f xs st R := by
 rw [<- C8 st]
 refine ACalls.post (ACalls.frame (R' := fun r st' => Q r /\ ∃ a', st' = a'.un st) (fun b hb => ?_) key fun r a' h1 _ => ⟨h1, a', rfl⟩) (Store.Le.refl _) fun r st' ⟨h1, a', h2⟩ => ⟨r, st, Tt, h2 ▸ nj, ?_⟩
 ·exact (hb.elim (fun h => h rfl) (fun h => h rfl) : False).elim
 ·exact h r h1
theorem zrc (w : Wld) (hw : w.fits) (hn : ∀ u ∈ w.U, u.pos.ok) (st : Store) (R : AV -> Store -> Prop) (h : ∀ z : Bool, (z = true ↔ yg w) -> R (V.bool z) st) : ACalls Tryz.prog 72 [.agg (yd w)] st R :=
 O4 (zrf w hw hn) st R fun r ⟨z, e, hz⟩ => e ▸ h z hz
theorem zoh (w : Wld) (hU : w.U.length <= 1000000) (id : Int) (st : Store) (R : AV -> Store -> Prop) (h : R (int (w8 (w.U.findIdx? fun u => decide (u.id = id)))) st) : ACalls Tryz.prog 25 [.agg (yd w), int id] st R := by
 refine ACalls.of_body (c := cfg 22) zb Tryz.func25 (by rfl) (by rfl) (by rfl) (by rfl) ?_
 refine AWp.loop (σ := Nat) ⟨fun i => [(1, .av (int id)), (2, .bx 2 0), (5, .av (int (i : Nat)))], fun _ => [(2, yd w)],
  fun i st' => i <= w.U.length /\ st' = st /\ ∀ j, (hj : j < w.U.length) -> j < i -> w.U[j].id ≠ id, fun i => w.U.length - i⟩ zb ?_ ?_
 ·exact ⟨0, Tv, ⟨Nat.zero_le _, rfl, fun j _ hj => by omega⟩, ⟨Tq, Tq, Tq, Tv⟩, ⟨rfl, Tv⟩⟩
 rintro i st' ⟨hi, rfl, hall⟩
 refine zh (fun h1 => ?_) (fun h1 => ?_)
 rotate_left
 ·have : i = w.U.length := k8 h1 hi
  subst this
  have e : (w.U.findIdx? fun u => decide (u.id = id)) = none := by
   rw [List.findIdx?_eq_none_iff]
   intro x hx
   obtain ⟨j, hj, rfl⟩ := List.getElem_of_mem hx
   exact decide_eq_false (hall j hj hj)
  rw [e] at h
  exact ret h
 have hlt := kh h1
 refine ⟨i, rfl, za _ (zn hlt) ?_⟩
 refine yj (fun c1 => ?_) (fun c1 => ?_)
 ·have e : (w.U.findIdx? fun u => decide (u.id = id)) = some i := by
   rw [List.findIdx?_eq_some_iff_getElem]
   exact ⟨hlt, decide_eq_true c1, fun j hj => by simpa using hall j (by omega) hj⟩
  rw [e] at h
  exact ret h
 ·refine zc (by omega) ?_
  refine ⟨i + 1, ?_, ⟨by omega, rfl, fun j hj hj2 => ?_⟩, ⟨Tq, Tq, Tq, Tv⟩, ⟨rfl, Tv⟩⟩
  ·show w.U.length - (i + 1) < w.U.length - i
   omega
  ·by_cases e : j = i
   ·subst e; exact c1
   ·exact hall j hj (by omega)
theorem zr8 {l : List Unt} {i : Nat} (hi : i < l.length) (id : Int) : yi (l.take (i + 1)) id = yi (l.take i) id ++ (if l[i].inn = id then [l[i].id] else []) := by
 unfold yi
 rw [List.take_succ_eq_append_getElem hi, List.filter_append, List.map_append]
 by_cases h : l[i].inn = id <;> simp [h]
theorem znm (w : Wld) (hU : w.U.length <= 1000000) (id : Int) (st : Store) (R : AV -> Store -> Prop) (h : R (wc (yi w.U id)) st) : ACalls Tryz.prog 34 [.agg (yd w), int id] st R := by
 refine ACalls.of_body (c := cfg 32) zb Tryz.func34 (by rfl) (by rfl) (by rfl) (by rfl) ?_
 refine AWp.loop (σ := Nat × AV) ⟨fun x => [(1, .av (int id)), (2, .bx 2 0), (5, .av x.2), (6, .av (int (x.1 : Nat)))], fun _ => [(2, yd w)],
  fun x st' => x.1 <= w.U.length /\ App 1 st x.2 (rws yn (yi (w.U.take x.1) id)) st', fun x => w.U.length - x.1⟩ zb ?_ ?_
 ·exact ⟨(0, _), Tv, ⟨Nat.zero_le _, App.start 1 st⟩, ⟨Tq, Tq, Tq, Tq, Tv⟩, ⟨rfl, Tv⟩⟩
 rintro ⟨i, v⟩ st' ⟨hi, ha⟩
 dsimp only at hi ha ⊢
 refine zh (fun h1 => ?_) (fun h1 => ?_)
 rotate_left
 ·have : i = w.U.length := k8 h1 hi
  subst this
  rw [List.take_length] at ha
  exact ⟨_, st, AV.le_trans ha.le (Tt), ha.has, h⟩
 have hlt := kh h1
 have hs := zr8 hlt id
 have hl1 : (yi (w.U.take i) id).length <= 1000000 := by
  have h1 := Pc (l := w.U) i id
  have h2 : (yi w.U id).length <= w.U.length := by unfold yi; rw [List.length_map]; exact List.length_filter_le _ _
  omega
 refine ⟨i, rfl, za _ (zn hlt) ?_⟩
 refine yj (fun c1 => ?_) (fun c1 => ?_)
 ·rw [if_pos c1] at hs
  refine ⟨i, rfl, za _ (zn hlt) ?_⟩
  refine ⟨by decide, ?_⟩
  refine By (ie := ti3) (rows' := [yn w.U[i].id]) ha ?_ ?_ ⟨?_, ?_⟩ (fun v3 st3 ha3 => ?_)
  ·rfl
  ·rfl
  ·simp only [zl, List.length_singleton, ti3]; omega
  ·simp only [zl, List.length_singleton]; omega
  refine zc (by omega) ?_
  refine ⟨(i + 1, v3), ?_, ⟨by dsimp only; omega, ?_⟩, ⟨Tq, Tq, Tq, Tq, Tv⟩, ⟨rfl, Tv⟩⟩
  ·show w.U.length - (i + 1) < w.U.length - i
   omega
  ·dsimp only
   rw [hs]
   unfold rws
   rw [List.map_append]
   exact ha3
 ·rw [if_neg c1, List.append_nil] at hs
  refine zc (by omega) ?_
  refine ⟨(i + 1, v), ?_, ⟨by dsimp only; omega, ?_⟩, ⟨Tq, Tq, Tq, Tq, Tv⟩, ⟨rfl, Tv⟩⟩
  ·show w.U.length - (i + 1) < w.U.length - i
   omega
  ·dsimp only
   rw [hs]
   exact ha
theorem zor (w : Wld) (hg : zi w.G) (hB : w.B.length <= 1000000000000) (hb : ∀ b ∈ w.B, yc b /\ onP w.G b) (hU : w.U.length <= 1000000) (hn : ∀ u ∈ w.U, u.pos.ok) (hk : ∀ u ∈ w.U, ki u.kind) (id k : Int) (hkk : ki k) (q : Vc) (hq : q.ok) (st : Store) (R : AV -> Store -> Prop)
  (h : ∀ z : Bool, (z = true ↔ qh w id k q) -> R (V.bool z) st) : ACalls Tryz.prog 33 [.agg (yd w), int id, int k, .agg (zy q)] st R := by
 have no : ¬ qh w id k q -> R (V.bool false) st := fun hh => h false (by simp only [Bool.false_eq_true, false_iff]; exact hh)
 have hr := Ax k
 have hplace : qh w id k q -> xf q.1 q.2 := fun hh => by
  have h1 := hh.1.1
  have h2 := hg.1
  have h3 := hg.2.1
  unfold xf
  omega
 refine ACalls.of_body (c := cfg 79) zb Tryz.func33 (by rfl) (by rfl) (by rfl) (by rfl) ?_
 refine Hk k hkk _ _ ?_
 refine bcd (fun c1 => ret (no fun hh => by have := hplace hh; unfold xf at this; omega)) (fun c1 => ?_)
 refine bcd (fun c2 => ret (no fun hh => by have := hplace hh; unfold xf at this; omega)) (fun c2 => ?_)
 refine bcd (fun c3 => ret (no fun hh => by have := hplace hh; unfold xf at this; omega)) (fun c3 => ?_)
 refine bcd (fun c4 => ret (no fun hh => by have := hplace hh; unfold xf at this; omega)) (fun c4 => ?_)
 have e1 : Int.negSucc 1099511627775 = -1099511627776 := rfl
 refine zof w.G hg w.B hB hb (zm k) (Hz k) q (by unfold xf; omega) (zk k) ⟨hr.1, by omega⟩ _ _ (fun z hz => ?_)
 refine yf ?_
 refine zh (fun c5 => ?_) (fun c5 => ret (no fun hh => by have := hz.2 hh.1; rw [this] at c5; cases c5))
 have hfree := hz.1 c5
 refine AWp.loop (σ := Nat) ⟨fun i => [(1, .av (int id)), (4, .bx 4 0), (7, .bx 7 0), (9, .bx 9 0), (10, .av (int (i : Nat)))], fun _ => [(4, yd w), (7, zy q), (9, v8 k)],
  fun i st' => i <= w.U.length /\ st' = st /\ ∀ j, (hj : j < w.U.length) -> j < i -> w.U[j].inn = 0 -> w.U[j].id ≠ id -> xq q (zk k) w.U[j].pos (zk w.U[j].kind) = true, fun i => w.U.length - i⟩ zb ?_ ?_
 ·exact ⟨0, Tv, ⟨Nat.zero_le _, rfl, fun j _ hj => by omega⟩, ⟨Tq, Tq, Tq, Tq, Tq, Tv⟩, ⟨rfl, rfl, rfl, Tv⟩⟩
 rintro i st' ⟨hi, rfl, hall⟩
 refine zh (fun h1 => ?_) (fun h1 => ?_)
 rotate_left
 ·have : i = w.U.length := k8 h1 hi
  subst this
  refine ret (h true (by
   simp only [true_iff]
   refine ⟨hfree, fun u hu h0 hne => ?_⟩
   obtain ⟨j, hj, rfl⟩ := List.getElem_of_mem hu
   exact hall j hj hj h0 hne))
 have hlt := kh h1
 have hui := List.getElem_mem hlt
 have next : (w.U[i].inn = 0 -> w.U[i].id ≠ id -> xq q (zk k) w.U[i].pos (zk w.U[i].kind) = true) -> ∀ j, (hj : j < w.U.length) -> j < i + 1 -> w.U[j].inn = 0 -> w.U[j].id ≠ id -> xq q (zk k) w.U[j].pos (zk w.U[j].kind) = true := fun hh j hj hji => by
  by_cases e : j = i
  ·subst e; exact hh
  ·exact hall j hj (by omega)
 refine ⟨i, rfl, za _ (zn hlt) ?_⟩
 refine ADraw.of_sched zb (by rfl) (by rfl) zlt (by rfl) ?_
 refine yj (fun c6 => ?_) (fun c6 => ?_)
 rotate_left
 ·refine ⟨⟨(by repeat (first | exact Tv | refine ⟨rfl, ?_⟩ | refine ⟨optR (optR (optR (za _ (zd _ _ _) rfl))), ?_⟩)), ?_⟩, Tv⟩
  refine ⟨⟨Tv, ?_⟩, Tv⟩
  refine zc (by omega) ?_
  refine ⟨i + 1, ?_, ⟨by omega, rfl, next fun h0 => absurd h0 c6⟩, ⟨Tq, Tq, Tq, Tq, Tq, Tv⟩, ⟨rfl, rfl, rfl, Tv⟩⟩
  show w.U.length - (i + 1) < w.U.length - i
  omega
 refine xd (fun c7 => ?_) (fun c7 => ?_)
 rotate_left
 ·refine ⟨⟨(by repeat (first | exact Tv | refine ⟨rfl, ?_⟩ | refine ⟨optR (optR (optR (za _ (zd _ _ _) rfl))), ?_⟩)), ?_⟩, Tv⟩
  refine ⟨⟨Tv, ?_⟩, Tv⟩
  refine zc (by omega) ?_
  refine ⟨i + 1, ?_, ⟨by omega, rfl, next fun _ hne => absurd c7 hne⟩, ⟨Tq, Tq, Tq, Tq, Tq, Tv⟩, ⟨rfl, rfl, rfl, Tv⟩⟩
  show w.U.length - (i + 1) < w.U.length - i
  omega
 have hr2 := Ax w.U[i].kind
 refine ⟨Hk w.U[i].kind (hk _ hui) _ _ ⟨(by repeat (first | exact Tv | refine ⟨rfl, ?_⟩ | refine ⟨optR (optR (optR (za _ (zd _ _ _) rfl))), ?_⟩)), ?_⟩, Tv⟩
 refine ⟨zot q (zk k) w.U[i].pos (zk w.U[i].kind) hq (hn _ hui) ⟨hr.1, by omega⟩ ⟨hr2.1, by omega⟩ _ _ ⟨Tv, ?_⟩, Tv⟩
 refine yf ?_
 refine zh (fun c8 => ?_) (fun c8 => ret (no fun hh => by have := hh.2 _ hui c6 c7; rw [this] at c8; cases c8))
 refine zc (by omega) ?_
 refine ⟨i + 1, ?_, ⟨by omega, rfl, next fun _ _ => c8⟩, ⟨Tq, Tq, Tq, Tq, Tq, Tv⟩, ⟨rfl, rfl, rfl, Tv⟩⟩
 show w.U.length - (i + 1) < w.U.length - i
 omega
theorem stOf {s g : Int} : (!((s == 1) == (g != -1))) = false ↔ (s = 1 ↔ g ≠ -1) := by
 by_cases h1 : s = 1 <;> by_cases h2 : g = -1 <;> simp [bne, ig, h1, h2]
theorem zrq (k : Int) (st : Store) (R : AV -> Store -> Prop) (h : ∀ z a b c d e, (z = true ↔ ki k) -> R (.tup [.agg [int a, int b, int c, int d, int e], V.bool z]) st) : ACalls Tryz.prog 38 [int k] st R :=
 cq k st R (fun hk => h true _ _ _ _ _ (by simp only [true_iff]; exact hk)) (fun hk => h false 0 0 0 0 0 (by simp only [Bool.false_eq_true, false_iff]; exact hk))
set_option maxHeartbeats 4000000 in
set_option maxRecDepth 20000 in
theorem zod (w : Wld) (hw : w.fits) (st : Store) (R : AV -> Store -> Prop) (h : ∀ z : Bool, (z = true ↔ Cz w /\ Dj w) -> R (V.bool z) st) : ACalls Tryz.prog 32 [.agg (yd w)] st R := by
 obtain ⟨hw1, hw2, hw3⟩ := hw
 have no : ¬ (Cz w /\ Dj w) -> R (V.bool false) st := fun hh => h false (by simp only [Bool.false_eq_true, false_iff]; exact hh)
 refine ACalls.of_body (c := cfg 218) zb Tryz.func32 (by rfl) (by rfl) (by rfl) (by rfl) ?_
 refine zqe w.tick 1099511627776 _ _ (fun z hz => ?_)
 refine yf ?_
 refine zh (fun c0 => ?_) (fun c0 => ret (no fun q => by have := hz.2 q.1.1.1; rw [this] at c0; cases c0))
 have htick := hz.1 c0
 refine bcd (fun c1 => ret (no fun q => by have := q.1.1; omega)) (fun c1 => ?_)
 refine bcd (fun c2 => ret (no fun q => by have := q.1.1; omega)) (fun c2 => ?_)
 refine bcd (fun c3 => ret (no fun q => by have := q.1.1; omega)) (fun c3 => ?_)
 refine bcd (fun c4 => ret (no fun q => by have := q.1.1; omega)) (fun c4 => ?_)
 refine zos w.G hw1 w.B hw2 _ _ (fun z hz => ?_)
 refine yf ?_
 refine zh (fun c5 => ?_) (fun c5 => ret (no fun q => by have := hz.2 ⟨q.1.2.1.1, q.1.2.1.2.1⟩; rw [this] at c5; cases c5))
 obtain ⟨hg, hbl⟩ := hz.1 c5
 have hBl : w.B.length <= 256 := hbl.1
 have hUl : ((rws zp w.U).length : Int) = (w.U.length : Int) := by rw [zl]
 refine bcd (fun c6 => ret (no fun q => by have := q.1.2.1.2.2; omega)) (fun c6 => ?_)
 refine AWp.loop (σ := Nat) ⟨fun i => [(1, .bx 1 0), (3, .av (int (i : Nat)))], fun _ => [(1, yd w)],
  fun i st' => i <= w.B.length /\ st' = st /\ ∀ j, (hj : j < w.B.length) -> j < i -> w.B[j].owner <= w.players /\ w.B[j].id < w.next, fun i => w.B.length - i⟩ zb ?_ ?_
 ·exact ⟨0, Tv, ⟨Nat.zero_le _, rfl, fun j _ hj => by omega⟩, ⟨Tq, Tq, Tv⟩, ⟨rfl, Tv⟩⟩
 rintro i st' ⟨hi, rfl, hall⟩
 refine zh (fun h1 => ?_) (fun h1 => ?_)
 ·have hlt := kh h1
  refine ADraw.of_sched zb (by rfl) (by rfl) zlu (by rfl) ?_
  refine ⟨i, rfl, za _ (zn hlt) ?_⟩
  refine bcd (fun c7 => ret (no fun q => by have := q.1.2.2 _ (List.getElem_mem hlt); omega)) (fun c7 => ?_)
  refine ⟨i, rfl, za _ (zn hlt) ?_⟩
  refine bcd (fun c8 => ret (no fun q => by have := q.1.2.2 _ (List.getElem_mem hlt); omega)) (fun c8 => ?_)
  refine zc (by omega) ?_
  refine ⟨i + 1, ?_, ⟨by omega, rfl, fun j hj hji => ?_⟩, ⟨Tq, Tq, Tv⟩, ⟨rfl, Tv⟩⟩
  ·show w.B.length - (i + 1) < w.B.length - i
   omega
  ·by_cases e : j = i
   ·subst e; omega
   ·exact hall j hj (by omega)
 have hie : i = w.B.length := k8 h1 hi
 subst hie
 have hhead : Cz w := ⟨⟨htick, by omega⟩, ⟨hg, hbl, by omega⟩, fun b hb => by
  obtain ⟨j, hj, rfl⟩ := List.getElem_of_mem hb
  exact hall j hj hj⟩
 refine AWp.loop (σ := Nat) ⟨fun i => [(1, .bx 1 0), (4, .av (int (i : Nat)))], fun _ => [(1, yd w)],
  fun i st2 => i <= w.U.length /\ st2 = st' /\ Cd w i, fun i => w.U.length - i⟩ zb ?_ ?_
 ·exact ⟨0, Tv, ⟨Nat.zero_le _, rfl, fun j _ hj => by omega⟩, ⟨Tq, Tq, Tv⟩, ⟨rfl, Tv⟩⟩
 rintro i st2 ⟨hi, rfl, hup⟩
 refine zh (fun h2 => ?_) (fun h2 => ?_)
 rotate_left
 ·have : i = w.U.length := k8 h2 hi
  subst this
  exact ret (h true (by simp only [true_iff]; exact ⟨hhead, Sc hup⟩))
 have hlt := kh h2
 have nou : ¬ ((xt w w.U[i] /\ ∀ b ∈ w.B, b.id ≠ w.U[i].id) /\ (0 < i -> (w.U[i - 1]'(by omega)).id < w.U[i].id)) -> R (V.bool false) st2 := fun hq => no fun q => hq (Sb q.2 (i + 1) i hlt (by omega))
 refine ⟨i, rfl, za _ (zn hlt) ?_⟩
 refine zrq w.U[i].kind _ _ (fun kz ka kb kc kd ke hk => ?_)
 refine ADraw.of_sched zb (by rfl) (by rfl) zlw (by rfl) ?_
 have skip2 : ∀ {p q : Prop}, ¬ ((xt w w.U[i] /\ ∀ b ∈ w.B, b.id ≠ w.U[i].id) /\ (0 < i -> (w.U[i - 1]'(by omega)).id < w.U[i].id)) -> ∃ r st', AV.le (V.bool false) r /\ st2.Has st' /\ R r st' := fun hq => ret (nou hq)
 refine bcd (fun c7 => ⟨⟨Tv, ⟨⟨Tv, ret (nou fun q => by have := q.1.1.1; omega)⟩, Tv⟩⟩, Tv⟩) (fun c7 => ?_)
 refine bcd (fun c8 => ⟨⟨Tv, ⟨⟨Tv, ret (nou fun q => by have := q.1.1.1; omega)⟩, Tv⟩⟩, Tv⟩) (fun c8 => ?_)
 refine bcd (fun c9 => ?_) (fun c9 => ?_)
 refine zc (by omega) ?_
 refine ⟨i - 1, by omega, za _ (zn (show i - 1 < w.U.length by omega)) ?_⟩
 refine bcd (fun c9b => ⟨⟨Tv, ⟨⟨Tv, ret (nou fun q => by have := q.2 (by omega); omega)⟩, Tv⟩⟩, Tv⟩) (fun c9b => ?_)
 have hrise : 0 < i -> (w.U[i - 1]'(by omega)).id < w.U[i].id := fun _ => by omega
 rotate_left
 have hrise : 0 < i -> (w.U[i - 1]'(by omega)).id < w.U[i].id := fun h0 => absurd h0 (by omega)
 all_goals
  refine bcd (fun c10 => ⟨⟨Tv, ⟨⟨Tv, ret (nou fun q => by have := q.1.1.1.2.1; omega)⟩, Tv⟩⟩, Tv⟩) (fun c10 => ?_)
  refine bcd (fun c11 => ⟨⟨Tv, ⟨⟨Tv, ret (nou fun q => by have := q.1.1.1.2.1; omega)⟩, Tv⟩⟩, Tv⟩) (fun c11 => ?_)
  refine yf ?_
  refine zh (fun ck => ?_) (fun ck => ⟨⟨Tv, ⟨⟨Tv, ret (nou fun q => by have := hk.2 q.1.1.1.2.2; rw [this] at ck; cases ck)⟩, Tv⟩⟩, Tv⟩)
  have hkind := hk.1 ck
  refine xd (fun c12 => ?_) (fun c12 => ?_)
  refine ⟨Sr w.G w.U[i].goal hg _ _ (fun z1 hz1 => ⟨Tv, ?_⟩), Tv⟩
  refine yf ?_
  refine zh (fun c12b => ?_) (fun c12b => ⟨⟨Tv, ret (nou fun q => by have := q.1.1.2.1.1; unfold jb at this; have := hz1.2 (this.resolve_left c12); rw [this] at c12b; cases c12b)⟩, Tv⟩)
  have ht1 : jb w.G w.U[i].goal := .inr (hz1.1 c12b)
  rotate_left
  refine ⟨⟨Tv, ?_⟩, Tv⟩
  have ht1 : jb w.G w.U[i].goal := .inl c12
  all_goals
   refine xd (fun c13 => ?_) (fun c13 => ?_)
   refine ⟨Sr w.G w.U[i].next hg _ _ (fun z2 hz2 => ⟨Tv, ?_⟩), Tv⟩
   refine yf ?_
   refine zh (fun c14 => ?_) (fun c14 => ret (nou fun q => by have := q.1.1.2.1.2.1; unfold jb at this; have := hz2.2 (this.resolve_left c13); rw [this] at c14; cases c14))
   have ht2 : jb w.G w.U[i].next := .inr (hz2.1 c14)
   rotate_left
   refine ⟨⟨Tv, ?_⟩, Tv⟩
   have ht2 : jb w.G w.U[i].next := .inl c13
   all_goals
    refine bcd (fun d1 => ret (nou fun q => by have := q.1.1.2.1.2.2; omega)) (fun d1 => ?_)
    refine bcd (fun d2 => ret (nou fun q => by have := q.1.1.2.1.2.2; omega)) (fun d2 => ?_)
    refine bcd (fun d3 => ret (nou fun q => by have := q.1.1.2.2.1.1; omega)) (fun d3 => ?_)
    refine bcd (fun d4 => ret (nou fun q => by have := q.1.1.2.2.1.1; omega)) (fun d4 => ?_)
    refine zh (fun d5 => ret (nou fun q => by have := stOf.2 q.1.1.2.2.1.2; rw [this] at d5; cases d5)) (fun d5 => ?_)
    have hst := stOf.1 d5
    have go : (w.U[i].goal = -1 -> w.U[i].next = -1 /\ w.U[i].stuck = 0) -> xt w w.U[i] := fun hq => ⟨⟨by omega, by omega, hkind⟩, ⟨ht1, ht2, by omega⟩, ⟨by omega, hst⟩, hq⟩
    refine yj (fun d6 => ?_) (fun d6 => ?_)
    refine xd (fun d7 => ret (nou fun q => d7 (q.1.1.2.2.2 d6).1)) (fun d7 => ?_)
    refine xd (fun d8 => ret (nou fun q => d8 (q.1.1.2.2.2 d6).2)) (fun d8 => ?_)
    have hunt := go fun _ => ⟨d7, d8⟩
    rotate_left
    have hunt := go fun e => absurd e d6
    all_goals
     refine AWp.loop (σ := Nat) ⟨fun k => [(1, .bx 1 0), (4, .av (int (i : Nat))), (5, .bx 5 0), (8, .av (int (k : Nat)))], fun _ => [(1, yd w), (5, zp w.U[i])],
      fun k st3 => k <= w.B.length /\ st3 = st2 /\ ∀ j, (hj : j < w.B.length) -> j < k -> w.B[j].id ≠ w.U[i].id, fun k => w.B.length - k⟩ zb ?_ ?_
     ·exact ⟨0, Tv, ⟨Nat.zero_le _, rfl, fun j _ hj => by omega⟩, ⟨Tq, Tq, Tq, Tq, Tv⟩, ⟨rfl, rfl, Tv⟩⟩
     rintro k st3 ⟨hk3, rfl, hne⟩
     refine zh (fun e1 => ?_) (fun e1 => ?_)
     ·have hkl := kh e1
      refine ADraw.of_sched zb (by rfl) (by rfl) zlv (by rfl) ?_
      refine ⟨k, rfl, za _ (zn hkl) ?_⟩
      refine yj (fun e2 => ret (nou fun q => q.1.2 _ (List.getElem_mem hkl) e2)) (fun e2 => ?_)
      refine zc (by omega) ?_
      refine ⟨k + 1, ?_, ⟨by omega, rfl, fun j hj hjk => ?_⟩, ⟨Tq, Tq, Tq, Tq, Tv⟩, ⟨rfl, rfl, Tv⟩⟩
      ·show w.B.length - (k + 1) < w.B.length - k
       omega
      ·by_cases e : j = k
       ·subst e; exact e2
       ·exact hne j hj (by omega)
     have hke : k = w.B.length := k8 e1 hk3
     subst hke
     refine zc (by omega) ?_
     refine ⟨i + 1, ?_, ⟨by omega, rfl, fun j hj hji => ?_⟩, ⟨Tq, Tq, Tv⟩, ⟨rfl, Tv⟩⟩
     ·show w.U.length - (i + 1) < w.U.length - i
      omega
     ·by_cases e : j = i
      ·subst e
       refine ⟨⟨hunt, fun b hb => ?_⟩, hrise⟩
       obtain ⟨m, hm, rfl⟩ := List.getElem_of_mem hb
       exact hne m hm hm
      ·exact hup j hj (by omega)
set_option maxHeartbeats 4000000 in
set_option maxRecDepth 20000 in
theorem zn4 (w : Wld) (hw : w.fits) (hn : ∀ u ∈ w.U, u.pos.ok) (st : Store) (R : AV -> Store -> Prop) (h : ∀ z : Bool, (z = true ↔ yg w) -> R (V.bool z) st) : ACalls Tryz.prog 7 [.agg (yd w)] st R := by
 have no : ¬ yg w -> R (V.bool false) st := fun hh => h false (by simp only [Bool.false_eq_true, false_iff]; exact hh)
 refine ACalls.of_body (c := cfg 98) zb Tryz.func7 (by rfl) (by rfl) (by rfl) (by rfl) ?_
 refine zod w hw _ _ (fun z hz => ?_)
 refine yf ?_
 refine zh (fun c1 => ?_) (fun c1 => ret (no fun q => by have := hz.2 q.1; rw [this] at c1; cases c1))
 obtain ⟨hh, hok⟩ := hz.1 c1
 have hg := hh.2.1.1
 have hbl := hh.2.1.2.1
 have hBl : w.B.length <= 256 := hbl.1
 have hU : w.U.length <= 4096 := hh.2.1.2.2
 have hbb : ∀ b ∈ w.B, yc b /\ onP w.G b := fun b hb => ⟨(hbl.2.2.1 b hb).1, (hbl.2.2.1 b hb).2.1⟩
 have hkk : ∀ u ∈ w.U, ki u.kind := fun u hu => (hok.2 u hu).1.1.2.2
 refine AWp.loop (σ := Nat) ⟨fun i => [(1, .bx 1 0), (3, .av (int (i : Nat)))], fun _ => [(1, yd w)],
  fun i st' => i <= w.U.length /\ st' = st /\ ∀ j, (hj : j < w.U.length) -> j < i -> (w.U[j].inn = 0 -> qh w w.U[j].id w.U[j].kind w.U[j].pos) /\ (w.U[j].inn ≠ 0 -> kg w w.U[j]), fun i => w.U.length - i⟩ zb ?_ ?_
 ·exact ⟨0, Tv, ⟨Nat.zero_le _, rfl, fun j _ hj => by omega⟩, ⟨Tq, Tq, Tv⟩, ⟨rfl, Tv⟩⟩
 rintro i st' ⟨hi, rfl, hall⟩
 refine zh (fun h1 => ?_) (fun h1 => ?_)
 rotate_left
 ·have : i = w.U.length := k8 h1 hi
  subst this
  refine ret (h true (by
   simp only [true_iff]
   refine ⟨⟨hh, hok⟩, fun u hu h0 => ?_, fun u hu h0 => ?_⟩
   ·obtain ⟨j, hj, rfl⟩ := List.getElem_of_mem hu
    exact (hall j hj hj).1 h0
   ·obtain ⟨j, hj, rfl⟩ := List.getElem_of_mem hu
    exact (hall j hj hj).2 h0))
 have hlt := kh h1
 have hui := List.getElem_mem hlt
 have next : ((w.U[i].inn = 0 -> qh w w.U[i].id w.U[i].kind w.U[i].pos) /\ (w.U[i].inn ≠ 0 -> kg w w.U[i])) -> ∀ j, (hj : j < w.U.length) -> j < i + 1 -> (w.U[j].inn = 0 -> qh w w.U[j].id w.U[j].kind w.U[j].pos) /\ (w.U[j].inn ≠ 0 -> kg w w.U[j]) := fun hq j hj hji => by
  by_cases e : j = i
  ·subst e; exact hq
  ·exact hall j hj (by omega)
 refine ⟨i, rfl, za _ (zn hlt) ?_⟩
 refine yj (fun c2 => ?_) (fun c2 => ?_)
 ·refine zor w hg (by omega) hbb (by omega) hn hkk w.U[i].id w.U[i].kind (hkk _ hui) w.U[i].pos (hn _ hui) _ _ (fun z hz => ?_)
  refine yf ?_
  refine zh (fun c3 => ?_) (fun c3 => ret (no fun q => by have := hz.2 (q.2.1 _ hui c2); rw [this] at c3; cases c3))
  refine zc (by omega) ?_
  refine ⟨i + 1, ?_, ⟨by omega, rfl, next ⟨fun _ => hz.1 c3, fun hne => absurd c2 hne⟩⟩, ⟨Tq, Tq, Tv⟩, ⟨rfl, Tv⟩⟩
  show w.U.length - (i + 1) < w.U.length - i
  omega
 have nou : ¬ kg w w.U[i] -> R (V.bool false) st' := fun hq => no fun q => hq (q.2.2 _ hui c2)
 refine zoh w (by omega) w.U[i].inn _ _ ?_
 cases hf : w.U.findIdx? fun u => decide (u.id = w.U[i].inn) with
 | none =>
  have hno : ¬ kg w w.U[i] := fun ⟨x, hx, e, _⟩ => by
   rw [List.findIdx?_eq_none_iff] at hf
   have := hf x hx
   rw [decide_eq_false_iff_not] at this
   exact this e
  refine ADraw.of_sched zb (by rfl) (by rfl) Vr (by rfl) ?_
  exact ⟨⟨(by repeat (first | exact Tv | refine ⟨rfl, ?_⟩ | refine ⟨optR (optR (optR (za _ (zd _ _ _) rfl))), ?_⟩)), ⟨⟨(by repeat (first | exact Tv | refine ⟨rfl, ?_⟩ | refine ⟨optR (optR (optR (za _ (zd _ _ _) rfl))), ?_⟩)), ⟨⟨(by repeat (first | exact Tv | refine ⟨rfl, ?_⟩ | refine ⟨optR (optR (optR (za _ (zd _ _ _) rfl))), ?_⟩)), ret (nou hno)⟩, Tv⟩⟩, Tv⟩⟩, Tv⟩
 | some k =>
  rw [List.findIdx?_eq_some_iff_getElem] at hf
  obtain ⟨hkl, hkid, _⟩ := hf
  have hkid := of_decide_eq_true hkid
  have uniq : kg w w.U[i] -> (w.U[k].inn = 0 /\ w.U[k].owner = w.U[i].owner) /\ ((yi w.U w.U[i].inn).length : Int) <= x5 w.U[k].kind := fun ⟨x, hx, e, e2, e3, _⟩ => by
   have := Ds hok.1 hx (List.getElem_mem hkl) (by rw [e, hkid])
   subst this
   exact ⟨e2, e3⟩
  refine ADraw.of_sched zb (by rfl) (by rfl) Vr (by rfl) ?_
  refine ⟨k, rfl, za _ (zn hkl) ?_⟩
  refine xd (fun c4 => ⟨⟨(by repeat (first | exact Tv | refine ⟨rfl, ?_⟩ | refine ⟨optR (optR (optR (za _ (zd _ _ _) rfl))), ?_⟩)), ⟨⟨(by repeat (first | exact Tv | refine ⟨rfl, ?_⟩ | refine ⟨optR (optR (optR (za _ (zd _ _ _) rfl))), ?_⟩)), ⟨⟨(by repeat (first | exact Tv | refine ⟨rfl, ?_⟩ | refine ⟨optR (optR (optR (za _ (zd _ _ _) rfl))), ?_⟩)), ret (nou (fun q => c4 (uniq q).1.1))⟩, Tv⟩⟩, Tv⟩⟩, Tv⟩) (fun c4 => ?_)
  refine ⟨k, rfl, za _ (zn hkl) ?_⟩
  refine xd (fun c5 => ⟨⟨(by repeat (first | exact Tv | refine ⟨rfl, ?_⟩ | refine ⟨optR (optR (optR (za _ (zd _ _ _) rfl))), ?_⟩)), ⟨⟨(by repeat (first | exact Tv | refine ⟨rfl, ?_⟩ | refine ⟨optR (optR (optR (za _ (zd _ _ _) rfl))), ?_⟩)), ⟨⟨(by repeat (first | exact Tv | refine ⟨rfl, ?_⟩ | refine ⟨optR (optR (optR (za _ (zd _ _ _) rfl))), ?_⟩)), ret (nou (fun q => c5 (uniq q).1.2))⟩, Tv⟩⟩, Tv⟩⟩, Tv⟩) (fun c5 => ?_)
  refine ⟨Hk w.U[i].kind (hkk _ hui) _ _ ⟨(by repeat (first | exact Tv | refine ⟨rfl, ?_⟩ | refine ⟨optR (optR (optR (za _ (zd _ _ _) rfl))), ?_⟩)), ?_⟩, Tv⟩
  refine bcd (fun c6 => ⟨⟨(by repeat (first | exact Tv | refine ⟨rfl, ?_⟩ | refine ⟨optR (optR (optR (za _ (zd _ _ _) rfl))), ?_⟩)), ⟨⟨(by repeat (first | exact Tv | refine ⟨rfl, ?_⟩ | refine ⟨optR (optR (optR (za _ (zd _ _ _) rfl))), ?_⟩)), ret (nou (fun ⟨x, _, _, _, _, e, _⟩ => by omega))⟩, Tv⟩⟩, Tv⟩) (fun c6 => ?_)
  have hroom : x5 w.U[i].kind = 0 := by have := Pa w.U[i].kind; omega
  refine ⟨k, rfl, za _ (zn hkl) ?_⟩
  refine ⟨znm w (by omega) w.U[i].inn _ _ ⟨?_, ?_⟩, Tv⟩
  ·repeat (first | exact Tv | refine ⟨rfl, ?_⟩ | refine ⟨⟨k, rfl, za _ (zn hkl) rfl⟩, ?_⟩)
  refine ⟨Hk w.U[k].kind (hkk _ (List.getElem_mem hkl)) _ _ ⟨?_, ?_⟩, Tv⟩
  ·repeat (first | exact Tv | refine ⟨rfl, ?_⟩)
  have hrl : ((rws yn (yi w.U w.U[i].inn)).length : Int) = ((yi w.U w.U[i].inn).length : Int) := by rw [zl]
  refine bcd (fun c7 => ret (nou fun q => by have := (uniq q).2; omega)) (fun c7 => ?_)
  refine yf ?_
  refine zh (fun c8 => ?_) (fun c8 => ret (nou fun ⟨x, _, _, _, _, _, e, _⟩ => by rw [e] at c8; cases c8))
  have hpos : w.U[i].pos = (0, 0) := by
   have : (w.U[i].pos.1 == 0 && (w.U[i].pos.2 == 0 && true)) = true := c8
   simp at this
   exact Prod.ext this.1 this.2
  refine xd (fun c9 => ret (nou fun ⟨x, _, _, _, _, _, _, e, _⟩ => c9 e)) (fun c9 => ?_)
  refine xd (fun c10 => ret (nou fun ⟨x, _, _, _, _, _, _, _, e⟩ => c10 e)) (fun c10 => ?_)
  refine zc (by omega) ?_
  refine ⟨i + 1, ?_, ⟨by omega, rfl, next ⟨fun h0 => absurd h0 c2, fun _ => ⟨w.U[k], List.getElem_mem hkl, hkid, ⟨c4, c5⟩, by omega, hroom, hpos, c9, c10⟩⟩⟩, ⟨Tq, Tq, Tv⟩, ⟨rfl, Tv⟩⟩
  show w.U.length - (i + 1) < w.U.length - i
  omega
theorem zvv (l : List UInt8) (hl : l.length <= 1000000000000) (st : Store) (R : AV -> Store -> Prop) (h : R (lst 1 u8C l) st) : ACalls Tryz.prog 68 [lst 1 u8C l] st R := by
 refine ACalls.of_body (c := cfg 19) zb Tryz.func68 (by rfl) (by rfl) (by rfl) (by rfl) ?_
 refine AWp.loop (σ := Nat × AV) ⟨fun s => [(0, .av (lst 1 u8C l)), (3, .av s.2), (4, .av (int s.1))], fun _ => [], fun s st' => s.1 <= l.length /\ App 1 st s.2 (rws u8C (l.take s.1)) st', fun s => l.length - s.1⟩ zb ?_ ?_
 ·exact ⟨(0, _), Tv, ⟨Nat.zero_le _, App.start 1 st⟩, ⟨Tq, Tq, Tq, Tv⟩, Tv⟩
 ·rintro ⟨i, v⟩ st' ⟨hi, ha⟩
  simp only at hi
  refine zh (fun h1 => ?_) (fun h1 => ?_)
  ·have hlt : i < l.length := kh h1
   refine ⟨i, rfl, za _ (zn hlt) ?_⟩
   refine ⟨by decide, ?_⟩
   refine By (ie := ti5) (rows' := [u8C l[i]]) ha ?_ ?_ ⟨?_, ?_⟩ (fun v2 st2 ha2 => ?_)
   ·rfl
   ·rfl
   ·simp [zl, ti5]; omega
   ·simp [zl]; omega
   ·refine ⟨⟨by omega, by omega⟩, ?_⟩
    refine ⟨(i + 1, v2), ?_, ⟨hlt, ?_⟩, ⟨Tq, Tq, Tq, Tv⟩, Tv⟩
    ·show l.length - (i + 1) < l.length - i
     omega
    ·rw [<- Nw hlt]; exact ha2
  ·have hge : i = l.length := k8 h1 hi
   subst hge
   refine ⟨_, st, AV.le_trans ha.le ?_, ha.has, h⟩
   rw [List.take_length]
   exact Tt
theorem zvw (l : List Bld) (hl : l.length <= 1000000000000) (st : Store) (R : AV -> Store -> Prop) (h : R (lst 6 zz l) st) : ACalls Tryz.prog 36 [lst 6 zz l] st R := by
 refine ACalls.of_body (c := cfg 19) zb Tryz.func36 (by rfl) (by rfl) (by rfl) (by rfl) ?_
 refine AWp.loop (σ := Nat × AV) ⟨fun s => [(0, .av (lst 6 zz l)), (3, .av s.2), (4, .av (int s.1))], fun _ => [], fun s st' => s.1 <= l.length /\ App 6 st s.2 (rws zz (l.take s.1)) st', fun s => l.length - s.1⟩ zb ?_ ?_
 ·exact ⟨(0, _), Tv, ⟨Nat.zero_le _, App.start 6 st⟩, ⟨Tq, Tq, Tq, Tv⟩, Tv⟩
 ·rintro ⟨i, v⟩ st' ⟨hi, ha⟩
  simp only at hi
  refine zh (fun h1 => ?_) (fun h1 => ?_)
  ·have hlt : i < l.length := kh h1
   refine ⟨i, rfl, za _ (zn hlt) ?_⟩
   refine ⟨by decide, ?_⟩
   refine By (ie := ti151) (rows' := [zz l[i]]) ha ?_ ?_ ⟨?_, ?_⟩ (fun v2 st2 ha2 => ?_)
   ·rfl
   ·rfl
   ·simp [zl, ti151]; omega
   ·simp [zl]; omega
   ·refine ⟨⟨by omega, by omega⟩, ?_⟩
    refine ⟨(i + 1, v2), ?_, ⟨hlt, ?_⟩, ⟨Tq, Tq, Tq, Tv⟩, Tv⟩
    ·show l.length - (i + 1) < l.length - i
     omega
    ·rw [<- Nw hlt]; exact ha2
  ·have hge : i = l.length := k8 h1 hi
   subst hge
   refine ⟨_, st, AV.le_trans ha.le ?_, ha.has, h⟩
   rw [List.take_length]
   exact Tt
theorem zvt (l : List Unt) (hl : l.length <= 1000000000000) (st : Store) (R : AV -> Store -> Prop) (h : R (lst 10 zp l) st) : ACalls Tryz.prog 37 [lst 10 zp l] st R := by
 refine ACalls.of_body (c := cfg 19) zb Tryz.func37 (by rfl) (by rfl) (by rfl) (by rfl) ?_
 refine AWp.loop (σ := Nat × AV) ⟨fun s => [(0, .av (lst 10 zp l)), (3, .av s.2), (4, .av (int s.1))], fun _ => [], fun s st' => s.1 <= l.length /\ App 10 st s.2 (rws zp (l.take s.1)) st', fun s => l.length - s.1⟩ zb ?_ ?_
 ·exact ⟨(0, _), Tv, ⟨Nat.zero_le _, App.start 10 st⟩, ⟨Tq, Tq, Tq, Tv⟩, Tv⟩
 ·rintro ⟨i, v⟩ st' ⟨hi, ha⟩
  simp only at hi
  refine zh (fun h1 => ?_) (fun h1 => ?_)
  ·have hlt : i < l.length := kh h1
   refine ⟨i, rfl, za _ (zn hlt) ?_⟩
   refine ⟨by decide, ?_⟩
   refine By (ie := ti38) (rows' := [zp l[i]]) ha ?_ ?_ ⟨?_, ?_⟩ (fun v2 st2 ha2 => ?_)
   ·rfl
   ·rfl
   ·simp [zl, ti38]; omega
   ·simp [zl]; omega
   ·refine ⟨⟨by omega, by omega⟩, ?_⟩
    refine ⟨(i + 1, v2), ?_, ⟨hlt, ?_⟩, ⟨Tq, Tq, Tq, Tv⟩, Tv⟩
    ·show l.length - (i + 1) < l.length - i
     omega
    ·rw [<- Nw hlt]; exact ha2
  ·have hge : i = l.length := k8 h1 hi
   subst hge
   refine ⟨_, st, AV.le_trans ha.le ?_, ha.has, h⟩
   rw [List.take_length]
   exact Tt
theorem zvu (g : Gnd) (hg : g.fits) (st : Store) (R : AV -> Store -> Prop) (h : R (.agg (zr g)) st) : ACalls Tryz.prog 35 [.agg (zr g)] st R := by
 refine ACalls.of_body (c := cfg 10) zb Tryz.func35 (by rfl) (by rfl) (by rfl) (by rfl) ?_
 refine zvv g.T hg _ _ ?_
 exact ret h
theorem zvs (w : Wld) (hw : w.fits) (st : Store) (R : AV -> Store -> Prop) (h : R (.agg (yd w)) st) : ACalls Tryz.prog 9 [.agg (yd w)] st R := by
 refine ACalls.of_body (c := cfg 18) zb Tryz.func9 (by rfl) (by rfl) (by rfl) (by rfl) ?_
 refine zvu w.G hw.1 _ _ ?_
 refine zvw w.B hw.2.1 _ _ ?_
 refine zvt w.U hw.2.2 _ _ ?_
 exact ret h
end Go.Proofs
