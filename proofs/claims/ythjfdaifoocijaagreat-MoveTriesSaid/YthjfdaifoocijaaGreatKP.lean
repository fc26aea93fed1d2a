/- Ground of laws of thronglaw24: contracts and plain lemmas; no condition beyond the row's own. -/
import Derived.Test.YthjfdaifoocijaaGreatKO
set_option linter.unusedSimpArgs false
set_option linter.unusedVariables false
namespace Go.Proofs
open Go Go.V
set_option maxRecDepth 4000
theorem zmg (g : Gnd) (hgf : g.fits) (l : List Bld) (hl : l.length <= 1000000000000) (st : Store) (R : AV -> Store -> Prop)
  (h : ∀ z : Bool, (z = true ↔ zl g /\ Cs g l) -> R (bool z) st) : ACalls Tryz.prog 88 [.agg (zt g), lst 6 zp l] st R := by
 have hL : ((rws zp l).length : Int) = (l.length : Int) := by rw [zu]
 have no : ¬ (zl g /\ Cs g l) -> R (bool false) st := fun hn => h false (by simp only [Bool.false_eq_true, false_iff]; exact hn)
 refine ACalls.of_body (c := cfg 64) zb Tryz.func88 (by rfl) (by rfl) (by rfl) (by rfl) ?_
 refine zp6 g hgf _ _ (fun z hz => ?_)
 refine z8 ?_
 refine zg (fun c0 => ?_) (fun c0 => ret (no fun q => by have := hz.2 q.1; rw [this] at c0; cases c0))
 have hg := hz.1 c0
 refine bcd (fun c1 => ret (no fun q => by have := q.2.1; omega)) (fun c1 => ?_)
 refine zl0 l hl _ _ (fun z hz => ?_)
 refine z8 ?_
 refine zg (fun c2 => ?_) (fun c2 => ret (no fun q => by have := hz.2 q.2.2.1; rw [this] at c2; cases c2))
 have hr := hz.1 c2
 refine AWp.loop (σ := Nat) ⟨fun i => [(1, .av (lst 6 zp l)), (2, .bx 2 0), (5, .av (int (i : Nat)))], fun _ => [(2, zt g)],
  fun i st' => i <= l.length /\ st' = st /\ Lm g l i, fun i => l.length - i⟩ zb ?_ ?_
 ·exact ⟨0, Tv, ⟨Nat.zero_le _, rfl, fun j _ hj => by omega⟩, ⟨Tq, Tq, Tq, Tv⟩, ⟨rfl, Tv⟩⟩
 rintro i st' ⟨hi, rfl, hup⟩
 refine bcd (fun h1 => ?_) (fun h1 => ?_)
 rotate_left
 ·have : i = l.length := by omega
  subst this
  have hall := et hup
  exact ret (h true (by simp only [true_iff]; exact ⟨hg, by omega, hr, hall.1, hall.2⟩))
 have hlt : i < l.length := by omega
 refine ADraw.of_sched zb (by rfl) (by rfl) ziz (by rfl) ?_
 refine ⟨i, rfl, za _ (zj hlt) ?_⟩
 have nof : ¬ (z7 l[i] /\ onP g l[i] /\ Ak g l[i]) -> R (bool false) st' := fun hn => no fun q => hn (q.2.2.2.1 _ (List.getElem_mem hlt))
 refine ⟨zin l[i] _ _ (fun z1 hz1 => ⟨Tv, ?_⟩), Tv⟩
 refine z8 ?_
 refine zg (fun c3 => ?_) (fun c3 => ⟨⟨Tv, ⟨⟨Tv, ret (nof fun q => by have := hz1.2 q.1; rw [this] at c3; cases c3)⟩, Tv⟩⟩, Tv⟩)
 have hb1 := hz1.1 c3
 refine ⟨i, rfl, za _ (zj hlt) ?_⟩
 refine ⟨zlt g l[i] hg hb1 _ _ (fun z2 hz2 => ⟨Tv, ?_⟩), Tv⟩
 refine z8 ?_
 refine zg (fun c4 => ?_) (fun c4 => ⟨⟨Tv, ret (nof fun q => by have := hz2.2 q.2.1; rw [this] at c4; cases c4)⟩, Tv⟩)
 have hb2 := hz2.1 c4
 refine ⟨i, rfl, za _ (zj hlt) ?_⟩
 refine ⟨zl5 g hg l[i] ⟨hb1, hb2⟩ _ _ (fun z3 hz3 => ⟨Tv, ?_⟩), Tv⟩
 refine z8 ?_
 refine zg (fun c5 => ?_) (fun c5 => ret (nof fun q => by have := hz3.2 q.2.2; rw [this] at c5; cases c5))
 have hb3 := hz3.1 c5
 refine AWp.loop (σ := Nat) ⟨fun k => [(1, .av (lst 6 zp l)), (2, .bx 2 0), (5, .av (int (i : Nat))), (6, .av (int (k : Nat)))], fun _ => [(2, zt g)],
  fun k st2 => k <= i /\ st2 = st' /\ ∀ m, (hm : m < k) -> (hmi : m < i) -> ¬ vr l[i] (l[m]'(by omega)), fun k => i - k⟩ zb ?_ ?_
 ·exact ⟨0, Tv, ⟨Nat.zero_le _, rfl, fun m hm => by omega⟩, ⟨Tq, Tq, Tq, Tq, Tv⟩, ⟨rfl, Tv⟩⟩
 rintro k st2 ⟨hk, rfl, hno⟩
 refine bcd (fun h2 => ?_) (fun h2 => ?_)
 rotate_left
 ·refine zc (by omega) ?_
  refine ⟨i + 1, ?_, ⟨by omega, rfl, fun j hj hji => ?_⟩, ⟨Tq, Tq, Tq, Tv⟩, ⟨rfl, Tv⟩⟩
  ·show l.length - (i + 1) < l.length - i
   omega
  ·by_cases e : j = i
   ·subst e
    exact ⟨⟨hb1, hb2, hb3⟩, fun m hm => hno m (by omega) hm⟩
   ·exact hup j hj (by omega)
 have hki : k < i := by omega
 have hkl : k < l.length := by omega
 have hbk := (hup k hkl hki).1
 refine ADraw.of_sched zb (by rfl) (by rfl) zi0 (by rfl) ?_
 refine ⟨i, rfl, za _ (zj hlt) ?_⟩
 refine ⟨k, rfl, za _ (zj hkl) ?_⟩
 refine ⟨zou g hg l[i] l[k] ⟨hb1, hb2⟩ ⟨hbk.1, hbk.2.1⟩ _ _ (fun z4 hz4 => ⟨Tv, ?_⟩), Tv⟩
 refine zg (fun c6 => ret (no fun q => q.2.2.2.2 i hlt k hki (hz4.1 c6))) (fun c6 => ?_)
 refine zc (by omega) ?_
 refine ⟨k + 1, ?_, ⟨by omega, rfl, fun m hm hmi => ?_⟩, ⟨Tq, Tq, Tq, Tq, Tv⟩, ⟨rfl, Tv⟩⟩
 ·show i - (k + 1) < i - k
  omega
 ·by_cases e : m = k
  ·subst e
   intro hm2
   have := hz4.2 hm2
   rw [this] at c6; cases c6
  ·exact hno m (by omega) hmi
theorem zmf (g : Gnd) (hg : zl g) (l : List Bld) (hl : l.length <= 1000000000000) (hb : ∀ b ∈ l, z7 b /\ onP g b) (st : Store) (R : AV -> Store -> Prop)
  (h : ∀ b, Fresh st b -> R (blV b g.T.length) (st.setObj b (.cells (bl g.T.length (yv g l))))) : ACalls Tryz.prog 219 [.agg (zt g), lst 6 zp l] st R := by
 have ha := y9 hg
 have hg1 := hg.1
 have hg2 := hg.2.1
 refine ACalls.of_body (c := cfg 70) zb Tryz.func219 (by rfl) (by rfl) (by rfl) (by rfl) ?_
 refine zc (by omega) ?_
 rw [<- ha.2.2]
 refine Cv rfl (it := ti88) (ie := ti4) rfl rfl rfl rfl rfl (n := g.T.length) ?_ ?_ (fun b hf => ?_)
 ·show 1 * _ <= _; omega
 ·omega
 rw [H5]
 refine AWp.loop (σ := Nat) ⟨fun i => [(1, .av (lst 6 zp l)), (2, .bx 2 0), (5, .av (blV b g.T.length)), (6, .av (int (i : Nat)))], fun _ => [(2, zt g)],
  fun i st' => i <= l.length /\ st' = st.setObj b (.cells (bl g.T.length (yv g (l.take i)))), fun i => l.length - i⟩ zb ?_ ?_
 ·exact ⟨0, Tv, ⟨Nat.zero_le _, rfl⟩, ⟨Tq, Tq, Tq, Tq, Tv⟩, ⟨rfl, Tv⟩⟩
 rintro i st' ⟨hi, rfl⟩
 refine zg (fun h1 => ?_) (fun h1 => ?_)
 rotate_left
 ·have : i = l.length := jh h1 hi
  subst this
  rw [List.take_length]
  exact ret (h b hf)
 have hlt : i < l.length := qy h1
 have hbi := hb l[i] (List.getElem_mem hlt)
 have hbi' := hbi
 unfold z7 onP at hbi'
 refine ⟨i, rfl, za _ (zj hlt) ?_⟩
 refine AWp.loop (σ := Nat) ⟨fun k => [(1, .av (lst 6 zp l)), (2, .bx 2 0), (5, .av (blV b g.T.length)), (6, .av (int (i : Nat))), (7, .av (int (l[i].y + (k : Nat))))], fun _ => [(2, zt g)],
  fun k st' => k <= l[i].h.toNat /\ st' = st.setObj b (.cells (bl g.T.length (kk g l i l[i] k 0))), fun k => l[i].h.toNat - k⟩ zb ?_ ?_
 ·refine ⟨0, Tv, ⟨Nat.zero_le _, ?_⟩, ⟨Tq, Tq, Tq, Tq, ?_, Tv⟩, ⟨rfl, Tv⟩⟩
  ·rw [zsr]
  ·rw [show l[i].y + ((0 : Nat) : Int) = l[i].y by omega]; exact Tq
 rintro k st' ⟨hk, rfl⟩
 refine ADraw.of_sched zb (by rfl) (by rfl) zj6 (by rfl) ?_
 refine ⟨i, rfl, za _ (zj hlt) ?_⟩
 refine ⟨i, rfl, za _ (zj hlt) ?_⟩
 refine zc (by omega) ?_
 refine bcd (fun h2 => ?_) (fun h2 => ?_)
 rotate_left
 ·have : k = l[i].h.toNat := by omega
  subst this
  refine zc (by omega) ?_
  refine ⟨i + 1, ?_, ⟨by omega, ?_⟩, ⟨Tq, Tq, Tq, Tq, Tv⟩, ⟨rfl, Tv⟩⟩
  ·show l.length - (i + 1) < l.length - i
   omega
  ·rw [zsu hlt (by omega)]
 refine ⟨i, rfl, za _ (zj hlt) ?_⟩
 refine AWp.loop (σ := Nat) ⟨fun m => [(1, .av (lst 6 zp l)), (2, .bx 2 0), (5, .av (blV b g.T.length)), (6, .av (int (i : Nat))), (7, .av (int (l[i].y + (k : Nat)))), (8, .av (int (l[i].x + (m : Nat))))], fun _ => [(2, zt g)],
  fun m st' => m <= l[i].w.toNat /\ st' = st.setObj b (.cells (bl g.T.length (kk g l i l[i] k m))), fun m => l[i].w.toNat - m⟩ zb ?_ ?_
 ·refine ⟨0, Tv, ⟨Nat.zero_le _, rfl⟩, ⟨Tq, Tq, Tq, Tq, Tq, ?_, Tv⟩, ⟨rfl, Tv⟩⟩
  rw [show l[i].x + ((0 : Nat) : Int) = l[i].x by omega]; exact Tq
 rintro m st' ⟨hm, rfl⟩
 refine ADraw.of_sched zb (by rfl) (by rfl) zj5 (by rfl) ?_
 refine ⟨i, rfl, za _ (zj hlt) ?_⟩
 refine ⟨i, rfl, za _ (zj hlt) ?_⟩
 refine zc (by omega) ?_
 refine bcd (fun h3 => ?_) (fun h3 => ?_)
 rotate_left
 ·have : m = l[i].w.toNat := by omega
  subst this
  refine zc (by omega) ?_
  refine ⟨k + 1, ?_, ⟨by omega, ?_⟩, ⟨Tq, Tq, Tq, Tq, ?_, Tv⟩, ⟨rfl, Tv⟩⟩
  ·show l[i].h.toNat - (k + 1) < l[i].h.toNat - k
   omega
  ·rw [zst _ _ _ _ _ (by omega)]
  ·rw [show l[i].y + ((k + 1 : Nat) : Int) = l[i].y + (k : Int) + 1 by omega]; exact Tq
 obtain ⟨q1, q2, _⟩ := C8 hg (x := l[i].x + m) (y := l[i].y + k) (by omega) (by omega)
 have q3 : 0 <= g.W * (l[i].y + (k : Int)) := Int.mul_nonneg (by omega) (by omega)
 obtain ⟨s1, s2⟩ := zss hg (l := l) (i := i) hbi (k := k) (m := m) (by omega) (by omega) (n := (l[i].x + (m : Int) + g.W * (l[i].y + (k : Int))).toNat) (by omega)
 refine zc (by omega) ?_
 refine zc (by omega) ?_
 refine ⟨(l[i].x + (m : Int) + g.W * (l[i].y + (k : Int))).toNat, by omega, by omega, ?_⟩
 refine qd (i := ti4) (v := V.bool true) (b := b) (o := 0 + (l[i].x + (m : Int) + g.W * (l[i].y + (k : Int))).toNat * 1) (l := bl g.T.length (kk g l i l[i] k m)) (st2 := st.setObj b (.cells (bl g.T.length (kk g l i l[i] k (m + 1))))) rfl rfl rfl (zd _ _ _) (by rw [jk]; omega) ?_ ?_
 ·rw [yr, show ∀ n : Nat, 0 + n * 1 = n by omega, <- s1, wt (by omega) _ s2]
 refine zc (by omega) ?_
 refine ⟨m + 1, ?_, ⟨by omega, rfl⟩, ⟨Tq, Tq, Tq, Tq, Tq, ?_, Tv⟩, ⟨rfl, Tv⟩⟩
 ·show l[i].w.toNat - (m + 1) < l[i].w.toNat - m
  omega
 ·rw [show l[i].x + ((m + 1 : Nat) : Int) = l[i].x + (m : Int) + 1 by omega]; exact Tq
theorem zoo (g : Gnd) (l : List Bld) (c : Int) (i : Nat) : yn g l c (i + 1) i = zw g l c i /\ ∀ s, s ≠ i -> yn g l c (i + 1) s = yn g l c i s := by
 unfold yn
 refine ⟨if_pos (by omega), fun s hs => ?_⟩
 by_cases h1 : s < i
 ·rw [if_pos (by omega), if_pos h1]
 ·rw [if_neg (by omega), if_neg h1]
theorem zli (g : Gnd) (hg : zl g) (l : List Bld) (hl : l.length <= 1000000000000) (hb : ∀ b ∈ l, z7 b /\ onP g b) (c : Int) (hc : c = 0 \/ c = 1 \/ c = 2) (st : Store) (R : AV -> Store -> Prop) (h : R (opV g l c) st) :
  ACalls Tryz.prog 145 [.agg (zt g), lst 6 zp l, int c] st R := by
 have ha := y9 hg
 refine ACalls.of_awp (c := cfg 37) zb Tryz.func145 (by rfl) (by rfl) (by rfl) (by rfl) ?_
 refine AWp.seq (AWp.of_vc zb ?_)
 refine AWp.seq (AWp.of_vc zb ?_)
 refine zmf g hg l hl hb _ _ (fun b hf => ?_)
 refine AWp.meetA (σ := Unit) ⟨fun _ => [(7, .av (blV b g.T.length))], fun _ => [], fun _ st' => st' = st.setObj b (.cells (bl g.T.length (zw g l c)))⟩ ?_ ?_
 ·refine AWp.of_vc zb ?_
  refine AWp.loop (σ := Nat) ⟨fun i => [(2, .av (int c)), (3, .bx 3 0), (7, .av (blV b g.T.length)), (8, .av (int (i : Nat)))], fun _ => [(3, zt g)],
   fun i st' => i <= g.T.length /\ st' = st.setObj b (.cells (bl g.T.length (yn g l c i))), fun i => g.T.length - i⟩ zb ?_ ?_
  ·refine ⟨0, Tv, ⟨Nat.zero_le _, ?_⟩, ⟨Tq, Tq, Tq, Tq, Tv⟩, ⟨rfl, Tv⟩⟩
   rw [show yn g l c 0 = yv g l from funext fun t => if_neg (Nat.not_lt_zero t)]
  rintro i st' ⟨hi, rfl⟩
  refine bcd (fun h1 => ?_) (fun h1 => ?_)
  rotate_left
  ·have : i = g.T.length := by omega
   subst this
   refine ⟨(), ?_, ⟨Tq, Tv⟩, Tv⟩
   have : bl g.T.length (yn g l c g.T.length) = bl g.T.length (zw g l c) := by
    unfold bl yn
    exact List.map_congr_left fun t ht => by rw [if_pos (List.mem_range.1 ht)]
   rw [this]
  have hlt : i < g.T.length := by omega
  obtain ⟨s1, s2⟩ := zoo g l c i
  have ho : (st.setObj b (.cells (bl g.T.length (yn g l c i)))).obj b = some (.cells (bl g.T.length (yn g l c i))) := zd _ _ _
  have hmid : yn g l c i i = yv g l i := if_neg (Nat.lt_irrefl i)
  have hhead : ((bl g.T.length (yn g l c i)).drop (0 + i * 1)).head? = some (V.bool (yv g l i)) := by
   rw [List.head?_drop, show 0 + i * 1 = i by omega, Ao hlt, hmid]
  refine ⟨i, rfl, hlt, ?_⟩
  refine za _ ho (za _ hhead ?_)
  have hti : g.T[i].toNat <= 5 := hg.2.2.2 _ (List.getElem_mem hlt)
  have hget : g.T.getD i 0 = g.T[i] := by simp [hlt]
  refine zg (fun c1 => ?_) (fun c1 => ?_)
  ·have c1 : yv g l i = false := by simpa using c1
   refine ⟨i, rfl, za _ (zj hlt) ?_⟩
   refine zsx c hc g.T[i] hti _ _ ?_
   have hz : decide (0 < je c g.T[i].toNat) = zw g l c i := by
    unfold zw
    rw [c1, hget]; rfl
   refine ⟨i, rfl, hlt, ?_⟩
   refine qd (i := ti4) (v := V.bool (decide (0 < je c g.T[i].toNat))) (b := b) (o := 0 + i * 1) (l := _) (st2 := st.setObj b (.cells (bl g.T.length (yn g l c (i + 1))))) rfl rfl rfl ho (by rw [jk]; omega) (by rw [yr, show 0 + i * 1 = i by omega, hz, <- s1, wt hlt _ s2]) ?_
   refine zc (by omega) ?_
   refine ⟨i + 1, ?_, ⟨by omega, rfl⟩, ⟨Tq, Tq, Tq, Tq, Tv⟩, ⟨rfl, Tv⟩⟩
   show g.T.length - (i + 1) < g.T.length - i
   omega
  ·have c1 : yv g l i = true := by simpa using c1
   have hz : false = zw g l c i := by
    unfold zw
    rw [c1]; rfl
   refine ⟨i, rfl, hlt, ?_⟩
   refine qd (i := ti4) (v := V.bool false) (b := b) (o := 0 + i * 1) (l := _) (st2 := st.setObj b (.cells (bl g.T.length (yn g l c (i + 1))))) rfl rfl rfl ho (by rw [jk]; omega) (by rw [yr, show 0 + i * 1 = i by omega, hz, <- s1, wt hlt _ s2]) ?_
   refine zc (by omega) ?_
   refine ⟨i + 1, ?_, ⟨by omega, rfl⟩, ⟨Tq, Tq, Tq, Tq, Tv⟩, ⟨rfl, Tv⟩⟩
   show g.T.length - (i + 1) < g.T.length - i
   omega
 ·rintro _ _ rfl
  refine AWp.freeze (d := 7) (b := b) (k := 1) (n := g.T.length) (cap := g.T.length) (rows := rws x8 (blL g.T.length (zw g l c))) (pad := []) rfl ?_ ?_ ?_ (Nat.le_refl _) ?_ ?_ ?_
  ·rw [Ke]; exact zd _ _ _
  ·exact hf.2
  ·rw [zu, j7]
  ·intro row hr
   obtain ⟨x, _, rfl⟩ := List.mem_map.1 hr
   rfl
  ·intro row hr y hy
   obtain ⟨x, _, rfl⟩ := List.mem_map.1 hr
   simp [x8] at hy
   exact ⟨_, hy, rfl⟩
  rw [Hz hf.1]
  refine AWp.of_vc zb ?_
  exact ret h
theorem zl4 (g : Gnd) (hg : zl g) (l : List Bld) (hl : l.length <= 1000000000000) (hb : ∀ b ∈ l, z7 b /\ onP g b) (c : Int) (hc : c = 0 \/ c = 1 \/ c = 2) (p : Vc) (hp : qu p.1 p.2) (r : Int) (hr : 0 < r /\ r <= 262144) (st : Store) (R : AV -> Store -> Prop)
  (h : ∀ z : Bool, (z = true ↔ ku g l c p r) -> R (V.bool z) st) : ACalls Tryz.prog 90 [.agg (zt g), lst 6 zp l, int c, .agg (zk p), int r] st R := by
 have ha := y9 hg
 have hg1 := hg.1
 have hg2 := hg.2.1
 have hp' := hp
 unfold qu at hp'
 have no : ¬ ku g l c p r -> R (V.bool false) st := fun hn => h false (by simp only [Bool.false_eq_true, false_iff]; exact hn)
 refine ACalls.of_body (c := cfg 65) zb Tryz.func90 (by rfl) (by rfl) (by rfl) (by rfl) ?_
 refine bcd (fun c1 => ret (no fun q => by have := q.1; omega)) (fun c1 => ?_)
 refine bcd (fun c2 => ret (no fun q => by have := q.1; omega)) (fun c2 => ?_)
 refine zc (by omega) ?_
 refine zc (by omega) ?_
 refine bcd (fun c3 => ret (no fun q => by have := q.1; omega)) (fun c3 => ?_)
 refine zc (by omega) ?_
 refine zc (by omega) ?_
 refine bcd (fun c4 => ret (no fun q => by have := q.1; omega)) (fun c4 => ?_)
 refine zli g hg l hl hb c hc _ _ ?_
 refine AWp.loop (σ := Nat) ⟨fun i => [(4, .av (int r)), (5, .bx 5 0), (8, .bx 8 0), (11, .av (opV g l c)), (12, .av (int (i : Nat)))], fun _ => [(5, zt g), (8, zk p)],
  fun i st' => i <= g.T.length /\ st' = st /\ ∀ t, t < i -> zw g l c t = false -> ¬ x4 g t p r, fun i => g.T.length - i⟩ zb ?_ ?_
 ·exact ⟨0, Tv, ⟨Nat.zero_le _, rfl, fun t ht => by omega⟩, ⟨Tq, Tq, Tq, Tq, Tq, Tv⟩, ⟨rfl, rfl, Tv⟩⟩
 rintro i st' ⟨hi, rfl, hall⟩
 refine zg (fun h1 => ?_) (fun h1 => ?_)
 rotate_left
 ·have h1 := jh h1 (by rw [j7]; exact hi)
  rw [j7] at h1
  subst h1
  exact ret (h true (by simp only [true_iff]; exact ⟨by omega, hall⟩))
 have hlt := qy h1
 rw [j7] at hlt
 refine ⟨i, rfl, za _ (fc hlt) ?_⟩
 have next : (zw g l c i = false -> ¬ x4 g i p r) -> ∀ t, t < i + 1 -> zw g l c t = false -> ¬ x4 g t p r := fun hq t ht hh => by
  by_cases e : t = i
  ·subst e; exact hq hh
  ·exact hall t (by omega) hh
 refine z8 ?_
 refine zg (fun c5 => ?_) (fun c5 => ?_)
 ·refine zc (by omega) ?_
  refine ⟨i + 1, ?_, ⟨by omega, rfl, next fun hh => by rw [c5] at hh; cases hh⟩, ⟨Tq, Tq, Tq, Tq, Tq, Tv⟩, ⟨rfl, rfl, Tv⟩⟩
  show g.T.length - (i + 1) < g.T.length - i
  omega
 refine zoq g hg i (by omega) p hp r hr _ _ ?_
 refine bcd (fun c6 => ?_) (fun c6 => ?_)
 ·exact ret (no fun q => q.2 i hlt c5 c6)
 ·refine zc (by omega) ?_
  refine ⟨i + 1, ?_, ⟨by omega, rfl, next fun _ => c6⟩, ⟨Tq, Tq, Tq, Tq, Tq, Tv⟩, ⟨rfl, rfl, Tv⟩⟩
  show g.T.length - (i + 1) < g.T.length - i
  omega
theorem zpw (g : Gnd) (hg : zl g) (t : Nat) (ht : (t : Int) < g.W * g.H) (x : Int) (hx : x = (t : Int)) (p : Vc) (hp : qu p.1 p.2) (r : Int) (hr : 0 < r /\ r <= 262144) (st : Store) (R : AV -> Store -> Prop) (h : R (V.bool (decide (x4 g t p r))) st) :
  ACalls Tryz.prog 214 [.agg (zt g), int x, .agg (zk p), int r] st R := by
 subst hx
 exact zpx g hg t ht p hp r hr st R h
set_option maxHeartbeats 1000000 in
theorem O4 (g : Gnd) (hg : zl g) (l : List Bld) (c : Int) (p : Vc) (hpo : p.ok) (r : Int) (hr : 0 < r /\ r <= 262144) (st : Store) (R : AV -> Store -> Prop)
  (h : ∀ z : Bool, (z = true ↔ ku g l c p r) -> R (V.bool z) st) : ACalls Tryz.prog 135 [.agg (zt g), opV g l c, .agg (zk p), int r] st R := by
 have ha := y9 hg
 have hg1 := hg.1
 have hg2 := hg.2.1
 have no : ¬ ku g l c p r -> R (V.bool false) st := fun hn => h false (by simp only [Bool.false_eq_true, false_iff]; exact hn)
 refine ACalls.of_body (c := cfg 112) zb Tryz.func135 (by rfl) (by rfl) (by rfl) (by rfl) ?_
 refine ADraw.of_sched zb (by rfl) (by rfl) zkr (by rfl) ?_
 refine zc (by omega) ?_
 refine zc (by omega) ?_
 refine ⟨⟨(by repeat (first | exact Tv | refine ⟨rfl, ?_⟩ | refine ⟨optR (optR (optR (za _ (zd _ _ _) rfl))), ?_⟩)), ?_⟩, Tv⟩
 refine ⟨⟨Tv, ?_⟩, Tv⟩
 refine zsi p r _ _ (fun z hz => ?_)
 refine z8 ?_
 refine zg (fun c0 => ?_) (fun c0 => ret (no fun q => by
  have := hz.2 ⟨⟨by omega, hr.2⟩, by unfold qu; have := q.1; omega⟩
  rw [this] at c0; cases c0))
 have hp := (hz.1 c0).2
 have hp' := hp
 unfold qu at hp'
 refine zc (by omega) ?_
 refine bcd (fun c1 => ret (no fun q => by have := q.1; omega)) (fun c1 => ?_)
 refine zc (by omega) ?_
 refine bcd (fun c2 => ret (no fun q => by have := q.1; omega)) (fun c2 => ?_)
 refine zc (by omega) ?_
 refine bcd (fun c3 => ret (no fun q => by have := q.1; omega)) (fun c3 => ?_)
 refine zc (by omega) ?_
 refine bcd (fun c4 => ret (no fun q => by have := q.1; omega)) (fun c4 => ?_)
 refine zc (by omega) ?_
 refine ⟨by decide, ?_⟩
 have hy0 : (p.2 - r).tdiv 65536 = (p.2 - r) / 65536 := Int.tdiv_eq_ediv_of_nonneg (by omega)
 have hx0 : (p.1 - r).tdiv 65536 = (p.1 - r) / 65536 := Int.tdiv_eq_ediv_of_nonneg (by omega)
 have hy1 : (p.2 + r).tdiv 65536 = (p.2 + r) / 65536 := Int.tdiv_eq_ediv_of_nonneg (by omega)
 have hx1 : (p.1 + r).tdiv 65536 = (p.1 + r) / 65536 := Int.tdiv_eq_ediv_of_nonneg (by omega)
 refine zc (by omega) ?_
 rw [hy0]
 refine AWp.loop (σ := Nat) ⟨fun k => [(1, .av (opV g l c)), (3, .av (int r)), (4, .bx 4 0), (6, .bx 6 0), (11, .av (int ((p.2 - r) / 65536 + (k : Nat))))], fun _ => [(4, zt g), (6, zk p)],
  fun k st' => st' = st /\ ((k : Int) <= g.H - (p.2 - r) / 65536 \/ k = 0) /\ Gi g l c p r ((p.2 - r) / 65536 + (k : Nat)), fun k => (g.H - (p.2 - r) / 65536).toNat - k⟩ zb ?_ ?_
 ·refine ⟨0, Tv, ⟨rfl, .inr rfl, ?_⟩, ⟨Tq, Tq, Tq, Tq, ?_, Tv⟩, ⟨rfl, rfl, Tv⟩⟩
  ·rw [show (p.2 - r) / 65536 + ((0 : Nat) : Int) = (p.2 - r) / 65536 by omega]
   exact ztc hr.1 (by omega)
  ·rw [show (p.2 - r) / 65536 + ((0 : Nat) : Int) = (p.2 - r) / 65536 by omega]; exact Tq
 rintro k st' ⟨rfl, hk, hup⟩
 refine zc (by omega) ?_
 refine ⟨by decide, ?_⟩
 refine zc (by omega) ?_
 rw [hy1]
 have done : (¬ ((p.2 - r) / 65536 + (k : Int) <= (p.2 + r) / 65536) \/ ¬ ((p.2 - r) / 65536 + (k : Int) < g.H)) -> R (V.bool true) st' := fun hh =>
  h true (by simp only [true_iff]; exact ⟨by omega, ztd hg hr.1 (by omega) hh hup⟩)
 refine bcd (fun c5 => ?_) (fun c5 => ret (done (.inl c5)))
 refine bcd (fun c6 => ?_) (fun c6 => ret (done (.inr c6)))
 refine zc (by omega) ?_
 refine ⟨by decide, ?_⟩
 refine zc (by omega) ?_
 rw [hx0]
 have hyb : 0 <= (p.2 - r) / 65536 := by omega
 have hxb : 0 <= (p.1 - r) / 65536 := by omega
 refine AWp.loop (σ := Nat) ⟨fun m => [(1, .av (opV g l c)), (3, .av (int r)), (4, .bx 4 0), (6, .bx 6 0), (11, .av (int ((p.2 - r) / 65536 + (k : Nat)))), (12, .av (int ((p.1 - r) / 65536 + (m : Nat))))], fun _ => [(4, zt g), (6, zk p)],
  fun m st2 => st2 = st' /\ ((m : Int) <= g.W - (p.1 - r) / 65536 \/ m = 0) /\ H0 g l c p r ((p.2 - r) / 65536 + (k : Nat)) ((p.1 - r) / 65536 + (m : Nat)), fun m => (g.W - (p.1 - r) / 65536).toNat - m⟩ zb ?_ ?_
 ·refine ⟨0, Tv, ⟨rfl, .inr rfl, ?_⟩, ⟨Tq, Tq, Tq, Tq, Tq, ?_, Tv⟩, ⟨rfl, rfl, Tv⟩⟩
  ·rw [show (p.1 - r) / 65536 + ((0 : Nat) : Int) = (p.1 - r) / 65536 by omega]
   exact ztf hr.1 (by omega)
  ·rw [show (p.1 - r) / 65536 + ((0 : Nat) : Int) = (p.1 - r) / 65536 by omega]; exact Tq
 rintro m st2 ⟨rfl, hm, hrow⟩
 refine zc (by omega) ?_
 refine ⟨by decide, ?_⟩
 refine zc (by omega) ?_
 rw [hx1]
 have done2 : (¬ ((p.1 - r) / 65536 + (m : Int) <= (p.1 + r) / 65536) \/ ¬ ((p.1 - r) / 65536 + (m : Int) < g.W)) -> Gi g l c p r ((p.2 - r) / 65536 + ((k + 1 : Nat) : Int)) := fun hh => by
  rw [Pw]
  exact ztg hg hr.1 (by omega) hh hup hrow
 have mu : (g.H - (p.2 - r) / 65536).toNat - (k + 1) < (g.H - (p.2 - r) / 65536).toNat - k := Ww (Int.lt_sub_left_of_add_lt c6)
 have step2 : LV.le (qg .i64 ((p.2 - r) / 65536 + (k : Int) + 1)) (.av (int ((p.2 - r) / 65536 + ((k + 1 : Nat) : Int)))) := by
  rw [Pw]; exact Tq
 refine bcd (fun c7 => ?_) (fun c7 => zc (by omega) ⟨k + 1, mu, ⟨rfl, .inl (Km c6), done2 (.inl c7)⟩, ⟨Tq, Tq, Tq, Tq, step2, Tv⟩, ⟨rfl, rfl, Tv⟩⟩)
 refine bcd (fun c8 => ?_) (fun c8 => zc (by omega) ⟨k + 1, mu, ⟨rfl, .inl (Km c6), done2 (.inr c8)⟩, ⟨Tq, Tq, Tq, Tq, step2, Tv⟩, ⟨rfl, rfl, Tv⟩⟩)
 obtain ⟨q1, q2, q3, q4⟩ := C8 hg (x := (p.1 - r) / 65536 + (m : Int)) (y := (p.2 - r) / 65536 + (k : Int)) (by omega) (by omega)
 have q5 : 0 <= g.W * ((p.2 - r) / 65536 + (k : Int)) := Int.mul_nonneg (by omega) (by omega)
 have hstep := zte (l := l) (c := c) (p := p) (r := r) hg (x := (p.1 - r) / 65536 + (m : Int)) (y := (p.2 - r) / 65536 + (k : Int)) (by omega) (by omega) hrow
 refine zc (by omega) ?_
 refine zc (by omega) ?_
 obtain ⟨n, hn⟩ : ∃ n : Nat, (n : Int) = (p.1 - r) / 65536 + (m : Int) + g.W * ((p.2 - r) / 65536 + (k : Int)) := ⟨_, Int.toNat_of_nonneg q1⟩
 rw [<- hn, Int.toNat_natCast] at hstep
 have hnl : n < g.T.length := by omega
 have mu2 : (g.W - (p.1 - r) / 65536).toNat - (m + 1) < (g.W - (p.1 - r) / 65536).toNat - m := Ww (Int.lt_sub_left_of_add_lt c8)
 have e2 : (p.1 - r) / 65536 + ((m + 1 : Nat) : Int) = (p.1 - r) / 65536 + (m : Int) + 1 := Pw _ _
 have step3 : LV.le (qg .i64 ((p.1 - r) / 65536 + (m : Int) + 1)) (.av (int ((p.1 - r) / 65536 + ((m + 1 : Nat) : Int)))) := by
  rw [e2]; exact Tq
 refine ⟨n, hn.symm, za _ (fc hnl) ?_⟩
 refine z8 ?_
 refine zg (fun c9 => ?_) (fun c9 => ?_)
 ·refine zc (by omega) ?_
  exact ⟨m + 1, mu2, ⟨rfl, .inl (Km c8), by rw [e2]; exact hstep fun hh => by rw [c9] at hh; cases hh⟩, ⟨Tq, Tq, Tq, Tq, Tq, step3, Tv⟩, ⟨rfl, rfl, Tv⟩⟩
 refine zpw g hg n (by omega) _ hn.symm p hp r hr _ _ ?_
 refine bcd (fun c10 => ?_) (fun c10 => ?_)
 ·exact ret (no fun q => q.2 n hnl c9 c10)
 ·refine zc (by omega) ?_
  exact ⟨m + 1, mu2, ⟨rfl, .inl (Km c8), by rw [e2]; exact hstep fun _ => c10⟩, ⟨Tq, Tq, Tq, Tq, Tq, step3, Tv⟩, ⟨rfl, rfl, Tv⟩⟩
theorem bd (x : Int) (st : Store) (R : AV -> Store -> Prop) (h : R (V.bool false) st) : ACalls Tryz.prog 139 [int x] st R := by
 refine ACalls.of_body (c := cfg 6) zb Tryz.func139 (by rfl) (by rfl) (by rfl) (by rfl) ?_
 refine ⟨_, st, Tt, Store.Has.refl st, ?_⟩
 have e : (x != x) = false := by simp
 rw [<- e] at h
 exact h
theorem zs7 (x y : Int) (st : Store) (R : AV -> Store -> Prop) (h : R (int (Gh x y)) st) : ACalls Tryz.prog 85 [int x, int y] st R := by
 refine ACalls.of_body (c := cfg 20) zb Tryz.func85 (by rfl) (by rfl) (by rfl) (by rfl) ?_
 refine bd _ _ _ ?_
 refine bd _ _ _ ?_
 unfold Gh at h
 refine zg (fun h1 => ⟨_, st, Tt, Store.Has.refl st, ?_⟩) (fun h1 => ?_)
 ·rw [if_pos (by simpa using h1)] at h
  exact h
 ·rw [if_neg (by simpa using h1)] at h
  refine zg (fun h2 => ⟨_, st, Tt, Store.Has.refl st, ?_⟩) (fun h2 => ⟨_, st, Tt, Store.Has.refl st, ?_⟩)
  ·rw [if_pos (by simpa using h2)] at h
   exact h
  ·rw [if_neg (by simpa using h2)] at h
   exact h
theorem fj (u : Unt) (id : Int) (st : Store) (R : AV -> Store -> Prop) (h : R (int (Gh u.id id)) st) : ACalls Tryz.prog 84 [.agg (ze u), int id] st R := by
 refine ACalls.of_body (c := cfg 9) zb Tryz.func84 (by rfl) (by rfl) (by rfl) (by rfl) ?_
 exact zs7 u.id id _ _ (ret h)
/-- Where an ID stands, or would stand. -/
def Ho (l : List Unt) (id : Int) (i : Nat) : Prop := i <= l.length /\ (∀ j, (h : j < l.length) -> j < i -> l[j].id < id) /\ ∀ j, (h : j < l.length) -> i <= j -> id <= l[j].id
theorem zts (l : List Unt) (hl : l.length <= 1000000000000) (hr : yf l) (id : Int) (st : Store) (R : AV -> Store -> Prop)
  (h : ∀ i, Ho l id i -> ∀ z : Bool, (z = true ↔ ∃ hi : i < l.length, l[i].id = id) -> R (.tup [int (i : Nat), V.bool z]) st) : ACalls Tryz.prog 83 [lst 10 ze l, int id, .clos 84 []] st R := by
 refine ACalls.of_body (c := cfg 49) zb Tryz.func83 (by rfl) (by rfl) (by rfl) (by rfl) ?_
 refine AWp.loop (σ := Nat × Nat) ⟨fun s => [(0, .av (lst 10 ze l)), (1, .av (int id)), (2, .av (.clos 84 [])), (8, .av (int (l.length : Nat))), (9, .av (int (s.1 : Nat))), (10, .av (int (s.2 : Nat)))], fun _ => [],
  fun s st' => st' = st /\ s.1 <= s.2 /\ s.2 <= l.length /\ (∀ j, (h : j < l.length) -> j < s.1 -> l[j].id < id) /\ ∀ j, (h : j < l.length) -> s.2 <= j -> id <= l[j].id, fun s => s.2 - s.1⟩ zb ?_ ?_
 ·refine ⟨(0, l.length), Tv, ⟨rfl, Nat.zero_le _, Nat.le_refl _, fun j _ hj => by omega, fun j hj hj2 => by omega⟩, ⟨Tq, Tq, Tq, ?_, Tq, ?_, Tv⟩, Tv⟩
  ·rw [<- zu (f := ze) l]; exact Tq
  ·rw [<- zu (f := ze) l]; exact Tq
 rintro ⟨i, j⟩ st' ⟨rfl, hij, hj, hlo, hhi⟩
 dsimp only at hij hj hlo hhi ⊢
 refine bcd (fun h1 => ?_) (fun h1 => ?_)
 rotate_left
 ·have e : i = j := by omega
  subst e
  have hat : Ho l id i := ⟨hj, hlo, hhi⟩
  refine bcd (fun h2 => ?_) (fun h2 => ?_)
  ·have hlt : i < l.length := by omega
   refine ⟨i, rfl, za _ (zj hlt) ?_⟩
   refine fj l[i] id _ _ ?_
   refine ret (h i hat _ ?_)
   have := hhi i hlt (Nat.le_refl _)
   unfold Gh
   rw [if_neg (by omega)]
   by_cases e : l[i].id = id
   ·rw [if_neg (by omega)]; simp [hlt, e]
   ·rw [if_pos (by omega)]; simp [e]
  ·exact ret (h i hat _ (by simp; omega))
 refine zc (by omega) ?_
 refine ⟨by decide, ?_⟩
 have hmid : (IntKind.u64.wrap ((i : Int) + (j : Int))).fdiv (2 ^ (min (1 : Int).toNat IntKind.u64.bits)) = (((i + j) / 2 : Nat) : Int) := by
  have e1 : IntKind.u64.wrap ((i : Int) + (j : Int)) = ((i + j : Nat) : Int) := by
   simp [IntKind.wrap, IntKind.bits, IntKind.signed]; omega
  have e2 : (2 : Int) ^ (min (1 : Int).toNat IntKind.u64.bits) = 2 := rfl
  have e3 : (((i + j : Nat) : Int)).fdiv 2 = (((i + j) / 2 : Nat) : Int) := by
   rw [Int.fdiv_eq_ediv_of_nonneg _ (by decide)]; rfl
  rw [e1, e2, e3]
 have hk1 : (i + j) / 2 < j := by omega
 have hk2 : i <= (i + j) / 2 := by omega
 have hkl : (i + j) / 2 < l.length := by omega
 have hmono : ∀ a b, (ha : a < l.length) -> (hb : b < l.length) -> a <= b -> l[a].id <= l[b].id := by
  intro a b ha hb hab
  induction b with
  | zero =>
   have : a = 0 := by omega
   subst this; exact Int.le_refl _
  | succ b ih =>
   by_cases e : a = b + 1
   ·subst e; exact Int.le_refl _
   ·have h2 := ih (by omega) (by omega)
    have h3 := hr (b + 1) hb (by omega)
    simp only [Nat.add_sub_cancel] at h3
    omega
 refine ⟨by rw [hmid]; exact ⟨by omega, by omega⟩, ?_⟩
 refine ⟨(i + j) / 2, hmid, za _ (zj hkl) ?_⟩
 refine fj l[(i + j) / 2] id _ _ ?_
 have hc : Gh l[(i + j) / 2].id id < 0 ↔ l[(i + j) / 2].id < id := by
  unfold Gh; split
  ·omega
  ·split <;> omega
 refine bcd (fun h2 => ?_) (fun h2 => ?_)
 ·have h2 := hc.1 h2
  refine zc (by rw [hmid]; omega) ?_
  refine ⟨((i + j) / 2 + 1, j), ?_, ⟨rfl, by dsimp only; omega, hj, fun a ha ha2 => ?_, hhi⟩, ⟨Tq, Tq, Tq, Tq, ?_, Tq, Tv⟩, Tv⟩
  ·show j - ((i + j) / 2 + 1) < j - i
   omega
  ·have := hmono a ((i + j) / 2) ha hkl (by dsimp only at ha2; omega)
   omega
  ·dsimp only
   exact (congrArg (fun n : Int => LV.le (qg .i64 (n + 1)) (.av (int (((i + j) / 2 + 1 : Nat) : Int)))) hmid).mpr (Tq)
 ·have h2 : ¬ l[(i + j) / 2].id < id := fun hh => h2 (hc.2 hh)
  refine ⟨(i, (i + j) / 2), ?_, ⟨rfl, hk2, by dsimp only; omega, hlo, fun a ha ha2 => ?_⟩, ⟨Tq, Tq, Tq, Tq, Tq, ?_, Tv⟩, Tv⟩
  ·show (i + j) / 2 - i < j - i
   omega
  ·have := hmono ((i + j) / 2) a hkl ha (by dsimp only at ha2; omega)
   omega
  ·dsimp only
   exact (congrArg (fun n : Int => LV.le (qg .i64 n) (.av (int (((i + j) / 2 : Nat) : Int)))) hmid).mpr (Tq)
theorem H6 (l : List Unt) (hl : l.length <= 1000000000000) (hr : yf l) (id : Int) (st : Store) (R : AV -> Store -> Prop)
  (h : ∀ i, Ho l id i -> ∀ z : Bool, (z = true ↔ ∃ hi : i < l.length, l[i].id = id) -> R (.tup [int (i : Nat), V.bool z]) st) : ACalls Tryz.prog 41 [lst 10 ze l, int id] st R := by
 refine ACalls.of_body (c := cfg 11) zb Tryz.func41 (by rfl) (by rfl) (by rfl) (by rfl) ?_
 exact zts l hl hr id _ _ fun i hi z hz => ret (h i hi z hz)
/-- The cells beside something else. -/
theorem ep {F S : Store} {p : Nat} {l : List Ent} (hc : CellsOf F p l) (hd : zi F S) (hl : l.length <= 1000000000) (hok : ∀ e ∈ l, e.2.ok) (id : Int) (R : AV -> Store -> Prop)
  (h : ∀ F', CellsOf F' p (yi l id) -> zi F' S -> R (V.bool (l.find? (jl id)).isSome) (F'.un S)) : ACalls Tryz.prog 150 [ptr p, int id] (F.un S) R :=
 ACalls.frame (R := fun r a' => r = V.bool (l.find? (jl id)).isSome /\ CellsOf a' p (yi l id)) hd (ei hc hl hok id _ fun a' ha' => ⟨rfl, ha'⟩) fun r a' ⟨h1, h2⟩ hd' => h1 ▸ h a' h2 hd'
theorem H3 {F S : Store} {p : Nat} {l : List Ent} (hc : CellsOf F p l) (hd : zi F S) (hl : l.length <= 1000000000) (hok : ∀ e ∈ l, e.2.ok) (id : Int) (pos : Vc) (hpos : pos.ok) (R : AV -> Store -> Prop)
  (h : ∀ F', CellsOf F' p (yi l id ++ [(id, pos)]) -> zi F' S -> R (.tup []) (F'.un S)) : ACalls Tryz.prog 133 [ptr p, int id, .agg (zk pos)] (F.un S) R :=
 ACalls.frame (R := fun r a' => r = .tup [] /\ CellsOf a' p (yi l id ++ [(id, pos)])) hd (ztm hc hl hok id pos hpos _ fun a' ha' => ⟨rfl, ha'⟩) fun r a' ⟨h1, h2⟩ hd' => h1 ▸ h a' h2 hd'
theorem Px {F S : Store} {p : Nat} {l : List Ent} (hc : CellsOf F p l) (hd : zi F S) (hl : l.length <= 1000000000) (hok : ∀ e ∈ l, e.2.ok) {q : Vc} (hq : q.ok) {r : Int} (hr : z6 r) (R : AV -> Store -> Prop)
  (h : ∀ F' N v ns, CellsOf F' p l -> zi F' N -> zi F' S -> zi N S -> Ints N v ns -> Ie l q r ns -> R v ((F'.un N).un S)) : ACalls Tryz.prog 216 [ptr p, .agg (zk q), int r] (F.un S) R :=
 ACalls.frame (R := fun v a' => ∃ F' N ns, a' = F'.un N /\ CellsOf F' p l /\ zi F' N /\ Ints N v ns /\ Ie l q r ns) hd (ztn hc hl hok hq hr _ fun F' N v ns h1 h2 h3 h4 => ⟨F', N, ns, rfl, h1, h2, h3, h4⟩)
  fun v a' ⟨F', N, ns, h1, h2, h3, h4, h5⟩ hd' => by subst h1; exact h F' N v ns h2 h3 (disj_un.1 hd').1 (disj_un.1 hd').2 h4 h5
def stC (w : Wld) (o0 o1 o2 : AV) (p : Nat) : List AV := zr w ++ [o0, o1, o2, ptr p]
def stS (s : Nat) (w : Wld) (o0 o1 o2 : AV) (p : Nat) : Store := Store.empty.setObj s (.cells (stC w o0 o1 o2 p))
def Bb (w : Wld) (c : Int) (o : AV) : Prop := o = .s (.slice none 0 0) \/ o = opV w.G w.B c
/-- A stand: who stands in its cells. -/
structure StandAt (F : Store) (s p : Nat) (w : Wld) (L : List Ent) (o0 o1 o2 : AV) : Prop where
 hc : CellsOf F p L
 hd : zi F (stS s w o0 o1 o2 p)
 h0 : Bb w 0 o0
 h1 : Bb w 1 o1
 h2 : Bb w 2 o2
theorem Ax (s : Nat) (w : Wld) (o0 o1 o2 : AV) (p : Nat) : (stS s w o0 o1 o2 p).obj s = some (.cells (stC w o0 o1 o2 p)) := zd _ _ _
theorem stS_has {s : Nat} {w : Wld} {o0 o1 o2 : AV} {p i : Nat} : (stS s w o0 o1 o2 p).has i ↔ i = s := by
 unfold Store.has stS
 constructor
 ·rintro (h | h)
  ·apply Decidable.byContradiction
   intro hn
   rw [zq hn] at h
   exact h rfl
  ·exact absurd rfl h
 ·rintro rfl
  exact .inl (by rw [zd]; simp)
theorem Pk {F : Store} {s : Nat} {w : Wld} {o0 o1 o2 q0 q1 q2 : AV} {p : Nat} (h : zi F (stS s w o0 o1 o2 p)) : zi F (stS s w q0 q1 q2 p) := fun i h1 h2 => h i h1 (stS_has.2 (stS_has.1 h2))
theorem Hc {l : List Unt} (hr : yf l) {a b : Nat} (hab : a < b) (hb : b < l.length) : (l[a]'(by omega)).id < l[b].id := by
 induction b with
 | zero => omega
 | succ b ih =>
  have h3 := hr (b + 1) hb (by omega)
  simp only [Nat.add_sub_cancel] at h3
  by_cases e : a = b
  ·subst e; exact h3
  ·have := ih (by omega) (by omega)
   omega
theorem znp (w : Wld) (hU : w.U.length <= 1000000) (hn : ∀ u ∈ w.U, u.pos.ok) (R : AV -> Store -> Prop)
  (h : ∀ F s p L o0 o1 o2, StandAt F s p w L o0 o1 o2 -> L.length <= w.U.length -> (yf w.U -> ∀ e, e ∈ L ↔ ∃ u ∈ w.U, u.inn = 0 /\ e = (u.id, u.pos)) -> R (ptr s) (F.un (stS s w o0 o1 o2 p))) : ACalls Tryz.prog 80 [.agg (zr w)] Store.empty R := by
 refine ACalls.of_body (c := cfg 31 [9] []) zb Tryz.func80 (by rfl) (by rfl) (by rfl) (by rfl) ?_
 refine ADraw.of_sched zb (by rfl) (by rfl) Nf (by rfl) ?_
 refine ⟨ej _ (fun F p hc => ⟨(by repeat (first | exact Tv | refine ⟨rfl, ?_⟩ | refine ⟨optR (optR (optR (za _ (zd _ _ _) rfl))), ?_⟩)), ?_⟩), Tv⟩
 refine ⟨fun s hs => ⟨Tv, ?_⟩, Tv⟩
 refine ⟨⟨Tv, ?_⟩, Tv⟩
 have e0 : F.setObj s (.cells (stC w (.s (.slice none 0 0)) (.s (.slice none 0 0)) (.s (.slice none 0 0)) p)) = F.un (stS s w (.s (.slice none 0 0)) (.s (.slice none 0 0)) (.s (.slice none 0 0)) p) := by
  exact yx F Store.empty s _
 have h0 : StandAt F s p w [] (.s (.slice none 0 0)) (.s (.slice none 0 0)) (.s (.slice none 0 0)) := ⟨hc, fun i h1 h2 => by
  have := stS_has.1 h2
  subst this
  exact (fresh_iff.1 hs) h1, .inl rfl, .inl rfl, .inl rfl⟩
 refine AWp.loop (σ := Nat × Store × List Ent) ⟨fun q => [(3, .av (ptr s)), (11, .av (lst 10 ze w.U)), (12, .av (int (w.U.length : Nat))), (13, .av (int (q.1 : Nat)))], fun _ => [],
  fun q st' => st' = q.2.1.un (stS s w (.s (.slice none 0 0)) (.s (.slice none 0 0)) (.s (.slice none 0 0)) p) /\ StandAt q.2.1 s p w q.2.2 (.s (.slice none 0 0)) (.s (.slice none 0 0)) (.s (.slice none 0 0)) /\ q.1 <= w.U.length /\ q.2.2.length <= q.1 /\ (∀ e ∈ q.2.2, e.2.ok) /\ (yf w.U -> ∀ e, e ∈ q.2.2 ↔ ∃ u ∈ w.U.take q.1, u.inn = 0 /\ e = (u.id, u.pos)), fun q => w.U.length - q.1⟩ zb ?_ ?_
 ·refine ⟨(0, F, []), Tv, ⟨e0, h0, Nat.zero_le _, Nat.le_refl _, fun e he => (by cases he), fun _ e => (by simp)⟩, ⟨Tq, Tq, ?_, Tq, Tv⟩, Tv⟩
  rw [<- zu (f := ze) w.U]; exact Tq
 rintro ⟨i, F1, L⟩ st' ⟨rfl, hS, hi, hL, hok, hmem⟩
 dsimp only at hS hi hL hok hmem ⊢
 refine bcd (fun h1 => ?_) (fun h1 => ?_)
 rotate_left
 ·have : i = w.U.length := by omega
  subst this
  rw [List.take_length] at hmem
  exact ret (h F1 s p L _ _ _ hS hL hmem)
 have hlt : i < w.U.length := by omega
 refine ⟨i, rfl, za _ (zj hlt) ?_⟩
 have hn2 := hn w.U[i] (List.getElem_mem hlt)
 refine yp (fun c1 => ?_) (fun c1 => ?_)
 ·refine ADraw.of_sched zb (by rfl) (by rfl) Nd (by rfl) ?_
  refine za (o := (F1.un (stS s w _ _ _ p)).obj s) _ (zf (Ax s w _ _ _ p)) ?_
  refine ⟨H3 hS.hc hS.hd (by omega) hok w.U[i].id w.U[i].pos hn2 _ (fun F2 h2 h3 => ⟨Tv, ?_⟩), Tv⟩
  have hlen : (yi L w.U[i].id ++ [(w.U[i].id, w.U[i].pos)]).length <= i + 1 := by
   rw [List.length_append]
   have : (yi L w.U[i].id).length <= L.length := List.length_filter_le _ _
   simp only [List.length_singleton]; omega
  refine zc (by omega) ?_
  refine ⟨(i + 1, F2, _), ?_, ⟨rfl, ⟨h2, h3, .inl rfl, .inl rfl, .inl rfl⟩, by dsimp only; omega, hlen, fun e he => ?_, fun hr e => ?_⟩, ⟨Tq, Tq, Tq, Tq, Tv⟩, Tv⟩
  ·show w.U.length - (i + 1) < w.U.length - i
   omega
  ·rcases List.mem_append.1 he with he | he
   ·exact hok e (mem_dropId.1 he).1
   ·simp at he; subst he; exact hn2
  ·dsimp only
   rw [List.take_succ_eq_append_getElem hlt, List.mem_append, mem_dropId, hmem hr e]
   constructor
   ·rintro (⟨⟨u, hu, h4⟩, _⟩ | he)
    ·exact ⟨u, List.mem_append.2 (.inl hu), h4⟩
    ·simp at he
     exact ⟨w.U[i], List.mem_append.2 (.inr (by simp)), c1, he⟩
   ·rintro ⟨u, hu, h4, h5⟩
    rcases List.mem_append.1 hu with hu | hu
    ·refine .inl ⟨⟨u, hu, h4, h5⟩, ?_⟩
     obtain ⟨j, hj, rfl⟩ := List.getElem_of_mem hu
     rw [List.length_take] at hj
     rw [List.getElem_take] at h5
     have := Hc hr (a := j) (b := i) (by omega) hlt
     subst h5
     show w.U[j].id ≠ w.U[i].id
     omega
    ·simp at hu
     subst hu
     exact .inr (by simp [h5])
 ·refine zc (by omega) ?_
  refine ⟨(i + 1, F1, L), ?_, ⟨rfl, hS, by dsimp only; omega, by dsimp only; omega, hok, fun hr e => ?_⟩, ⟨Tq, Tq, Tq, Tq, Tv⟩, Tv⟩
  ·show w.U.length - (i + 1) < w.U.length - i
   omega
  ·dsimp only
   rw [hmem hr e, List.take_succ_eq_append_getElem hlt]
   constructor
   ·rintro ⟨u, hu, h3⟩; exact ⟨u, List.mem_append.2 (.inl hu), h3⟩
   ·rintro ⟨u, hu, h3, h4⟩
    rcases List.mem_append.1 hu with hu | hu
    ·exact ⟨u, hu, h3, h4⟩
    ·simp at hu
     subst hu
     exact absurd h3 c1
theorem jg {g : Gnd} (hg : zl g) (l : List Bld) (c : Int) : ∃ x y, opV g l c = .lst 1 (x :: y) none := by
 have ha := y9 hg
 unfold opV lst
 cases h : rws x8 (blL g.T.length (zw g l c)) with
 | nil =>
  have := zu (f := x8) (blL g.T.length (zw g l c))
  rw [h, j7] at this
  simp at this
  omega
 | cons x y => exact ⟨x, y, rfl⟩
theorem Bn {v : AV} (h : ∃ x y, v = .lst 1 (x :: y) none) : cellsOf v = some [v] /\ v.one = true := by
 obtain ⟨x, y, rfl⟩ := h
 exact ⟨rfl, rfl⟩
theorem zht {F : Store} {s p : Nat} {w : Wld} {L : List Ent} {o0 o1 o2 : AV} (hS : StandAt F s p w L o0 o1 o2) (hg : zl w.G) (hB : w.B.length <= 1000000000000) (hb : ∀ b ∈ w.B, z7 b /\ onP w.G b) (c : Int) (hc : c = 0 \/ c = 1 \/ c = 2) (R : AV -> Store -> Prop)
  (h : ∀ q0 q1 q2, StandAt F s p w L q0 q1 q2 -> R (opV w.G w.B c) (F.un (stS s w q0 q1 q2 p))) : ACalls Tryz.prog 136 [ptr s, int c] (F.un (stS s w o0 o1 o2 p)) R := by
 have ho := zf (a := F) (Ax s w o0 o1 o2 p)
 obtain ⟨x0, y0, hne0⟩ := jg hg w.B 0
 obtain ⟨x1, y1, hne1⟩ := jg hg w.B 1
 obtain ⟨x2, y2, hne2⟩ := jg hg w.B 2
 rcases hc with rfl | rfl | rfl
 ·rcases hS.h0 with e | e
  ·subst e
   refine ACalls.of_body (c := cfg 35) zb Tryz.func136 (by rfl) (by rfl) (by rfl) (by rfl) ?_
   refine ⟨0, rfl, by decide, ?_⟩
   refine za (o := (F.un (stS s w _ _ _ p)).obj s) _ ho ?_
   refine ADraw.of_sched zb (by rfl) (by rfl) Ay (by rfl) ?_
   refine za (o := (F.un (stS s w _ _ _ p)).obj s) _ ho ?_
   refine za (o := (F.un (stS s w _ _ _ p)).obj s) _ ho ?_
   refine ⟨Dw w.G hg w.B hB hb 0 _ _ ⟨Tv, ?_⟩, Tv⟩
   refine ⟨0, rfl, by decide, ?_⟩
   have ho2 := zf (a := F) (Ax s w (opV w.G w.B 0) o1 o2 p)
   have hc2 := Bn (jg hg w.B 0)
   refine ⟨?_, Tv⟩
   refine za _ rfl (xo rfl (xh (v := opV w.G w.B 0) rfl rfl rfl rfl ?_))
   refine qd (i := ti88) (v := opV w.G w.B 0) (b := s) (o := 0 + 8 + 0 * ti88.size) (l := stC w _ o1 o2 p) (st2 := F.un (stS s w (opV w.G w.B 0) o1 o2 p)) hc2.1 hc2.2 rfl ho (show 8 + 1 <= 12 by decide) ?_ ?_
   ·rw [yx]
    unfold stS
    rw [yr]
    rfl
   refine ⟨Tv, ?_⟩
   refine ⟨0, rfl, by decide, ?_⟩
   refine za (o := (F.un (stS s w _ _ _ p)).obj s) _ ho2 ?_
   exact ret (h _ _ _ ⟨hS.hc, Pk hS.hd, .inr rfl, hS.h1, hS.h2⟩)
  ·rw [hne0] at e
   subst e
   refine ACalls.of_body (c := cfg 35) zb Tryz.func136 (by rfl) (by rfl) (by rfl) (by rfl) ?_
   refine ⟨0, rfl, by decide, ?_⟩
   refine za (o := (F.un (stS s w _ _ _ p)).obj s) _ ho ?_
   refine fun bb hbb => ?_
   have hbf : bb = false := by
    cases bb with
    | true => cases hbb rfl
    | false => rfl
   subst hbf
   refine ⟨0, rfl, by decide, ?_⟩
   refine za (o := (F.un (stS s w _ _ _ p)).obj s) _ ho ?_
   refine ret ?_
   have := h _ _ _ hS
   rw [hne0] at this
   exact this
 ·rcases hS.h1 with e | e
  ·subst e
   refine ACalls.of_body (c := cfg 35) zb Tryz.func136 (by rfl) (by rfl) (by rfl) (by rfl) ?_
   refine ⟨1, rfl, by decide, ?_⟩
   refine za (o := (F.un (stS s w _ _ _ p)).obj s) _ ho ?_
   refine ADraw.of_sched zb (by rfl) (by rfl) Ay (by rfl) ?_
   refine za (o := (F.un (stS s w _ _ _ p)).obj s) _ ho ?_
   refine za (o := (F.un (stS s w _ _ _ p)).obj s) _ ho ?_
   refine ⟨Dw w.G hg w.B hB hb 1 _ _ ⟨Tv, ?_⟩, Tv⟩
   refine ⟨1, rfl, by decide, ?_⟩
   have ho2 := zf (a := F) (Ax s w o0 (opV w.G w.B 1) o2 p)
   have hc2 := Bn (jg hg w.B 1)
   refine ⟨?_, Tv⟩
   refine za _ rfl (xo rfl (xh (v := opV w.G w.B 1) rfl rfl rfl rfl ?_))
   refine qd (i := ti88) (v := opV w.G w.B 1) (b := s) (o := 0 + 8 + 1 * ti88.size) (l := stC w o0 _ o2 p) (st2 := F.un (stS s w o0 (opV w.G w.B 1) o2 p)) hc2.1 hc2.2 rfl ho (show 9 + 1 <= 12 by decide) ?_ ?_
   ·rw [yx]
    unfold stS
    rw [yr]
    rfl
   refine ⟨Tv, ?_⟩
   refine ⟨1, rfl, by decide, ?_⟩
   refine za (o := (F.un (stS s w _ _ _ p)).obj s) _ ho2 ?_
   exact ret (h _ _ _ ⟨hS.hc, Pk hS.hd, hS.h0, .inr rfl, hS.h2⟩)
  ·rw [hne1] at e
   subst e
   refine ACalls.of_body (c := cfg 35) zb Tryz.func136 (by rfl) (by rfl) (by rfl) (by rfl) ?_
   refine ⟨1, rfl, by decide, ?_⟩
   refine za (o := (F.un (stS s w _ _ _ p)).obj s) _ ho ?_
   refine fun bb hbb => ?_
   have hbf : bb = false := by
    cases bb with
    | true => cases hbb rfl
    | false => rfl
   subst hbf
   refine ⟨1, rfl, by decide, ?_⟩
   refine za (o := (F.un (stS s w _ _ _ p)).obj s) _ ho ?_
   refine ret ?_
   have := h _ _ _ hS
   rw [hne1] at this
   exact this
 ·rcases hS.h2 with e | e
  ·subst e
   refine ACalls.of_body (c := cfg 35) zb Tryz.func136 (by rfl) (by rfl) (by rfl) (by rfl) ?_
   refine ⟨2, rfl, by decide, ?_⟩
   refine za (o := (F.un (stS s w _ _ _ p)).obj s) _ ho ?_
   refine ADraw.of_sched zb (by rfl) (by rfl) Ay (by rfl) ?_
   refine za (o := (F.un (stS s w _ _ _ p)).obj s) _ ho ?_
   refine za (o := (F.un (stS s w _ _ _ p)).obj s) _ ho ?_
   refine ⟨Dw w.G hg w.B hB hb 2 _ _ ⟨Tv, ?_⟩, Tv⟩
   refine ⟨2, rfl, by decide, ?_⟩
   have ho2 := zf (a := F) (Ax s w o0 o1 (opV w.G w.B 2) p)
   have hc2 := Bn (jg hg w.B 2)
   refine ⟨?_, Tv⟩
   refine za _ rfl (xo rfl (xh (v := opV w.G w.B 2) rfl rfl rfl rfl ?_))
   refine qd (i := ti88) (v := opV w.G w.B 2) (b := s) (o := 0 + 8 + 2 * ti88.size) (l := stC w o0 o1 _ p) (st2 := F.un (stS s w o0 o1 (opV w.G w.B 2) p)) hc2.1 hc2.2 rfl ho (show 10 + 1 <= 12 by decide) ?_ ?_
   ·rw [yx]
    unfold stS
    rw [yr]
    rfl
   refine ⟨Tv, ?_⟩
   refine ⟨2, rfl, by decide, ?_⟩
   refine za (o := (F.un (stS s w _ _ _ p)).obj s) _ ho2 ?_
   exact ret (h _ _ _ ⟨hS.hc, Pk hS.hd, hS.h0, hS.h1, .inr rfl⟩)
  ·rw [hne2] at e
   subst e
   refine ACalls.of_body (c := cfg 35) zb Tryz.func136 (by rfl) (by rfl) (by rfl) (by rfl) ?_
   refine ⟨2, rfl, by decide, ?_⟩
   refine za (o := (F.un (stS s w _ _ _ p)).obj s) _ ho ?_
   refine fun bb hbb => ?_
   have hbf : bb = false := by
    cases bb with
    | true => cases hbb rfl
    | false => rfl
   subst hbf
   refine ⟨2, rfl, by decide, ?_⟩
   refine za (o := (F.un (stS s w _ _ _ p)).obj s) _ ho ?_
   refine ret ?_
   have := h _ _ _ hS
   rw [hne2] at this
   exact this
theorem zih {F : Store} {s p : Nat} {w : Wld} {L : List Ent} {o0 o1 o2 : AV} (hS : StandAt F s p w L o0 o1 o2) (hr : yf w.U) (hU : w.U.length <= 1000000) (hn : ∀ u ∈ w.U, u.pos.ok) (hLl : L.length <= w.U.length) (hL : j3 w L) (q : Vc) (hq : q.ok) (r : Int) (hrr : 0 < r /\ r <= 262144) (R : AV -> Store -> Prop)
  (h : ∀ F' us, StandAt F' s p w L o0 o1 o2 -> Be w q (r + 81920) us -> us.length <= 1000000 -> R (lst 10 ze us) (F'.un (stS s w o0 o1 o2 p))) : ACalls Tryz.prog 137 [ptr s, .agg (zk q), int r] (F.un (stS s w o0 o1 o2 p)) R := by
 have ho := zf (a := F) (Ax s w o0 o1 o2 p)
 refine ACalls.of_body (c := cfg 47) zb Tryz.func137 (by rfl) (by rfl) (by rfl) (by rfl) ?_
 refine ADraw.of_sched zb (by rfl) (by rfl) Ni (by rfl) ?_
 refine za (o := (F.un (stS s w _ _ _ p)).obj s) _ ho ?_
 refine zc (by omega) ?_
 refine ⟨Px hS.hc hS.hd (by omega) (Hk hL hn) hq (r := r + 81920) ⟨by omega, by omega⟩ _ (fun F' N v ns g1 g2 g3 g4 g5 g6 => ⟨Tv, ?_⟩), Tv⟩
 have hS' : StandAt F' s p w L o0 o1 o2 := ⟨g1, g3, hS.h0, hS.h1, hS.h2⟩
 have ho' : ((F'.un N).un (stS s w o0 o1 o2 p)).obj s = some (.cells (stC w o0 o1 o2 p)) := zf (Ax s w o0 o1 o2 p)
 have g4' : zi (F'.un N) (stS s w o0 o1 o2 p) := disj_un.2 ⟨g3, g4⟩
 have hv : ∃ oa cap, v = .s (.slice oa ns.length cap) /\ ∀ i, i < ns.length -> ∃ b J, oa = some ⟨b, 0, none⟩ /\ ((F'.un N).un (stS s w o0 o1 o2 p)).obj b = some (.cells (ns.map aI ++ J)) := by
  rcases Fz g5 with ⟨rfl, rfl⟩ | ⟨b, cap, J, rfl, hob, _⟩
  ·exact ⟨none, 0, rfl, fun i hi => absurd hi (Nat.not_lt_zero i)⟩
  ·exact ⟨_, cap, rfl, fun i _ => ⟨b, J, rfl, y3 g4' (zf hob)⟩⟩
 obtain ⟨oa, cap, rfl, hget⟩ := hv
 have hnl : ns.length <= w.U.length := by
  have := List.Nodup.length_le_of_subset (l₂ := L.map (·.1)) (g6.1.imp fun h => by omega) (fun id hid => by
   obtain ⟨e, he, h2, _⟩ := (g6.2 id).1 hid
   exact List.mem_map.2 ⟨e, he, h2⟩)
  rw [List.length_map] at this
  omega
 have hfin : ∀ us : List Unt, us.map (·.id) = ns -> (∀ u ∈ us, u ∈ w.U /\ u.inn = 0) -> R (lst 10 ze us) (F'.un (stS s w o0 o1 o2 p)) := fun us e1 e2 =>
  h F' us hS' (N5 hr hL g6 e1 e2) (by
   have := congrArg List.length e1
   rw [List.length_map] at this
   omega)
 have hback := Ov (S := stS s w o0 o1 o2 p) g2
 generalize (F'.un N).un (stS s w o0 o1 o2 p) = st1 at *
 refine AWp.loop (σ := Nat × AV × List Unt) ⟨fun x => [(0, .av (ptr s)), (6, .av x.2.1), (18, .av (.s (.slice oa ns.length cap))), (19, .av (int (ns.length : Nat))), (20, .av (int (x.1 : Nat)))], fun _ => [],
  fun x st' => x.1 <= ns.length /\ App 10 st1 x.2.1 (rws ze x.2.2) st' /\ x.2.2.map (·.id) = ns.take x.1 /\ ∀ u ∈ x.2.2, u ∈ w.U /\ u.inn = 0, fun x => ns.length - x.1⟩ zb ?_ ?_
 ·exact ⟨(0, _, []), Tv, ⟨Nat.zero_le _, App.start 10 st1, rfl, fun u hu => (by cases hu)⟩, ⟨Tq, Tq, Tq, Tq, Tq, Tv⟩, Tv⟩
 rintro ⟨i, v2, us⟩ st' ⟨hi, ha, hus, hin⟩
 dsimp only at hi ha hus hin ⊢
 refine bcd (fun h1 => ?_) (fun h1 => ?_)
 rotate_left
 ·have : i = ns.length := by omega
  subst this
  rw [List.take_length] at hus
  exact ⟨_, _, AV.le_trans ha.le (Tt), ha.has.trans hback, hfin us hus hin⟩
 have hlt : i < ns.length := by omega
 obtain ⟨b, J, rfl, hob⟩ := hget i hlt
 have hob' : st'.obj b = some (.cells (ns.map aI ++ J)) := by rw [ha.obj]; exact hob
 have hos : st'.obj s = some (.cells (stC w o0 o1 o2 p)) := by rw [ha.obj]; exact ho'
 refine ⟨i, rfl, hlt, ?_⟩
 refine za (o := st'.obj b) _ hob' ?_
 refine za (o := List.head? _) (int ns[i]) (by
  rw [List.head?_drop, show 0 + i * ti3.size = i from by show 0 + i * 1 = i; omega, List.getElem?_append_left (by simpa using hlt), List.getElem?_map, List.getElem?_eq_getElem hlt]; rfl) ?_
 refine za (o := st'.obj s) _ hos ?_
 refine H6 w.U (by omega) hr ns[i] _ _ (fun k hk z hz => ?_)
 obtain ⟨e, he, hid, _⟩ := (g6.2 ns[i]).1 (List.getElem_mem hlt)
 obtain ⟨u, hu, hu0, rfl⟩ := (hL e).1 he
 have hfound : ∃ hk2 : k < w.U.length, w.U[k].id = ns[i] := by
  obtain ⟨j, hj, rfl⟩ := List.getElem_of_mem hu
  have h5 : j >= k := Decidable.byContradiction fun hn2 => by
   have := hk.2.1 j hj (by omega)
   have h6 : (w.U[j]).id = ns[i] := hid
   omega
  have h7 : k < w.U.length := by omega
  refine ⟨h7, ?_⟩
  have h8 := hk.2.2 k h7 (Nat.le_refl _)
  have h6 : (w.U[j]).id = ns[i] := hid
  by_cases e : k = j
  ·subst e; exact h6
  ·have := w8 hr (show k < j by omega) hj
   omega
 obtain ⟨hk2, hk3⟩ := hfound
 refine za (o := st'.obj s) _ hos ?_
 refine ⟨k, rfl, za _ (zj hk2) ?_⟩
 refine ⟨by decide, ?_⟩
 have hul : us.length = i := by
  have := congrArg List.length hus
  rw [List.length_map, List.length_take] at this
  omega
 refine Cu (ie := ti37) (rows' := [ze w.U[k]]) ha ?_ ?_ ⟨?_, ?_⟩ (fun v3 st3 ha3 => ?_)
 ·rfl
 ·rfl
 ·simp only [zu, List.length_singleton, ti37]; omega
 ·simp only [zu, List.length_singleton]; omega
 refine zc (by omega) ?_
 have huk : w.U[k] = u := Ca hr (List.getElem_mem hk2) hu (by rw [hk3]; exact hid.symm)
 refine ⟨(i + 1, v3, us ++ [w.U[k]]), ?_, ⟨by dsimp only; omega, ?_, ?_, fun u2 hu2 => ?_⟩, ⟨Tq, Tq, Tq, Tq, Tq, Tv⟩, Tv⟩
 ·show ns.length - (i + 1) < ns.length - i
  omega
 ·dsimp only
  unfold rws at ha3 ⊢
  rw [List.map_append]
  exact ha3
 ·dsimp only
  rw [List.map_append, hus, List.take_succ_eq_append_getElem hlt]
  simp [hk3]
 ·rcases List.mem_append.1 hu2 with h9 | h9
  ·exact hin u2 h9
  ·simp at h9
   subst h9
   rw [huk]
   exact ⟨hu, hu0⟩
theorem zh9 {F : Store} {s p : Nat} {w : Wld} {L : List Ent} {o0 o1 o2 : AV} (hS : StandAt F s p w L o0 o1 o2) (hg : zl w.G) (hB : w.B.length <= 1000000000000) (hb : ∀ b ∈ w.B, z7 b /\ onP w.G b) (hr : yf w.U) (hU : w.U.length <= 1000000) (hn : ∀ u ∈ w.U, u.pos.ok) (hLl : L.length <= w.U.length) (hL : j3 w L)
  (id k : Int) (q : Vc) (hq : q.ok) (R : AV -> Store -> Prop)
  (h : ∀ z F' q0 q1 q2, (z = true ↔ y5 w id k q) -> StandAt F' s p w L q0 q1 q2 -> R (V.bool z) (F'.un (stS s w q0 q1 q2 p))) : ACalls Tryz.prog 81 [ptr s, int id, int k, .agg (zk q)] (F.un (stS s w o0 o1 o2 p)) R := by
 have ho := zf (a := F) (Ax s w o0 o1 o2 p)
 have hk := vy k
 have hc := Fy k
 refine ACalls.of_body (c := cfg 56) zb Tryz.func81 (by rfl) (by rfl) (by rfl) (by rfl) ?_
 refine qw k _ _ ?_
 refine ADraw.of_sched zb (by rfl) (by rfl) Nc (by rfl) ?_
 refine za (o := (F.un (stS s w _ _ _ p)).obj s) _ ho ?_
 refine ⟨zht hS hg hB hb (yh k) hc _ (fun a0 a1 a2 hS1 => ⟨?_, ?_⟩), Tv⟩
 ·have ho1 := zf (a := F) (Ax s w a0 a1 a2 p)
  repeat (first | exact Tv | refine ⟨rfl, ?_⟩ | refine ⟨za (o := (F.un (stS s w a0 a1 a2 p)).obj s) _ ho1 rfl, ?_⟩)
 refine ⟨O4 w.G hg w.B (yh k) q hq (zm k) ⟨hk.1, by omega⟩ _ _ (fun z hz => ⟨Tv, ?_⟩), Tv⟩
 refine z8 ?_
 refine zg (fun c1 => ?_) (fun c1 => ret (h false _ _ _ _ (by simp only [Bool.false_eq_true, false_iff]; exact fun hh => by have := hz.2 hh.1; rw [this] at c1; cases c1) hS1))
 have hfree := hz.1 c1
 refine zih hS1 hr hU hn hLl hL q hq (zm k) ⟨hk.1, by omega⟩ _ (fun F' us hS2 hus hul => ?_)
 have hci := Ps (id := id) hfree hus
 have no : ¬ y5 w id k q -> R (V.bool false) (F'.un (stS s w a0 a1 a2 p)) := fun hh => h false _ _ _ _ (by simp only [Bool.false_eq_true, false_iff]; exact hh) hS2
 refine AWp.loop (σ := Nat) ⟨fun i => [(1, .av (int id)), (7, .bx 7 0), (9, .bx 9 0), (32, .av (lst 10 ze us)), (33, .av (int (us.length : Nat))), (34, .av (int (i : Nat)))], fun _ => [(7, zk q), (9, vx k)],
  fun i st' => st' = F'.un (stS s w a0 a1 a2 p) /\ i <= us.length /\ ∀ j, (hj : j < us.length) -> j < i -> us[j].id ≠ id -> qo q (zm k) us[j].pos (zm us[j].kind) = true, fun i => us.length - i⟩ zb ?_ ?_
 ·refine ⟨0, Tv, ⟨rfl, Nat.zero_le _, fun j _ hj => by omega⟩, ⟨Tq, Tq, Tq, Tq, ?_, Tq, Tv⟩, ⟨rfl, rfl, Tv⟩⟩
  rw [<- zu (f := ze) us]; exact Tq
 rintro i st' ⟨rfl, hi, hall⟩
 refine bcd (fun h1 => ?_) (fun h1 => ?_)
 rotate_left
 ·refine ret (h true _ _ _ _ (by
   simp only [true_iff]
   refine hci.2 fun u hu hne => ?_
   obtain ⟨j, hj, rfl⟩ := List.getElem_of_mem hu
   exact hall j hj (by omega) hne) hS2)
 have hlt : i < us.length := by omega
 have hui := (hus us[i]).1 (List.getElem_mem hlt)
 have next : (us[i].id ≠ id -> qo q (zm k) us[i].pos (zm us[i].kind) = true) -> ∀ j, (hj : j < us.length) -> j < i + 1 -> us[j].id ≠ id -> qo q (zm k) us[j].pos (zm us[j].kind) = true := fun hh j hj hji => by
  by_cases e : j = i
  ·subst e; exact hh
  ·exact hall j hj (by omega)
 refine ⟨i, rfl, za _ (zj hlt) ?_⟩
 refine ADraw.of_sched zb (by rfl) (by rfl) Nb (by rfl) ?_
 refine qa (fun c2 => ?_) (fun c2 => ?_)
 ·refine ⟨qw us[i].kind _ _ ⟨(by repeat (first | exact Tv | refine ⟨rfl, ?_⟩ | refine ⟨optR (optR (optR (za _ (zd _ _ _) rfl))), ?_⟩)), ?_⟩, Tv⟩
  have hk2 := vy us[i].kind
  refine ⟨P9 q (zm k) us[i].pos (zm us[i].kind) hq (hn _ hui.1.1) ⟨hk.1, by omega⟩ ⟨hk2.1, by omega⟩ _ _ ⟨Tv, ?_⟩, Tv⟩
  refine z8 ?_
  refine zg (fun c3 => ?_) (fun c3 => ?_)
  ·refine zc (by omega) ?_
   refine ⟨i + 1, ?_, ⟨rfl, by omega, next fun _ => c3⟩, ⟨Tq, Tq, Tq, Tq, Tq, Tq, Tv⟩, ⟨rfl, rfl, Tv⟩⟩
   show us.length - (i + 1) < us.length - i
   omega
  ·refine ret (no fun hh => ?_)
   have := hci.1 hh us[i] (List.getElem_mem hlt) c2
   rw [this] at c3; cases c3
 ·refine ⟨⟨(by repeat (first | exact Tv | refine ⟨rfl, ?_⟩ | refine ⟨optR (optR (optR (za _ (zd _ _ _) rfl))), ?_⟩)), ?_⟩, Tv⟩
  refine ⟨⟨Tv, ?_⟩, Tv⟩
  refine zc (by omega) ?_
  refine ⟨i + 1, ?_, ⟨rfl, by omega, next fun hne => absurd c2 hne⟩, ⟨Tq, Tq, Tq, Tq, Tq, Tq, Tv⟩, ⟨rfl, rfl, Tv⟩⟩
  show us.length - (i + 1) < us.length - i
  omega
theorem zpa {R : AV -> Store -> Prop} {b : Bool} {st : Store} (h : R (V.bool b) st) (hb : b = true) : R (V.bool true) st := by rw [hb] at h; exact h
theorem zq1 (w : Wld) (b : Bld) (p : Nat) (st : Store) (hp : st.obj p = some (.cells (zr w))) (R : AV -> Store -> Prop) (h : R (V.bool (decide (b.owner > w.players \/ b.id >= w.next))) st) :
  ACalls Tryz.prog 129 ([.agg (zp b)] ++ [ptr p]) st R := by
 refine ACalls.of_body (c := cfg 16) zb Tryz.func129 (by rfl) (by rfl) (by rfl) (by rfl) ?_
 refine za _ hp ?_
 refine bcd (fun c1 => ret (zpa h (decide_eq_true (.inl c1)))) (fun c1 => ?_)
 refine za _ hp ?_
 refine ret ?_
 have e : decide (b.owner > w.players \/ b.id >= w.next) = decide (b.id >= w.next) := by
  rw [Bool.eq_iff_iff, decide_eq_true_iff, decide_eq_true_iff]; omega
 rw [e] at h
 exact h
set_option maxRecDepth 10000 in
theorem zq0 (w : Wld) (hw : w.fits) (st : Store) (R : AV -> Store -> Prop) (h : ∀ z : Bool, (z = true ↔ Cl w) -> R (V.bool z) st) : ACalls Tryz.prog 78 [.agg (zr w)] st R := by
 obtain ⟨hw1, hw2, hw3⟩ := hw
 refine ACalls.of_body (c := cfg 54 [1] []) zb Tryz.func78 (by rfl) (by rfl) (by rfl) (by rfl) ?_
 intro p hp
 have ho : (st.setObj p (.cells (zr w))).obj p = some (.cells (zr w)) := zd _ _ _
 have nof : ¬ Cl w -> ∃ r st', AV.le (V.bool false) r /\ (st.setObj p (.cells (zr w))).Has st' /\ R r st' := fun hn => qq (Tt) (Ah hp.1) (h false (by simp only [Bool.false_eq_true, false_iff]; exact hn))
 refine za _ ho ?_
 refine bcd (fun c1 => nof fun q => by have := q.1; omega) (fun c1 => ?_)
 refine za _ ho ?_
 refine bcd (fun c2 => nof fun q => by have := q.1; omega) (fun c2 => ?_)
 refine za _ ho ?_
 refine bcd (fun c3 => nof fun q => by have := q.1; omega) (fun c3 => ?_)
 refine za _ ho ?_
 refine bcd (fun c4 => nof fun q => by have := q.1; omega) (fun c4 => ?_)
 refine za _ ho ?_
 refine bcd (fun c5 => nof fun q => by have := q.1; omega) (fun c5 => ?_)
 refine za _ ho ?_
 refine bcd (fun c6 => nof fun q => by have := q.1; omega) (fun c6 => ?_)
 refine za _ ho ?_
 refine zp5 w.G hw1 _ _ (fun z hz => ?_)
 refine z8 ?_
 refine zg (fun c7 => ?_) (fun c7 => nof fun q => by have := hz.2 q.2.1.1; rw [this] at c7; cases c7)
 have hg := hz.1 c7
 refine za _ ho ?_
 refine za _ ho ?_
 refine ztr w.G hg w.B hw2 _ _ (fun z hz => ?_)
 refine z8 ?_
 refine zg (fun c8 => ?_) (fun c8 => nof fun q => by have := hz.2 q.2.1.2.1; rw [this] at c8; cases c8)
 have hb := hz.1 c8
 refine za _ ho ?_
 have hUl : ((rws ze w.U).length : Int) = (w.U.length : Int) := by rw [zu]
 refine bcd (fun c9 => nof fun q => by have := q.2.1.2.2; omega) (fun c9 => ?_)
 refine za _ ho ?_
 refine zty w.B hw2 _ _ (fun b => decide (b.owner > w.players \/ b.id >= w.next)) _ (fun b hb R h => zq1 w b p _ ho R h) _ ?_
 refine qq (Tt) (Ah hp.1) (h _ ?_)
 rw [Bool.not_eq_true', List.any_eq_false]
 constructor
 ·intro hh
  refine ⟨by omega, ⟨hg, hb, by omega⟩, fun b hb2 => ?_⟩
  have := hh b hb2
  rw [decide_eq_true_iff] at this
  omega
 ·intro hh b hb2
  have := hh.2.2 b hb2
  rw [decide_eq_true_iff]
  omega
def Gg (cs : List (Int × Int)) (bs : List Nat) (clk : Nat) : AObj := .map (cs.map (q9 int)) bs clk
def Lh (m : Nat) : AV := .s (.map (some m))
set_option maxHeartbeats 1000000 in
theorem zl1 (w : Wld) (hU : w.U.length <= 1000000) (hr : yf w.U) (st : Store) (R : AV -> Store -> Prop) (h : ∀ z : Bool, (z = true ↔ ∀ u ∈ w.U, u.inn ≠ 0 -> j2 w u) -> R (V.bool z) st) : ACalls Tryz.prog 82 [.agg (zr w)] st R := by
 refine ACalls.of_body (c := cfg 85) zb Tryz.func82 (by rfl) (by rfl) (by rfl) (by rfl) ?_
 refine Lw rfl (fun m hm => ?_)
 have hhas : ∀ x, (st.setObj m x).Has st := fun x => Ah hm.1
 have nof : ∀ x, ¬ (∀ u ∈ w.U, u.inn ≠ 0 -> j2 w u) -> ∃ r st', AV.le (V.bool false) r /\ (st.setObj m x).Has st' /\ R r st' := fun x hn => qq (Tt) (hhas x) (h false (by simp only [Bool.false_eq_true, false_iff]; exact hn))
 refine AWp.loop (σ := Nat × List (Int × Int) × List Nat × Nat) ⟨fun x => [(1, .bx 1 0), (3, .av (Lh m)), (11, .av (lst 10 ze w.U)), (12, .av (int (w.U.length : Nat))), (13, .av (int (x.1 : Nat)))], fun _ => [(1, zr w)],
  fun x st' => x.1 <= w.U.length /\ st' = st.setObj m (Gg x.2.1 x.2.2.1 x.2.2.2) /\ (∀ id, id ≠ 0 -> (j5 x.2.1 id).getD 0 = ((yb (w.U.take x.1) id).length : Int)) /\ Nl w x.1, fun x => w.U.length - x.1⟩ zb ?_ ?_
 ·refine ⟨(0, [], [], 0), Tv, ⟨Nat.zero_le _, rfl, fun id _ => rfl, fun j _ hj => by omega, fun x _ _ => (Om _).1⟩, ⟨Tq, Tq, Tq, ?_, Tq, Tv⟩, ⟨rfl, Tv⟩⟩
  rw [<- zu (f := ze) w.U]; exact Tq
 rintro ⟨i, cs, bs, clk⟩ st' ⟨hi, rfl, hcnt, hup⟩
 dsimp only at hi hcnt hup ⊢
 refine bcd (fun h1 => ?_) (fun h1 => ?_)
 rotate_left
 ·have : i = w.U.length := by omega
  subst this
  exact qq (Tt) (hhas _) (h true (by simp only [true_iff]; exact zl2 hup))
 have hlt : i < w.U.length := by omega
 have hui := List.getElem_mem hlt
 refine ⟨i, rfl, za _ (zj hlt) ?_⟩
 refine yp (fun c1 => ?_) (fun c1 => ?_)
 ·refine zc (by omega) ?_
  refine ⟨(i + 1, cs, bs, clk), ?_, ⟨by dsimp only; omega, rfl, fun id hid => ?_, fun j hj hji hne => ?_, fun x hx hx0 => ?_⟩, ⟨Tq, Tq, Tq, Tq, Tq, Tv⟩, ⟨rfl, Tv⟩⟩
  ·show w.U.length - (i + 1) < w.U.length - i
   omega
  ·dsimp only
   rw [hcnt id hid, Hq hlt, if_neg (by rw [c1]; omega)]; omega
  ·by_cases e : j = i
   ·subst e; exact absurd c1 hne
   ·exact hup.1 j hj (by dsimp only at hji; omega) hne
  ·dsimp only
   rw [Hq hlt, if_neg (by rw [c1]; omega)]
   have := hup.2 x hx hx0
   omega
 refine H6 w.U (by omega) hr w.U[i].inn _ _ (fun k hk z hz => ?_)
 have nou : ∀ x, ¬ j2 w w.U[i] -> ∃ r st', AV.le (V.bool false) r /\ (st.setObj m x).Has st' /\ R r st' := fun x hn => nof x fun hh => hn (hh _ hui c1)
 have found : j2 w w.U[i] -> z = true := fun ⟨x, hx, e, _⟩ => by
  obtain ⟨j, hj, rfl⟩ := List.getElem_of_mem hx
  refine hz.2 ?_
  have h5 : j >= k := Decidable.byContradiction fun hn2 => by
   have := hk.2.1 j hj (by omega)
   omega
  have h7 : k < w.U.length := by omega
  refine ⟨h7, ?_⟩
  have h8 := hk.2.2 k h7 (Nat.le_refl _)
  by_cases e2 : k = j
  ·subst e2; exact e
  ·have := w8 hr (show k < j by omega) hj
   omega
 refine z8 ?_
 refine zg (fun c2 => ?_) (fun c2 => nou _ fun hh => by rw [found hh] at c2; cases c2)
 obtain ⟨hkl, hkid⟩ := hz.1 c2
 have uniq : j2 w w.U[i] -> (w.U[k].inn = 0 /\ w.U[k].owner = w.U[i].owner) /\ ((yb w.U w.U[i].inn).length : Int) <= xl w.U[k].kind := fun ⟨x, hx, e, e2, e3, _⟩ => by
  have := Ca hr hx (List.getElem_mem hkl) (by rw [e, hkid])
  subst this
  exact ⟨e2, e3⟩
 refine qw w.U[i].kind _ _ ?_
 refine bcd (fun c3 => nou _ fun ⟨x, _, _, _, _, e, _⟩ => by omega) (fun c3 => ?_)
 have hroom : xl w.U[i].kind = 0 := by have := Om w.U[i].kind; omega
 refine z8 ?_
 refine zg (fun c4 => ?_) (fun c4 => nou _ fun ⟨x, _, _, _, _, _, e, _⟩ => by rw [e] at c4; cases c4)
 have hpos : w.U[i].pos = (0, 0) := by
  have : (w.U[i].pos.1 == 0 && (w.U[i].pos.2 == 0 && true)) = true := c4
  simp at this
  exact Prod.ext this.1 this.2
 refine qa (fun c5 => nou _ fun ⟨x, _, _, _, _, _, _, e, _⟩ => c5 e) (fun c5 => ?_)
 refine qa (fun c6 => nou _ fun ⟨x, _, _, _, _, _, _, _, e⟩ => c6 e) (fun c6 => ?_)
 refine ⟨k, rfl, za _ (zj hkl) ?_⟩
 have hmo : (st.setObj m (Gg cs bs clk)).obj m = some (Gg cs bs clk) := zd _ _ _
 refine wv rfl (it := ti237) (ie := ti3) (ik := ti3) rfl rfl rfl rfl hmo rfl (qA w.U[k].id) (fun e he => ?_) ?_
 ·obtain ⟨e, _, rfl⟩ := List.mem_map.1 he
  rfl
 rw [Oe]
 have hz0 : w.U[k].id ≠ 0 := by rw [hkid]; exact c1
 have hcv : (Option.map int (j5 cs w.U[k].id)).getD (wc ti3) = int ((yb (w.U.take i) w.U[k].id).length : Int) := by
  rw [<- hcnt _ hz0]
  cases j5 cs w.U[k].id <;> rfl
 rw [hcv]
 have hcl : (yb (w.U.take i) w.U[k].id).length <= 1000000 := by
  have h1 := Oq (l := w.U) i w.U[k].id
  have h2 : (yb w.U w.U[k].id).length <= w.U.length := by unfold yb; rw [List.length_map]; exact List.length_filter_le _ _
  omega
 refine zc (by omega) ?_
 refine D5 (.inl rfl) rfl (it := ti237) (ik := ti3) rfl rfl rfl (es := cs.map (q9 int)) (bs := bs) (clk := clk) (k := int w.U[k].id) (v := int (((yb (w.U.take i) w.U[k].id).length : Int) + 1)) hmo rfl rfl (qA w.U[k].id) (fun e he => ?_) (fun e1 he hq => ?_) ?_
 ·obtain ⟨e, _, rfl⟩ := List.mem_map.1 he
  rfl
 ·obtain ⟨g1, _, rfl⟩ := List.mem_map.1 he
  have : w.U[k].id = g1.1 := by simpa [qA, q9, int] using hq
  show int g1.1 = _
  rw [this]
 obtain ⟨bs', clk', hput⟩ := W1 int cs bs clk w.U[k].id (((yb (w.U.take i) w.U[k].id).length : Int) + 1)
 have hput : js (cs.map (q9 int)) bs clk (qA w.U[k].id) (int w.U[k].id) (int (((yb (w.U.take i) w.U[k].id).length : Int) + 1)) = Gg (xy cs w.U[k].id (((yb (w.U.take i) w.U[k].id).length : Int) + 1)) bs' clk' := hput
 rw [hput, yr]
 have hmo2 : (st.setObj m (Gg (xy cs w.U[k].id (((yb (w.U.take i) w.U[k].id).length : Int) + 1)) bs' clk')).obj m = some (Gg (xy cs w.U[k].id (((yb (w.U.take i) w.U[k].id).length : Int) + 1)) bs' clk') := zd _ _ _
 have hlook : Bf false (wc ti3) (((xy cs w.U[k].id (((yb (w.U.take i) w.U[k].id).length : Int) + 1)).map (q9 int)).find? (qA w.U[k].id)) = int (((yb (w.U.take i) w.U[k].id).length : Int) + 1) := by
  rw [Oe, Kv, if_pos rfl]; rfl
 have hsucc := Hq hlt w.U[k].id
 rw [if_pos hkid.symm] at hsucc
 have hcnt2 : ∀ id, id ≠ 0 -> (j5 (xy cs w.U[k].id (((yb (w.U.take i) w.U[k].id).length : Int) + 1)) id).getD 0 = ((yb (w.U.take (i + 1)) id).length : Int) := fun id hid => by
  rw [Kv]
  by_cases e : id = w.U[k].id
  ·rw [if_pos e, e, hsucc]; rfl
  ·rw [if_neg e, hcnt id hid, Hq hlt, if_neg (by rw [<- hkid]; exact Ne.symm e)]; omega
 generalize xy cs w.U[k].id (((yb (w.U.take i) w.U[k].id).length : Int) + 1) = cs2 at *
 have over : xl w.U[k].kind < ((yb (w.U.take i) w.U[k].id).length : Int) + 1 -> ¬ j2 w w.U[i] := fun hh hp => by
  have h2 := (uniq hp).2
  have h3 := Oq (l := w.U) (i + 1) w.U[k].id
  rw [<- hkid] at h2
  omega
 have good : w.U[k].inn = 0 -> w.U[k].owner = w.U[i].owner -> ((yb (w.U.take i) w.U[k].id).length : Int) + 1 <= xl w.U[k].kind -> Nl w (i + 1) := fun e1 e2 e3 => by
  refine ⟨fun j hj hji hne => ?_, fun x hx hx0 => ?_⟩
  ·by_cases e : j = i
   ·subst e
    exact ⟨w.U[k], List.getElem_mem hkl, hkid, ⟨e1, e2⟩, hroom, hpos, c5, c6⟩
   ·exact hup.1 j hj (by omega) hne
  ·by_cases e : x.id = w.U[k].id
   ·have := Ca hr hx (List.getElem_mem hkl) e
    subst this
    omega
   ·rw [Hq hlt, if_neg (by rw [<- hkid]; exact Ne.symm e)]
    have := hup.2 x hx hx0
    omega
 refine ADraw.of_sched zb (by rfl) (by rfl) zi1 (by rfl) ?_
 refine qa (fun c7 => ?_) (fun c7 => ?_)
 ·refine ⟨⟨(by repeat (first | exact Tv | refine ⟨rfl, ?_⟩ | refine ⟨optR (optR (optR (za _ (zd _ _ _) rfl))), ?_⟩)), ⟨⟨(by repeat (first | exact Tv | refine ⟨rfl, ?_⟩ | refine ⟨optR (optR (optR (za _ (zd _ _ _) rfl))), ?_⟩)), nou _ (fun hh => c7 (uniq hh).1.1)⟩, Tv⟩⟩, ⟨⟨(by repeat (first | exact Tv | refine ⟨rfl, ?_⟩ | refine ⟨optR (optR (optR (za _ (zd _ _ _) rfl))), ?_⟩)), ⟨⟨(by repeat (first | exact Tv | refine ⟨rfl, ?_⟩ | refine ⟨optR (optR (optR (za _ (zd _ _ _) rfl))), ?_⟩)), nou _ (fun hh => c7 (uniq hh).1.1)⟩, Tv⟩⟩, Tv⟩⟩
 refine qa (fun c8 => ?_) (fun c8 => ?_)
 ·refine ⟨⟨(by repeat (first | exact Tv | refine ⟨rfl, ?_⟩ | refine ⟨optR (optR (optR (za _ (zd _ _ _) rfl))), ?_⟩)), ⟨⟨(by repeat (first | exact Tv | refine ⟨rfl, ?_⟩ | refine ⟨optR (optR (optR (za _ (zd _ _ _) rfl))), ?_⟩)), nou _ (fun hh => c8 (uniq hh).1.2)⟩, Tv⟩⟩, ⟨⟨(by repeat (first | exact Tv | refine ⟨rfl, ?_⟩ | refine ⟨optR (optR (optR (za _ (zd _ _ _) rfl))), ?_⟩)), ⟨⟨(by repeat (first | exact Tv | refine ⟨rfl, ?_⟩ | refine ⟨optR (optR (optR (za _ (zd _ _ _) rfl))), ?_⟩)), nou _ (fun hh => c8 (uniq hh).1.2)⟩, Tv⟩⟩, Tv⟩⟩
 refine ⟨?_, ?_, Tv⟩
 ·refine wv rfl (it := ti237) (ie := ti3) (ik := ti3) rfl rfl rfl rfl hmo2 rfl (qA w.U[k].id) (fun e he => by obtain ⟨e, _, rfl⟩ := List.mem_map.1 he; rfl) ?_
  rw [hlook]
  refine ⟨(by repeat (first | exact Tv | refine ⟨rfl, ?_⟩ | refine ⟨optR (optR (optR (za _ (zd _ _ _) rfl))), ?_⟩)), ?_⟩
  refine ⟨qw w.U[k].kind _ _ ⟨(by repeat (first | exact Tv | refine ⟨rfl, ?_⟩ | refine ⟨optR (optR (optR (za _ (zd _ _ _) rfl))), ?_⟩)), ?_⟩, Tv⟩
  refine bcd (fun c9 => nou _ (over (by omega))) (fun c9 => ?_)
  refine zc (by omega) ?_
  refine ⟨(i + 1, cs2, bs', clk'), ?_, ⟨by dsimp only; omega, rfl, hcnt2, good c7 c8 (by omega)⟩, ⟨Tq, Tq, Tq, Tq, Tq, Tv⟩, ⟨rfl, Tv⟩⟩
  show w.U.length - (i + 1) < w.U.length - i
  omega
 ·refine qw w.U[k].kind _ _ ⟨(by repeat (first | exact Tv | refine ⟨rfl, ?_⟩ | refine ⟨optR (optR (optR (za _ (zd _ _ _) rfl))), ?_⟩)), ?_⟩
  refine ⟨?_, Tv⟩
  refine wv rfl (it := ti237) (ie := ti3) (ik := ti3) rfl rfl rfl rfl hmo2 rfl (qA w.U[k].id) (fun e he => by obtain ⟨e, _, rfl⟩ := List.mem_map.1 he; rfl) ?_
  rw [hlook]
  refine ⟨(by repeat (first | exact Tv | refine ⟨rfl, ?_⟩ | refine ⟨optR (optR (optR (za _ (zd _ _ _) rfl))), ?_⟩)), ?_⟩
  refine bcd (fun c9 => nou _ (over (by omega))) (fun c9 => ?_)
  refine zc (by omega) ?_
  refine ⟨(i + 1, cs2, bs', clk'), ?_, ⟨by dsimp only; omega, rfl, hcnt2, good c7 c8 (by omega)⟩, ⟨Tq, Tq, Tq, Tq, Tq, Tv⟩, ⟨rfl, Tv⟩⟩
  show w.U.length - (i + 1) < w.U.length - i
  omega
def tkO (cs : List (Int × Bool)) (bs : List Nat) (clk : Nat) : AObj := .map (cs.map (q9 V.bool)) bs clk
set_option maxHeartbeats 1000000 in
theorem zoz (w : Wld) (hw : w.fits) (hn : ∀ u ∈ w.U, u.pos.ok) : ACalls Tryz.prog 40 [.agg (zr w)] Store.empty fun r _ => ∃ z, r = V.bool z /\ (z = true ↔ yg w) := by
 have no : ¬ yg w -> ∃ z, V.bool false = V.bool z /\ (z = true ↔ yg w) := fun hn => ⟨false, rfl, by simp only [Bool.false_eq_true, false_iff]; exact hn⟩
 refine ACalls.of_awp (c := cfg 87) zb Tryz.func40 (by rfl) (by rfl) (by rfl) (by rfl) ?_
 refine AWp.seq (AWp.of_vc zb ?_)
 refine AWp.seq (AWp.of_vc zb ?_)
 refine zq0 w hw _ _ (fun z hz => ?_)
 refine z8 ?_
 refine zg (fun c1 => ?_) (fun c1 => ret (no fun q => by have := hz.2 q.1.1; rw [this] at c1; cases c1))
 have hh := hz.1 c1
 have hg := hh.2.1.1
 have hbl := hh.2.1.2.1
 have hBl : w.B.length <= 256 := hbl.1
 have hU : w.U.length <= 4096 := hh.2.1.2.2
 have hbb : ∀ b ∈ w.B, z7 b /\ onP w.G b := fun b hb => ⟨(hbl.2.2.1 b hb).1, (hbl.2.2.1 b hb).2.1⟩
 refine AWp.seq (AWp.of_vc zb ?_)
 refine Lw rfl (fun m hm => ?_)
 refine AWp.meetA (σ := List (Int × Bool) × List Nat × Nat) ⟨fun _ => [(1, .bx 1 0), (3, .av (Lh m))], fun _ => [(1, zr w)], fun x st' => st' = Store.empty.setObj m (tkO x.1 x.2.1 x.2.2) /\ ∀ id, (j5 x.1 id).getD false = true ↔ ∃ b ∈ w.B, b.id = id⟩ ?_ ?_
 ·refine AWp.of_vc zb ?_
  refine AWp.loop (σ := Nat × List (Int × Bool) × List Nat × Nat) ⟨fun x => [(1, .bx 1 0), (3, .av (Lh m)), (16, .av (lst 6 zp w.B)), (17, .av (int (w.B.length : Nat))), (18, .av (int (x.1 : Nat)))], fun _ => [(1, zr w)],
   fun x st' => x.1 <= w.B.length /\ st' = Store.empty.setObj m (tkO x.2.1 x.2.2.1 x.2.2.2) /\ ∀ id, (j5 x.2.1 id).getD false = true ↔ ∃ b ∈ w.B.take x.1, b.id = id, fun x => w.B.length - x.1⟩ zb ?_ ?_
  ·refine ⟨(0, [], [], 0), Tv, ⟨Nat.zero_le _, rfl, fun id => ⟨fun h => (by cases h), fun ⟨b, hb, _⟩ => (by simp at hb)⟩⟩, ⟨Tq, Tq, Tq, ?_, Tq, Tv⟩, ⟨rfl, Tv⟩⟩
   rw [<- zu (f := zp) w.B]; exact Tq
  rintro ⟨i, cs, bs, clk⟩ st' ⟨hi, rfl, htk⟩
  dsimp only at hi htk ⊢
  refine bcd (fun h1 => ?_) (fun h1 => ?_)
  rotate_left
  ·have : i = w.B.length := by omega
   subst this
   rw [List.take_length] at htk
   exact ⟨(cs, bs, clk), ⟨rfl, htk⟩, ⟨Tq, Tq, Tv⟩, ⟨rfl, Tv⟩⟩
  have hlt : i < w.B.length := by omega
  refine ⟨i, rfl, za _ (zj hlt) ?_⟩
  have hmo : (Store.empty.setObj m (tkO cs bs clk)).obj m = some (tkO cs bs clk) := zd _ _ _
  refine D5 (.inl rfl) rfl (it := ti162) (ik := ti3) rfl rfl rfl (es := cs.map (q9 V.bool)) (bs := bs) (clk := clk) (k := int w.B[i].id) (v := V.bool true) hmo rfl rfl (qA w.B[i].id) (fun e he => ?_) (fun e1 he hq => ?_) ?_
  ·obtain ⟨e, _, rfl⟩ := List.mem_map.1 he
   rfl
  ·obtain ⟨g1, _, rfl⟩ := List.mem_map.1 he
   have : w.B[i].id = g1.1 := by simpa [qA, q9, int] using hq
   show int g1.1 = _
   rw [this]
  obtain ⟨bs', clk', hput⟩ := W1 V.bool cs bs clk w.B[i].id true
  have hput : js (cs.map (q9 V.bool)) bs clk (qA w.B[i].id) (int w.B[i].id) (V.bool true) = tkO (xy cs w.B[i].id true) bs' clk' := hput
  rw [hput, yr]
  refine zc (by omega) ?_
  refine ⟨(i + 1, xy cs w.B[i].id true, bs', clk'), ?_, ⟨by dsimp only; omega, rfl, fun id => ?_⟩, ⟨Tq, Tq, Tq, Tq, Tq, Tv⟩, ⟨rfl, Tv⟩⟩
  ·show w.B.length - (i + 1) < w.B.length - i
   omega
  ·dsimp only
   rw [Kv, List.take_succ_eq_append_getElem hlt]
   by_cases e : id = w.B[i].id
   ·rw [if_pos e]
    exact ⟨fun _ => ⟨w.B[i], List.mem_append.2 (.inr (List.mem_singleton.2 rfl)), e.symm⟩, fun _ => rfl⟩
   ·rw [if_neg e, htk id]
    constructor
    ·rintro ⟨b, hb, h3⟩; exact ⟨b, List.mem_append.2 (.inl hb), h3⟩
    ·rintro ⟨b, hb, h3⟩
     rcases List.mem_append.1 hb with hb | hb
     ·exact ⟨b, hb, h3⟩
     ·simp at hb; subst hb; exact absurd h3.symm e
 rintro ⟨cs, bs, clk⟩ st' ⟨rfl, htk⟩
 dsimp only at htk ⊢
 have hmo : (Store.empty.setObj m (tkO cs bs clk)).obj m = some (tkO cs bs clk) := zd _ _ _
 have hhas : (Store.empty.setObj m (tkO cs bs clk)).Has Store.empty := Ah rfl
 refine AWp.meetA (σ := Unit) ⟨fun _ => [(1, .bx 1 0)], fun _ => [(1, zr w)], fun _ st' => st' = Store.empty.setObj m (tkO cs bs clk) /\ Bt w w.U.length⟩ ?_ ?_
 ·refine AWp.of_vc zb ?_
  refine AWp.loop (σ := Nat) ⟨fun i => [(1, .bx 1 0), (3, .av (Lh m)), (27, .av (lst 10 ze w.U)), (28, .av (int (w.U.length : Nat))), (29, .av (int (i : Nat)))], fun _ => [(1, zr w)],
   fun i st' => i <= w.U.length /\ st' = Store.empty.setObj m (tkO cs bs clk) /\ Bt w i, fun i => w.U.length - i⟩ zb ?_ ?_
  ·refine ⟨0, Tv, ⟨Nat.zero_le _, rfl, fun j _ hj => by omega⟩, ⟨Tq, Tq, Tq, ?_, Tq, Tv⟩, ⟨rfl, Tv⟩⟩
   rw [<- zu (f := ze) w.U]; exact Tq
  rintro i st' ⟨hi, rfl, hup⟩
  refine bcd (fun h1 => ?_) (fun h1 => ?_)
  rotate_left
  ·have : i = w.U.length := by omega
   subst this
   exact ⟨(), ⟨rfl, hup⟩, ⟨Tq, Tv⟩, ⟨rfl, Tv⟩⟩
  have hlt : i < w.U.length := by omega
  have nou : ¬ ((jy w w.U[i] /\ ∀ b ∈ w.B, b.id ≠ w.U[i].id) /\ (0 < i -> (w.U[i - 1]'(by omega)).id < w.U[i].id)) -> ∃ z, V.bool false = V.bool z /\ (z = true ↔ yg w) := fun hq => no fun q => hq (Rx q.1.2 (i + 1) i hlt (by omega))
  refine ⟨i, rfl, za _ (zj hlt) ?_⟩
  refine ADraw.of_sched zb (by rfl) (by rfl) zjk (by rfl) ?_
  refine ⟨zuu w w.U[i] hg _ _ (fun z hz => ⟨Tv, ?_⟩), Tv⟩
  refine z8 ?_
  refine zg (fun c2 => ?_) (fun c2 => ⟨⟨Tv, ret (nou fun q => by have := hz.2 q.1.1; rw [this] at c2; cases c2)⟩, Tv⟩)
  have hunt := hz.1 c2
  refine ⟨wv rfl (it := ti162) (ie := ti4) (ik := ti3) rfl rfl rfl rfl hmo rfl (qA w.U[i].id) (fun e he => by obtain ⟨e, _, rfl⟩ := List.mem_map.1 he; rfl) ?_, Tv⟩
  rw [Oe]
  have hcv : (Option.map V.bool (j5 cs w.U[i].id)).getD (wc ti4) = V.bool ((j5 cs w.U[i].id).getD false) := by
   cases j5 cs w.U[i].id <;> rfl
  rw [hcv]
  have htki := htk w.U[i].id
  generalize (j5 cs w.U[i].id).getD false = tk at htki
  refine ⟨Tv, ?_⟩
  refine zg (fun c3 => ret (nou fun q => by obtain ⟨b, hb, e⟩ := htki.1 c3; exact q.1.2 b hb e)) (fun c3 => ?_)
  have hnb : ∀ b ∈ w.B, b.id ≠ w.U[i].id := fun b hb e => by have := htki.2 ⟨b, hb, e⟩; rw [this] at c3; cases c3
  have next : (0 < i -> (w.U[i - 1]'(by omega)).id < w.U[i].id) -> Bt w (i + 1) := fun hq j hj hji => by
   by_cases e : j = i
   ·subst e; exact ⟨⟨hunt, hnb⟩, hq⟩
   ·exact hup j hj (by omega)
  have fin : Bt w (i + 1) -> z6 ((i : Int) + 1) /\ (i + 1 <= w.U.length /\ Store.empty.setObj m (tkO cs bs clk) = Store.empty.setObj m (tkO cs bs clk) /\ Bt w (i + 1)) := fun hq => ⟨⟨by omega, by omega⟩, by omega, rfl, hq⟩
  refine bcd (fun c4 => ?_) (fun c4 => ?_)
  ·have hi0 : 0 < i := by omega
   refine zc (by omega) ?_
   refine ⟨i - 1, by omega, za _ (zj (show i - 1 < w.U.length by omega)) ?_⟩
   refine bcd (fun c5 => ret (nou fun q => by have := q.2 hi0; omega)) (fun c5 => ?_)
   obtain ⟨f1, f2⟩ := fin (next fun _ => by omega)
   refine ⟨f1, ?_⟩
   refine ⟨i + 1, ?_, f2, ⟨Tq, Tq, Tq, Tq, Tq, Tv⟩, ⟨rfl, Tv⟩⟩
   show w.U.length - (i + 1) < w.U.length - i
   omega
  ·obtain ⟨f1, f2⟩ := fin (next fun h0 => absurd h0 (by omega))
   refine ⟨f1, ?_⟩
   refine ⟨i + 1, ?_, f2, ⟨Tq, Tq, Tq, Tq, Tq, Tv⟩, ⟨rfl, Tv⟩⟩
   show w.U.length - (i + 1) < w.U.length - i
   omega
 rintro _ _ ⟨rfl, hall⟩
 have hok := Ry hall
 refine AWp.leS hhas.toLe ?_
 refine AWp.seq (AWp.of_vc zb ?_)
 refine znp w (by omega) hn _ (fun F s p L o0 o1 o2 hS hLl hL => ?_)
 have hLm := hL hok.1
 refine AWp.meetA (σ := Unit) ⟨fun _ => [(1, .bx 1 0)], fun _ => [(1, zr w)], fun _ st' => ∀ u ∈ w.U, u.inn = 0 -> y5 w u.id u.kind u.pos⟩ ?_ ?_
 ·refine AWp.of_vc zb ?_
  refine AWp.loop (σ := Nat × Store × AV × AV × AV) ⟨fun x => [(1, .bx 1 0), (8, .av (ptr s)), (64, .av (lst 10 ze w.U)), (65, .av (int (w.U.length : Nat))), (66, .av (int (x.1 : Nat)))], fun _ => [(1, zr w)],
   fun x st' => x.1 <= w.U.length /\ st' = x.2.1.un (stS s w x.2.2.1 x.2.2.2.1 x.2.2.2.2 p) /\ StandAt x.2.1 s p w L x.2.2.1 x.2.2.2.1 x.2.2.2.2 /\ ∀ j, (hj : j < w.U.length) -> j < x.1 -> w.U[j].inn = 0 -> y5 w w.U[j].id w.U[j].kind w.U[j].pos, fun x => w.U.length - x.1⟩ zb ?_ ?_
  ·refine ⟨(0, F, o0, o1, o2), Tv, ⟨Nat.zero_le _, rfl, hS, fun j _ hj => by omega⟩, ⟨Tq, Tq, Tq, ?_, Tq, Tv⟩, ⟨rfl, Tv⟩⟩
   rw [<- zu (f := ze) w.U]; exact Tq
  rintro ⟨i, F1, a0, a1, a2⟩ st' ⟨hi, rfl, hS1, hcl⟩
  dsimp only at hi hS1 hcl ⊢
  refine bcd (fun h1 => ?_) (fun h1 => ?_)
  rotate_left
  ·have : i = w.U.length := by omega
   subst this
   refine ⟨(), fun u hu h0 => ?_, ⟨Tq, Tv⟩, ⟨rfl, Tv⟩⟩
   obtain ⟨j, hj, rfl⟩ := List.getElem_of_mem hu
   exact hcl j hj hj h0
  have hlt : i < w.U.length := by omega
  have hui := List.getElem_mem hlt
  have next : (w.U[i].inn = 0 -> y5 w w.U[i].id w.U[i].kind w.U[i].pos) -> ∀ j, (hj : j < w.U.length) -> j < i + 1 -> w.U[j].inn = 0 -> y5 w w.U[j].id w.U[j].kind w.U[j].pos := fun hq j hj hji => by
   by_cases e : j = i
   ·subst e; exact hq
   ·exact hcl j hj (by omega)
  refine ⟨i, rfl, za _ (zj hlt) ?_⟩
  refine yp (fun c2 => ?_) (fun c2 => ?_)
  ·refine zh9 hS1 hg (by omega) hbb hok.1 (by omega) hn hLl hLm w.U[i].id w.U[i].kind w.U[i].pos (hn _ hui) _ (fun z F2 b0 b1 b2 hz hS2 => ?_)
   refine z8 ?_
   refine zg (fun c3 => ?_) (fun c3 => ret (no fun q => by have := hz.2 (q.2.1 _ hui c2); rw [this] at c3; cases c3))
   refine zc (by omega) ?_
   refine ⟨(i + 1, F2, b0, b1, b2), ?_, ⟨by dsimp only; omega, rfl, hS2, next fun _ => hz.1 c3⟩, ⟨Tq, Tq, Tq, Tq, Tq, Tv⟩, ⟨rfl, Tv⟩⟩
   show w.U.length - (i + 1) < w.U.length - i
   omega
  ·refine zc (by omega) ?_
   refine ⟨(i + 1, F1, a0, a1, a2), ?_, ⟨by dsimp only; omega, rfl, hS1, next fun h0 => absurd h0 c2⟩, ⟨Tq, Tq, Tq, Tq, Tq, Tv⟩, ⟨rfl, Tv⟩⟩
   show w.U.length - (i + 1) < w.U.length - i
   omega
 rintro _ st' hclear
 refine AWp.of_vc zb ?_
 refine zl1 w (by omega) hok.1 _ _ (fun z hz => ?_)
 refine ret ⟨z, rfl, ?_⟩
 rw [hz]
 exact ⟨fun hq => ⟨⟨hh, hok⟩, hclear, hq⟩, fun hq => hq.2.2⟩
/-- What tells one thing, in no store, tells it in any. -/
theorem Og {f : FuncId} {xs : List AV} {Q : AV -> Prop} (key : ACalls Tryz.prog f xs Store.empty fun r _ => Q r) (st : Store) (R : AV -> Store -> Prop) (h : ∀ r, Q r -> R r st) : ACalls Tryz.prog f xs st R := by
 rw [<- kj st]
 refine ACalls.post (ACalls.frame (R' := fun r st' => Q r /\ ∃ a', st' = a'.un st) (fun b hb => ?_) key fun r a' h1 _ => ⟨h1, a', rfl⟩) (Store.Le.refl _) fun r st' ⟨h1, a', h2⟩ => ⟨r, st, Tt, h2 ▸ lk, ?_⟩
 ·exact (hb.elim (fun h => h rfl) (fun h => h rfl) : False).elim
 ·exact h r h1
theorem W0 (w : Wld) (hw : w.fits) (hn : ∀ u ∈ w.U, u.pos.ok) (st : Store) (R : AV -> Store -> Prop) (h : ∀ z : Bool, (z = true ↔ yg w) -> R (V.bool z) st) : ACalls Tryz.prog 40 [.agg (zr w)] st R :=
 Og (zoz w hw hn) st R fun r ⟨z, e, hz⟩ => e ▸ h z hz
theorem Vu (w : Wld) (hU : w.U.length <= 1000000) (id : Int) (st : Store) (R : AV -> Store -> Prop) (h : R (int (vz (w.U.findIdx? fun u => decide (u.id = id)))) st) : ACalls Tryz.prog 48 [.agg (zr w), int id] st R := by
 refine ACalls.of_body (c := cfg 22) zb Tryz.func48 (by rfl) (by rfl) (by rfl) (by rfl) ?_
 refine AWp.loop (σ := Nat) ⟨fun i => [(1, .av (int id)), (2, .bx 2 0), (5, .av (int (i : Nat)))], fun _ => [(2, zr w)],
  fun i st' => i <= w.U.length /\ st' = st /\ ∀ j, (hj : j < w.U.length) -> j < i -> w.U[j].id ≠ id, fun i => w.U.length - i⟩ zb ?_ ?_
 ·exact ⟨0, Tv, ⟨Nat.zero_le _, rfl, fun j _ hj => by omega⟩, ⟨Tq, Tq, Tq, Tv⟩, ⟨rfl, Tv⟩⟩
 rintro i st' ⟨hi, rfl, hall⟩
 refine zg (fun h1 => ?_) (fun h1 => ?_)
 rotate_left
 ·have : i = w.U.length := jh h1 hi
  subst this
  have e : (w.U.findIdx? fun u => decide (u.id = id)) = none := by
   rw [List.findIdx?_eq_none_iff]
   intro x hx
   obtain ⟨j, hj, rfl⟩ := List.getElem_of_mem hx
   exact decide_eq_false (hall j hj hj)
  rw [e] at h
  exact ret h
 have hlt := qy h1
 refine ⟨i, rfl, za _ (zj hlt) ?_⟩
 refine yp (fun c1 => ?_) (fun c1 => ?_)
 ·have e : (w.U.findIdx? fun u => decide (u.id = id)) = some i := by
   rw [List.findIdx?_eq_some_iff_getElem]
   exact ⟨hlt, decide_eq_true c1, fun j hj => by simpa using hall j (by omega) hj⟩
  rw [e] at h
  exact ret h
 ·refine zc (by omega) ?_
  refine ⟨i + 1, ?_, ⟨by omega, rfl, fun j hj hj2 => ?_⟩, ⟨Tq, Tq, Tq, Tv⟩, ⟨rfl, Tv⟩⟩
  ·show w.U.length - (i + 1) < w.U.length - i
   omega
  ·by_cases e : j = i
   ·subst e; exact c1
   ·exact hall j hj (by omega)
theorem zpn {l : List Unt} {i : Nat} (hi : i < l.length) (id : Int) : yb (l.take (i + 1)) id = yb (l.take i) id ++ (if l[i].inn = id then [l[i].id] else []) := by
 unfold yb
 rw [List.take_succ_eq_append_getElem hi, List.filter_append, List.map_append]
 by_cases h : l[i].inn = id <;> simp [h]
theorem zlb (w : Wld) (hU : w.U.length <= 1000000) (id : Int) (st : Store) (R : AV -> Store -> Prop) (h : R (Ch (yb w.U id)) st) : ACalls Tryz.prog 49 [.agg (zr w), int id] st R := by
 refine ACalls.of_body (c := cfg 32) zb Tryz.func49 (by rfl) (by rfl) (by rfl) (by rfl) ?_
 refine AWp.loop (σ := Nat × AV) ⟨fun x => [(1, .av (int id)), (2, .bx 2 0), (5, .av x.2), (6, .av (int (x.1 : Nat)))], fun _ => [(2, zr w)],
  fun x st' => x.1 <= w.U.length /\ App 1 st x.2 (rws qn (yb (w.U.take x.1) id)) st', fun x => w.U.length - x.1⟩ zb ?_ ?_
 ·exact ⟨(0, _), Tv, ⟨Nat.zero_le _, App.start 1 st⟩, ⟨Tq, Tq, Tq, Tq, Tv⟩, ⟨rfl, Tv⟩⟩
 rintro ⟨i, v⟩ st' ⟨hi, ha⟩
 dsimp only at hi ha ⊢
 refine zg (fun h1 => ?_) (fun h1 => ?_)
 rotate_left
 ·have : i = w.U.length := jh h1 hi
  subst this
  rw [List.take_length] at ha
  exact ⟨_, st, AV.le_trans ha.le (Tt), ha.has, h⟩
 have hlt := qy h1
 have hs := zpn hlt id
 have hl1 : (yb (w.U.take i) id).length <= 1000000 := by
  have h1 := Oq (l := w.U) i id
  have h2 : (yb w.U id).length <= w.U.length := by unfold yb; rw [List.length_map]; exact List.length_filter_le _ _
  omega
 refine ⟨i, rfl, za _ (zj hlt) ?_⟩
 refine yp (fun c1 => ?_) (fun c1 => ?_)
 ·rw [if_pos c1] at hs
  refine ⟨i, rfl, za _ (zj hlt) ?_⟩
  refine ⟨by decide, ?_⟩
  refine Cu (ie := ti3) (rows' := [qn w.U[i].id]) ha ?_ ?_ ⟨?_, ?_⟩ (fun v3 st3 ha3 => ?_)
  ·rfl
  ·rfl
  ·simp only [zu, List.length_singleton, ti3]; omega
  ·simp only [zu, List.length_singleton]; omega
  refine zc (by omega) ?_
  refine ⟨(i + 1, v3), ?_, ⟨by dsimp only; omega, ?_⟩, ⟨Tq, Tq, Tq, Tq, Tv⟩, ⟨rfl, Tv⟩⟩
  ·show w.U.length - (i + 1) < w.U.length - i
   omega
  ·dsimp only
   rw [hs]
   unfold rws
   rw [List.map_append]
   exact ha3
 ·rw [if_neg c1, List.append_nil] at hs
  refine zc (by omega) ?_
  refine ⟨(i + 1, v), ?_, ⟨by dsimp only; omega, ?_⟩, ⟨Tq, Tq, Tq, Tq, Tv⟩, ⟨rfl, Tv⟩⟩
  ·show w.U.length - (i + 1) < w.U.length - i
   omega
  ·dsimp only
   rw [hs]
   exact ha
theorem V1 (w : Wld) (hg : zl w.G) (hB : w.B.length <= 1000000000000) (hb : ∀ b ∈ w.B, z7 b /\ onP w.G b) (hU : w.U.length <= 1000000) (hn : ∀ u ∈ w.U, u.pos.ok) (hk : ∀ u ∈ w.U, jt u.kind) (id k : Int) (hkk : jt k) (q : Vc) (hq : q.ok) (st : Store) (R : AV -> Store -> Prop)
  (h : ∀ z : Bool, (z = true ↔ y5 w id k q) -> R (V.bool z) st) : ACalls Tryz.prog 47 [.agg (zr w), int id, int k, .agg (zk q)] st R := by
 have no : ¬ y5 w id k q -> R (V.bool false) st := fun hh => h false (by simp only [Bool.false_eq_true, false_iff]; exact hh)
 have hr := vy k
 have hplace : y5 w id k q -> qu q.1 q.2 := fun hh => by
  have h1 := hh.1.1
  have h2 := hg.1
  have h3 := hg.2.1
  unfold qu
  omega
 refine ACalls.of_body (c := cfg 79) zb Tryz.func47 (by rfl) (by rfl) (by rfl) (by rfl) ?_
 refine I6 k hkk _ _ ?_
 refine bcd (fun c1 => ret (no fun hh => by have := hplace hh; unfold qu at this; omega)) (fun c1 => ?_)
 refine bcd (fun c2 => ret (no fun hh => by have := hplace hh; unfold qu at this; omega)) (fun c2 => ?_)
 refine bcd (fun c3 => ret (no fun hh => by have := hplace hh; unfold qu at this; omega)) (fun c3 => ?_)
 refine bcd (fun c4 => ret (no fun hh => by have := hplace hh; unfold qu at this; omega)) (fun c4 => ?_)
 have e1 : Int.negSucc 1099511627775 = -1099511627776 := rfl
 refine zl4 w.G hg w.B hB hb (yh k) (Fy k) q (by unfold qu; omega) (zm k) ⟨hr.1, by omega⟩ _ _ (fun z hz => ?_)
 refine z8 ?_
 refine zg (fun c5 => ?_) (fun c5 => ret (no fun hh => by have := hz.2 hh.1; rw [this] at c5; cases c5))
 have hfree := hz.1 c5
 refine AWp.loop (σ := Nat) ⟨fun i => [(1, .av (int id)), (4, .bx 4 0), (7, .bx 7 0), (9, .bx 9 0), (10, .av (int (i : Nat)))], fun _ => [(4, zr w), (7, zk q), (9, vx k)],
  fun i st' => i <= w.U.length /\ st' = st /\ ∀ j, (hj : j < w.U.length) -> j < i -> w.U[j].inn = 0 -> w.U[j].id ≠ id -> qo q (zm k) w.U[j].pos (zm w.U[j].kind) = true, fun i => w.U.length - i⟩ zb ?_ ?_
 ·exact ⟨0, Tv, ⟨Nat.zero_le _, rfl, fun j _ hj => by omega⟩, ⟨Tq, Tq, Tq, Tq, Tq, Tv⟩, ⟨rfl, rfl, rfl, Tv⟩⟩
 rintro i st' ⟨hi, rfl, hall⟩
 refine zg (fun h1 => ?_) (fun h1 => ?_)
 rotate_left
 ·have : i = w.U.length := jh h1 hi
  subst this
  refine ret (h true (by
   simp only [true_iff]
   refine ⟨hfree, fun u hu h0 hne => ?_⟩
   obtain ⟨j, hj, rfl⟩ := List.getElem_of_mem hu
   exact hall j hj hj h0 hne))
 have hlt := qy h1
 have hui := List.getElem_mem hlt
 have next : (w.U[i].inn = 0 -> w.U[i].id ≠ id -> qo q (zm k) w.U[i].pos (zm w.U[i].kind) = true) -> ∀ j, (hj : j < w.U.length) -> j < i + 1 -> w.U[j].inn = 0 -> w.U[j].id ≠ id -> qo q (zm k) w.U[j].pos (zm w.U[j].kind) = true := fun hh j hj hji => by
  by_cases e : j = i
  ·subst e; exact hh
  ·exact hall j hj (by omega)
 refine ⟨i, rfl, za _ (zj hlt) ?_⟩
 refine ADraw.of_sched zb (by rfl) (by rfl) zi9 (by rfl) ?_
 refine yp (fun c6 => ?_) (fun c6 => ?_)
 rotate_left
 ·refine ⟨⟨(by repeat (first | exact Tv | refine ⟨rfl, ?_⟩ | refine ⟨optR (optR (optR (za _ (zd _ _ _) rfl))), ?_⟩)), ?_⟩, Tv⟩
  refine ⟨⟨Tv, ?_⟩, Tv⟩
  refine zc (by omega) ?_
  refine ⟨i + 1, ?_, ⟨by omega, rfl, next fun h0 => absurd h0 c6⟩, ⟨Tq, Tq, Tq, Tq, Tq, Tv⟩, ⟨rfl, rfl, rfl, Tv⟩⟩
  show w.U.length - (i + 1) < w.U.length - i
  omega
 refine qa (fun c7 => ?_) (fun c7 => ?_)
 rotate_left
 ·refine ⟨⟨(by repeat (first | exact Tv | refine ⟨rfl, ?_⟩ | refine ⟨optR (optR (optR (za _ (zd _ _ _) rfl))), ?_⟩)), ?_⟩, Tv⟩
  refine ⟨⟨Tv, ?_⟩, Tv⟩
  refine zc (by omega) ?_
  refine ⟨i + 1, ?_, ⟨by omega, rfl, next fun _ hne => absurd c7 hne⟩, ⟨Tq, Tq, Tq, Tq, Tq, Tv⟩, ⟨rfl, rfl, rfl, Tv⟩⟩
  show w.U.length - (i + 1) < w.U.length - i
  omega
 have hr2 := vy w.U[i].kind
 refine ⟨I6 w.U[i].kind (hk _ hui) _ _ ⟨(by repeat (first | exact Tv | refine ⟨rfl, ?_⟩ | refine ⟨optR (optR (optR (za _ (zd _ _ _) rfl))), ?_⟩)), ?_⟩, Tv⟩
 refine ⟨zmh q (zm k) w.U[i].pos (zm w.U[i].kind) hq (hn _ hui) ⟨hr.1, by omega⟩ ⟨hr2.1, by omega⟩ _ _ ⟨Tv, ?_⟩, Tv⟩
 refine z8 ?_
 refine zg (fun c8 => ?_) (fun c8 => ret (no fun hh => by have := hh.2 _ hui c6 c7; rw [this] at c8; cases c8))
 refine zc (by omega) ?_
 refine ⟨i + 1, ?_, ⟨by omega, rfl, next fun _ _ => c8⟩, ⟨Tq, Tq, Tq, Tq, Tq, Tv⟩, ⟨rfl, rfl, rfl, Tv⟩⟩
 show w.U.length - (i + 1) < w.U.length - i
 omega
theorem stOf {s g : Int} : (!((s == 1) == (g != -1))) = false ↔ (s = 1 ↔ g ≠ -1) := by
 by_cases h1 : s = 1 <;> by_cases h2 : g = -1 <;> simp [bne, ff, h1, h2]
theorem zo5 (k : Int) (st : Store) (R : AV -> Store -> Prop) (h : ∀ z a b c d e, (z = true ↔ jt k) -> R (.tup [.agg [int a, int b, int c, int d, int e], V.bool z]) st) : ACalls Tryz.prog 43 [int k] st R :=
 W8 k st R (fun hk => h true _ _ _ _ _ (by simp only [true_iff]; exact hk)) (fun hk => h false 0 0 0 0 0 (by simp only [Bool.false_eq_true, false_iff]; exact hk))
set_option maxHeartbeats 4000000 in
set_option maxRecDepth 20000 in
theorem zl3 (w : Wld) (hw : w.fits) (st : Store) (R : AV -> Store -> Prop) (h : ∀ z : Bool, (z = true ↔ Cl w /\ Cy w) -> R (V.bool z) st) : ACalls Tryz.prog 46 [.agg (zr w)] st R := by
 obtain ⟨hw1, hw2, hw3⟩ := hw
 have no : ¬ (Cl w /\ Cy w) -> R (V.bool false) st := fun hh => h false (by simp only [Bool.false_eq_true, false_iff]; exact hh)
 refine ACalls.of_body (c := cfg 218) zb Tryz.func46 (by rfl) (by rfl) (by rfl) (by rfl) ?_
 refine znv w.tick 1099511627776 _ _ (fun z hz => ?_)
 refine z8 ?_
 refine zg (fun c0 => ?_) (fun c0 => ret (no fun q => by have := hz.2 q.1.1.1; rw [this] at c0; cases c0))
 have htick := hz.1 c0
 refine bcd (fun c1 => ret (no fun q => by have := q.1.1; omega)) (fun c1 => ?_)
 refine bcd (fun c2 => ret (no fun q => by have := q.1.1; omega)) (fun c2 => ?_)
 refine bcd (fun c3 => ret (no fun q => by have := q.1.1; omega)) (fun c3 => ?_)
 refine bcd (fun c4 => ret (no fun q => by have := q.1.1; omega)) (fun c4 => ?_)
 refine zmg w.G hw1 w.B hw2 _ _ (fun z hz => ?_)
 refine z8 ?_
 refine zg (fun c5 => ?_) (fun c5 => ret (no fun q => by have := hz.2 ⟨q.1.2.1.1, q.1.2.1.2.1⟩; rw [this] at c5; cases c5))
 obtain ⟨hg, hbl⟩ := hz.1 c5
 have hBl : w.B.length <= 256 := hbl.1
 have hUl : ((rws ze w.U).length : Int) = (w.U.length : Int) := by rw [zu]
 refine bcd (fun c6 => ret (no fun q => by have := q.1.2.1.2.2; omega)) (fun c6 => ?_)
 refine AWp.loop (σ := Nat) ⟨fun i => [(1, .bx 1 0), (3, .av (int (i : Nat)))], fun _ => [(1, zr w)],
  fun i st' => i <= w.B.length /\ st' = st /\ ∀ j, (hj : j < w.B.length) -> j < i -> w.B[j].owner <= w.players /\ w.B[j].id < w.next, fun i => w.B.length - i⟩ zb ?_ ?_
 ·exact ⟨0, Tv, ⟨Nat.zero_le _, rfl, fun j _ hj => by omega⟩, ⟨Tq, Tq, Tv⟩, ⟨rfl, Tv⟩⟩
 rintro i st' ⟨hi, rfl, hall⟩
 refine zg (fun h1 => ?_) (fun h1 => ?_)
 ·have hlt := qy h1
  refine ADraw.of_sched zb (by rfl) (by rfl) zja (by rfl) ?_
  refine ⟨i, rfl, za _ (zj hlt) ?_⟩
  refine bcd (fun c7 => ret (no fun q => by have := q.1.2.2 _ (List.getElem_mem hlt); omega)) (fun c7 => ?_)
  refine ⟨i, rfl, za _ (zj hlt) ?_⟩
  refine bcd (fun c8 => ret (no fun q => by have := q.1.2.2 _ (List.getElem_mem hlt); omega)) (fun c8 => ?_)
  refine zc (by omega) ?_
  refine ⟨i + 1, ?_, ⟨by omega, rfl, fun j hj hji => ?_⟩, ⟨Tq, Tq, Tv⟩, ⟨rfl, Tv⟩⟩
  ·show w.B.length - (i + 1) < w.B.length - i
   omega
  ·by_cases e : j = i
   ·subst e; omega
   ·exact hall j hj (by omega)
 have hie : i = w.B.length := jh h1 hi
 subst hie
 have hhead : Cl w := ⟨⟨htick, by omega⟩, ⟨hg, hbl, by omega⟩, fun b hb => by
  obtain ⟨j, hj, rfl⟩ := List.getElem_of_mem hb
  exact hall j hj hj⟩
 refine AWp.loop (σ := Nat) ⟨fun i => [(1, .bx 1 0), (4, .av (int (i : Nat)))], fun _ => [(1, zr w)],
  fun i st2 => i <= w.U.length /\ st2 = st' /\ Bt w i, fun i => w.U.length - i⟩ zb ?_ ?_
 ·exact ⟨0, Tv, ⟨Nat.zero_le _, rfl, fun j _ hj => by omega⟩, ⟨Tq, Tq, Tv⟩, ⟨rfl, Tv⟩⟩
 rintro i st2 ⟨hi, rfl, hup⟩
 refine zg (fun h2 => ?_) (fun h2 => ?_)
 rotate_left
 ·have : i = w.U.length := jh h2 hi
  subst this
  exact ret (h true (by simp only [true_iff]; exact ⟨hhead, Ry hup⟩))
 have hlt := qy h2
 have nou : ¬ ((jy w w.U[i] /\ ∀ b ∈ w.B, b.id ≠ w.U[i].id) /\ (0 < i -> (w.U[i - 1]'(by omega)).id < w.U[i].id)) -> R (V.bool false) st2 := fun hq => no fun q => hq (Rx q.2 (i + 1) i hlt (by omega))
 refine ⟨i, rfl, za _ (zj hlt) ?_⟩
 refine zo5 w.U[i].kind _ _ (fun kz ka kb kc kd ke hk => ?_)
 refine ADraw.of_sched zb (by rfl) (by rfl) zjc (by rfl) ?_
 have skip2 : ∀ {p q : Prop}, ¬ ((jy w w.U[i] /\ ∀ b ∈ w.B, b.id ≠ w.U[i].id) /\ (0 < i -> (w.U[i - 1]'(by omega)).id < w.U[i].id)) -> ∃ r st', AV.le (V.bool false) r /\ st2.Has st' /\ R r st' := fun hq => ret (nou hq)
 refine bcd (fun c7 => ⟨⟨Tv, ⟨⟨Tv, ret (nou fun q => by have := q.1.1.1; omega)⟩, Tv⟩⟩, Tv⟩) (fun c7 => ?_)
 refine bcd (fun c8 => ⟨⟨Tv, ⟨⟨Tv, ret (nou fun q => by have := q.1.1.1; omega)⟩, Tv⟩⟩, Tv⟩) (fun c8 => ?_)
 refine bcd (fun c9 => ?_) (fun c9 => ?_)
 refine zc (by omega) ?_
 refine ⟨i - 1, by omega, za _ (zj (show i - 1 < w.U.length by omega)) ?_⟩
 refine bcd (fun c9b => ⟨⟨Tv, ⟨⟨Tv, ret (nou fun q => by have := q.2 (by omega); omega)⟩, Tv⟩⟩, Tv⟩) (fun c9b => ?_)
 have hrise : 0 < i -> (w.U[i - 1]'(by omega)).id < w.U[i].id := fun _ => by omega
 rotate_left
 have hrise : 0 < i -> (w.U[i - 1]'(by omega)).id < w.U[i].id := fun h0 => absurd h0 (by omega)
 all_goals
  refine bcd (fun c10 => ⟨⟨Tv, ⟨⟨Tv, ret (nou fun q => by have := q.1.1.1.2.1; omega)⟩, Tv⟩⟩, Tv⟩) (fun c10 => ?_)
  refine bcd (fun c11 => ⟨⟨Tv, ⟨⟨Tv, ret (nou fun q => by have := q.1.1.1.2.1; omega)⟩, Tv⟩⟩, Tv⟩) (fun c11 => ?_)
  refine z8 ?_
  refine zg (fun ck => ?_) (fun ck => ⟨⟨Tv, ⟨⟨Tv, ret (nou fun q => by have := hk.2 q.1.1.1.2.2; rw [this] at ck; cases ck)⟩, Tv⟩⟩, Tv⟩)
  have hkind := hk.1 ck
  refine qa (fun c12 => ?_) (fun c12 => ?_)
  refine ⟨Se w.G w.U[i].goal hg _ _ (fun z1 hz1 => ⟨Tv, ?_⟩), Tv⟩
  refine z8 ?_
  refine zg (fun c12b => ?_) (fun c12b => ⟨⟨Tv, ret (nou fun q => by have := q.1.1.2.1.1; unfold jq at this; have := hz1.2 (this.resolve_left c12); rw [this] at c12b; cases c12b)⟩, Tv⟩)
  have ht1 : jq w.G w.U[i].goal := .inr (hz1.1 c12b)
  rotate_left
  refine ⟨⟨Tv, ?_⟩, Tv⟩
  have ht1 : jq w.G w.U[i].goal := .inl c12
  all_goals
   refine qa (fun c13 => ?_) (fun c13 => ?_)
   refine ⟨Se w.G w.U[i].next hg _ _ (fun z2 hz2 => ⟨Tv, ?_⟩), Tv⟩
   refine z8 ?_
   refine zg (fun c14 => ?_) (fun c14 => ret (nou fun q => by have := q.1.1.2.1.2.1; unfold jq at this; have := hz2.2 (this.resolve_left c13); rw [this] at c14; cases c14))
   have ht2 : jq w.G w.U[i].next := .inr (hz2.1 c14)
   rotate_left
   refine ⟨⟨Tv, ?_⟩, Tv⟩
   have ht2 : jq w.G w.U[i].next := .inl c13
   all_goals
    refine bcd (fun d1 => ret (nou fun q => by have := q.1.1.2.1.2.2; omega)) (fun d1 => ?_)
    refine bcd (fun d2 => ret (nou fun q => by have := q.1.1.2.1.2.2; omega)) (fun d2 => ?_)
    refine bcd (fun d3 => ret (nou fun q => by have := q.1.1.2.2.1.1; omega)) (fun d3 => ?_)
    refine bcd (fun d4 => ret (nou fun q => by have := q.1.1.2.2.1.1; omega)) (fun d4 => ?_)
    refine zg (fun d5 => ret (nou fun q => by have := stOf.2 q.1.1.2.2.1.2; rw [this] at d5; cases d5)) (fun d5 => ?_)
    have hst := stOf.1 d5
    have go : (w.U[i].goal = -1 -> w.U[i].next = -1 /\ w.U[i].stuck = 0) -> jy w w.U[i] := fun hq => ⟨⟨by omega, by omega, hkind⟩, ⟨ht1, ht2, by omega⟩, ⟨by omega, hst⟩, hq⟩
    refine yp (fun d6 => ?_) (fun d6 => ?_)
    refine qa (fun d7 => ret (nou fun q => d7 (q.1.1.2.2.2 d6).1)) (fun d7 => ?_)
    refine qa (fun d8 => ret (nou fun q => d8 (q.1.1.2.2.2 d6).2)) (fun d8 => ?_)
    have hunt := go fun _ => ⟨d7, d8⟩
    rotate_left
    have hunt := go fun e => absurd e d6
    all_goals
     refine AWp.loop (σ := Nat) ⟨fun k => [(1, .bx 1 0), (4, .av (int (i : Nat))), (5, .bx 5 0), (8, .av (int (k : Nat)))], fun _ => [(1, zr w), (5, ze w.U[i])],
      fun k st3 => k <= w.B.length /\ st3 = st2 /\ ∀ j, (hj : j < w.B.length) -> j < k -> w.B[j].id ≠ w.U[i].id, fun k => w.B.length - k⟩ zb ?_ ?_
     ·exact ⟨0, Tv, ⟨Nat.zero_le _, rfl, fun j _ hj => by omega⟩, ⟨Tq, Tq, Tq, Tq, Tv⟩, ⟨rfl, rfl, Tv⟩⟩
     rintro k st3 ⟨hk3, rfl, hne⟩
     refine zg (fun e1 => ?_) (fun e1 => ?_)
     ·have hkl := qy e1
      refine ADraw.of_sched zb (by rfl) (by rfl) zjb (by rfl) ?_
      refine ⟨k, rfl, za _ (zj hkl) ?_⟩
      refine yp (fun e2 => ret (nou fun q => q.1.2 _ (List.getElem_mem hkl) e2)) (fun e2 => ?_)
      refine zc (by omega) ?_
      refine ⟨k + 1, ?_, ⟨by omega, rfl, fun j hj hjk => ?_⟩, ⟨Tq, Tq, Tq, Tq, Tv⟩, ⟨rfl, rfl, Tv⟩⟩
      ·show w.B.length - (k + 1) < w.B.length - k
       omega
      ·by_cases e : j = k
       ·subst e; exact e2
       ·exact hne j hj (by omega)
     have hke : k = w.B.length := jh e1 hk3
     subst hke
     refine zc (by omega) ?_
     refine ⟨i + 1, ?_, ⟨by omega, rfl, fun j hj hji => ?_⟩, ⟨Tq, Tq, Tv⟩, ⟨rfl, Tv⟩⟩
     ·show w.U.length - (i + 1) < w.U.length - i
      omega
     ·by_cases e : j = i
      ·subst e
       refine ⟨⟨hunt, fun b hb => ?_⟩, hrise⟩
       obtain ⟨m, hm, rfl⟩ := List.getElem_of_mem hb
       exact hne m hm hm
      ·exact hup j hj (by omega)
set_option maxHeartbeats 4000000 in
set_option maxRecDepth 20000 in
theorem zlv (w : Wld) (hw : w.fits) (hn : ∀ u ∈ w.U, u.pos.ok) (st : Store) (R : AV -> Store -> Prop) (h : ∀ z : Bool, (z = true ↔ yg w) -> R (V.bool z) st) : ACalls Tryz.prog 14 [.agg (zr w)] st R := by
 have no : ¬ yg w -> R (V.bool false) st := fun hh => h false (by simp only [Bool.false_eq_true, false_iff]; exact hh)
 refine ACalls.of_body (c := cfg 98) zb Tryz.func14 (by rfl) (by rfl) (by rfl) (by rfl) ?_
 refine zl3 w hw _ _ (fun z hz => ?_)
 refine z8 ?_
 refine zg (fun c1 => ?_) (fun c1 => ret (no fun q => by have := hz.2 q.1; rw [this] at c1; cases c1))
 obtain ⟨hh, hok⟩ := hz.1 c1
 have hg := hh.2.1.1
 have hbl := hh.2.1.2.1
 have hBl : w.B.length <= 256 := hbl.1
 have hU : w.U.length <= 4096 := hh.2.1.2.2
 have hbb : ∀ b ∈ w.B, z7 b /\ onP w.G b := fun b hb => ⟨(hbl.2.2.1 b hb).1, (hbl.2.2.1 b hb).2.1⟩
 have hkk : ∀ u ∈ w.U, jt u.kind := fun u hu => (hok.2 u hu).1.1.2.2
 refine AWp.loop (σ := Nat) ⟨fun i => [(1, .bx 1 0), (3, .av (int (i : Nat)))], fun _ => [(1, zr w)],
  fun i st' => i <= w.U.length /\ st' = st /\ ∀ j, (hj : j < w.U.length) -> j < i -> (w.U[j].inn = 0 -> y5 w w.U[j].id w.U[j].kind w.U[j].pos) /\ (w.U[j].inn ≠ 0 -> j2 w w.U[j]), fun i => w.U.length - i⟩ zb ?_ ?_
 ·exact ⟨0, Tv, ⟨Nat.zero_le _, rfl, fun j _ hj => by omega⟩, ⟨Tq, Tq, Tv⟩, ⟨rfl, Tv⟩⟩
 rintro i st' ⟨hi, rfl, hall⟩
 refine zg (fun h1 => ?_) (fun h1 => ?_)
 rotate_left
 ·have : i = w.U.length := jh h1 hi
  subst this
  refine ret (h true (by
   simp only [true_iff]
   refine ⟨⟨hh, hok⟩, fun u hu h0 => ?_, fun u hu h0 => ?_⟩
   ·obtain ⟨j, hj, rfl⟩ := List.getElem_of_mem hu
    exact (hall j hj hj).1 h0
   ·obtain ⟨j, hj, rfl⟩ := List.getElem_of_mem hu
    exact (hall j hj hj).2 h0))
 have hlt := qy h1
 have hui := List.getElem_mem hlt
 have next : ((w.U[i].inn = 0 -> y5 w w.U[i].id w.U[i].kind w.U[i].pos) /\ (w.U[i].inn ≠ 0 -> j2 w w.U[i])) -> ∀ j, (hj : j < w.U.length) -> j < i + 1 -> (w.U[j].inn = 0 -> y5 w w.U[j].id w.U[j].kind w.U[j].pos) /\ (w.U[j].inn ≠ 0 -> j2 w w.U[j]) := fun hq j hj hji => by
  by_cases e : j = i
  ·subst e; exact hq
  ·exact hall j hj (by omega)
 refine ⟨i, rfl, za _ (zj hlt) ?_⟩
 refine yp (fun c2 => ?_) (fun c2 => ?_)
 ·refine V1 w hg (by omega) hbb (by omega) hn hkk w.U[i].id w.U[i].kind (hkk _ hui) w.U[i].pos (hn _ hui) _ _ (fun z hz => ?_)
  refine z8 ?_
  refine zg (fun c3 => ?_) (fun c3 => ret (no fun q => by have := hz.2 (q.2.1 _ hui c2); rw [this] at c3; cases c3))
  refine zc (by omega) ?_
  refine ⟨i + 1, ?_, ⟨by omega, rfl, next ⟨fun _ => hz.1 c3, fun hne => absurd c2 hne⟩⟩, ⟨Tq, Tq, Tv⟩, ⟨rfl, Tv⟩⟩
  show w.U.length - (i + 1) < w.U.length - i
  omega
 have nou : ¬ j2 w w.U[i] -> R (V.bool false) st' := fun hq => no fun q => hq (q.2.2 _ hui c2)
 refine Vu w (by omega) w.U[i].inn _ _ ?_
 cases hf : w.U.findIdx? fun u => decide (u.id = w.U[i].inn) with
 | none =>
  have hno : ¬ j2 w w.U[i] := fun ⟨x, hx, e, _⟩ => by
   rw [List.findIdx?_eq_none_iff] at hf
   have := hf x hx
   rw [decide_eq_false_iff_not] at this
   exact this e
  refine ADraw.of_sched zb (by rfl) (by rfl) Vj (by rfl) ?_
  exact ⟨⟨(by repeat (first | exact Tv | refine ⟨rfl, ?_⟩ | refine ⟨optR (optR (optR (za _ (zd _ _ _) rfl))), ?_⟩)), ⟨⟨(by repeat (first | exact Tv | refine ⟨rfl, ?_⟩ | refine ⟨optR (optR (optR (za _ (zd _ _ _) rfl))), ?_⟩)), ⟨⟨(by repeat (first | exact Tv | refine ⟨rfl, ?_⟩ | refine ⟨optR (optR (optR (za _ (zd _ _ _) rfl))), ?_⟩)), ret (nou hno)⟩, Tv⟩⟩, Tv⟩⟩, Tv⟩
 | some k =>
  rw [List.findIdx?_eq_some_iff_getElem] at hf
  obtain ⟨hkl, hkid, _⟩ := hf
  have hkid := of_decide_eq_true hkid
  have uniq : j2 w w.U[i] -> (w.U[k].inn = 0 /\ w.U[k].owner = w.U[i].owner) /\ ((yb w.U w.U[i].inn).length : Int) <= xl w.U[k].kind := fun ⟨x, hx, e, e2, e3, _⟩ => by
   have := Ca hok.1 hx (List.getElem_mem hkl) (by rw [e, hkid])
   subst this
   exact ⟨e2, e3⟩
  refine ADraw.of_sched zb (by rfl) (by rfl) Vj (by rfl) ?_
  refine ⟨k, rfl, za _ (zj hkl) ?_⟩
  refine qa (fun c4 => ⟨⟨(by repeat (first | exact Tv | refine ⟨rfl, ?_⟩ | refine ⟨optR (optR (optR (za _ (zd _ _ _) rfl))), ?_⟩)), ⟨⟨(by repeat (first | exact Tv | refine ⟨rfl, ?_⟩ | refine ⟨optR (optR (optR (za _ (zd _ _ _) rfl))), ?_⟩)), ⟨⟨(by repeat (first | exact Tv | refine ⟨rfl, ?_⟩ | refine ⟨optR (optR (optR (za _ (zd _ _ _) rfl))), ?_⟩)), ret (nou (fun q => c4 (uniq q).1.1))⟩, Tv⟩⟩, Tv⟩⟩, Tv⟩) (fun c4 => ?_)
  refine ⟨k, rfl, za _ (zj hkl) ?_⟩
  refine qa (fun c5 => ⟨⟨(by repeat (first | exact Tv | refine ⟨rfl, ?_⟩ | refine ⟨optR (optR (optR (za _ (zd _ _ _) rfl))), ?_⟩)), ⟨⟨(by repeat (first | exact Tv | refine ⟨rfl, ?_⟩ | refine ⟨optR (optR (optR (za _ (zd _ _ _) rfl))), ?_⟩)), ⟨⟨(by repeat (first | exact Tv | refine ⟨rfl, ?_⟩ | refine ⟨optR (optR (optR (za _ (zd _ _ _) rfl))), ?_⟩)), ret (nou (fun q => c5 (uniq q).1.2))⟩, Tv⟩⟩, Tv⟩⟩, Tv⟩) (fun c5 => ?_)
  refine ⟨I6 w.U[i].kind (hkk _ hui) _ _ ⟨(by repeat (first | exact Tv | refine ⟨rfl, ?_⟩ | refine ⟨optR (optR (optR (za _ (zd _ _ _) rfl))), ?_⟩)), ?_⟩, Tv⟩
  refine bcd (fun c6 => ⟨⟨(by repeat (first | exact Tv | refine ⟨rfl, ?_⟩ | refine ⟨optR (optR (optR (za _ (zd _ _ _) rfl))), ?_⟩)), ⟨⟨(by repeat (first | exact Tv | refine ⟨rfl, ?_⟩ | refine ⟨optR (optR (optR (za _ (zd _ _ _) rfl))), ?_⟩)), ret (nou (fun ⟨x, _, _, _, _, e, _⟩ => by omega))⟩, Tv⟩⟩, Tv⟩) (fun c6 => ?_)
  have hroom : xl w.U[i].kind = 0 := by have := Om w.U[i].kind; omega
  refine ⟨k, rfl, za _ (zj hkl) ?_⟩
  refine ⟨zlb w (by omega) w.U[i].inn _ _ ⟨?_, ?_⟩, Tv⟩
  ·repeat (first | exact Tv | refine ⟨rfl, ?_⟩ | refine ⟨⟨k, rfl, za _ (zj hkl) rfl⟩, ?_⟩)
  refine ⟨I6 w.U[k].kind (hkk _ (List.getElem_mem hkl)) _ _ ⟨?_, ?_⟩, Tv⟩
  ·repeat (first | exact Tv | refine ⟨rfl, ?_⟩)
  have hrl : ((rws qn (yb w.U w.U[i].inn)).length : Int) = ((yb w.U w.U[i].inn).length : Int) := by rw [zu]
  refine bcd (fun c7 => ret (nou fun q => by have := (uniq q).2; omega)) (fun c7 => ?_)
  refine z8 ?_
  refine zg (fun c8 => ?_) (fun c8 => ret (nou fun ⟨x, _, _, _, _, _, e, _⟩ => by rw [e] at c8; cases c8))
  have hpos : w.U[i].pos = (0, 0) := by
   have : (w.U[i].pos.1 == 0 && (w.U[i].pos.2 == 0 && true)) = true := c8
   simp at this
   exact Prod.ext this.1 this.2
  refine qa (fun c9 => ret (nou fun ⟨x, _, _, _, _, _, _, e, _⟩ => c9 e)) (fun c9 => ?_)
  refine qa (fun c10 => ret (nou fun ⟨x, _, _, _, _, _, _, _, e⟩ => c10 e)) (fun c10 => ?_)
  refine zc (by omega) ?_
  refine ⟨i + 1, ?_, ⟨by omega, rfl, next ⟨fun h0 => absurd h0 c2, fun _ => ⟨w.U[k], List.getElem_mem hkl, hkid, ⟨c4, c5⟩, by omega, hroom, hpos, c9, c10⟩⟩⟩, ⟨Tq, Tq, Tv⟩, ⟨rfl, Tv⟩⟩
  show w.U.length - (i + 1) < w.U.length - i
  omega
end Go.Proofs
