/- The ground on which laws of thronglaw31 are proved: contracts of functions and plain lemmas; no condition beyond the row's own. -/
import Derived.Test.YtlidamnkhidljaaGreatKD
import Derived.Test.YtlidamnkhidljaaGreatKH
import Derived.Test.YtlidamnkhidljaaGreatKE
import Derived.Test.YtlidamnkhidljaaGreatKJ
import Derived.Test.YtlidamnkhidljaaGreatKI
set_option linter.unusedSimpArgs false
set_option linter.unusedVariables false
namespace Go.Proofs
open Go Go.V
set_option maxRecDepth 4000
theorem jp (n : Int) (st : Store) (R : AV -> Store -> Prop) (h : R (int (nrm n)) st) : ACalls Tryz.prog 130 [int n] st R := by
 refine ACalls.of_body (c := cfg 5) ze Tryz.func130 (by rfl) (by rfl) (by rfl) (by rfl) ?_
 rw [<- ztn] at h
 exact ret h
theorem zoc (n : Int) (hn : yu n) (st : Store) (R : AV -> Store -> Prop) (h : R (int (-nrm n)) st) : ACalls Tryz.prog 132 [int n] st R := by
 refine ACalls.of_body (c := cfg 6) ze Tryz.func132 (by rfl) (by rfl) (by rfl) (by rfl) ?_
 refine jp n _ _ ?_
 have := wv hn
 refine ⟨⟨by omega, by omega⟩, ?_⟩
 rw [show -nrm n = 0 - nrm n by omega] at h
 exact ret h
theorem kf (a b : Int) (ha : yu a) (hb : yu b) (st : Store) (R : AV -> Store -> Prop) (h : R (int (fadd a b)) st) : ACalls Tryz.prog 120 [int a, int b] st R := by
 refine ACalls.of_body (c := cfg 30) ze Tryz.func120 (by rfl) (by rfl) (by rfl) (by rfl) ?_
 refine jp a _ _ ?_
 refine jp b _ _ ?_
 have h1 := wv ha
 have h2 := wv hb
 unfold fadd at h
 generalize nrm a = x at *
 generalize nrm b = y at *
 have k1 : x + y > 9223372036854775807 -> R (int 9223372036854775807) st := fun hh => by rw [show vi (x + y) = 9223372036854775807 by unfold vi; simp [hh]] at h; exact h
 have k2 : x + y < -9223372036854775807 -> R (int (-9223372036854775807)) st := fun hh => by rw [show vi (x + y) = -9223372036854775807 by unfold vi; rw [if_neg (by omega), if_pos hh]] at h; exact h
 have k3 : ¬ x + y > 9223372036854775807 -> ¬ x + y < -9223372036854775807 -> yu (x + y) /\ R (int (x + y)) st := fun hh hh' => ⟨⟨by omega, by omega⟩, by rw [show vi (x + y) = x + y by unfold vi; rw [if_neg hh, if_neg hh']] at h; exact h⟩
 have fin : ¬ x + y > 9223372036854775807 -> ¬ x + y < -9223372036854775807 -> yu (x + y) /\ ∃ r st', AV.le (int (x + y)) r /\ st.Has st' /\ R r st' := fun hh hh' => ⟨(k3 hh hh').1, ret (k3 hh hh').2⟩
 have e : Int.negSucc 9223372036854775806 = -9223372036854775807 := rfl
 refine bcd (fun c1 => ?_) (fun c1 => ?_)
 ·refine ⟨⟨by omega, by omega⟩, ?_⟩
  refine bcd (fun c2 => ?_) (fun c2 => ?_)
  ·exact ret (k1 (by omega))
  ·refine bcd (fun c3 => ?_) (fun c3 => ?_)
   ·omega
   ·exact fin (by omega) (by omega)
 ·refine bcd (fun c3 => ?_) (fun c3 => ?_)
  ·refine ⟨⟨by omega, by omega⟩, ?_⟩
   refine bcd (fun c4 => ?_) (fun c4 => ?_)
   ·exact ret (k2 (by omega))
   ·exact fin (by omega) (by omega)
  ·exact fin (by omega) (by omega)
theorem xz (a b : Int) (ha : yu a) (hb : yu b) (st : Store) (R : AV -> Store -> Prop) (h : R (int (fsub a b)) st) : ACalls Tryz.prog 119 [int a, int b] st R := by
 refine ACalls.of_body (c := cfg 9) ze Tryz.func119 (by rfl) (by rfl) (by rfl) (by rfl) ?_
 refine zoc b hb _ _ ?_
 have h2 := wv hb
 exact kf a (-nrm b) ha ⟨by omega, by omega⟩ _ _ (ret h)
theorem zgm (n : Int) (hn : yu n) (st : Store) (R : AV -> Store -> Prop) (h : R (.tup [u64 (asz n), bool (decide (nrm n < 0))]) st) : ACalls Tryz.prog 135 [int n] st R := by
 refine ACalls.of_body (c := cfg 13) ze Tryz.func135 (by rfl) (by rfl) (by rfl) (by rfl) ?_
 refine jp n _ _ ?_
 have h1 := wv hn
 unfold asz at h
 generalize nrm n = x at *
 refine bcd (fun c1 => ?_) (fun c1 => ?_)
 ·refine ⟨⟨by omega, by omega⟩, ?_⟩
  rw [if_pos c1, show decide (x < 0) = true by simp [c1]] at h
  rw [<- zcg (v := -x) (by omega) (by omega), show -x = 0 - x by omega] at h
  exact ret h
 ·rw [if_neg c1, show decide (x < 0) = false by simp [c1]] at h
  rw [<- zcg (v := x) (by omega) (by omega)] at h
  exact ret h
set_option maxHeartbeats 1000000 in
theorem zg6 (x y : Int) (hx : 0 <= x) (hx2 : x < 18446744073709551616) (hy : 0 <= y) (hy2 : y < 18446744073709551616) (st : Store) (R : AV -> Store -> Prop) (h : R (.tup (zbe (x * y))) st) :
  ACalls Tryz.prog 137 [u64 x, u64 y] st R := by
 refine ACalls.of_body (c := cfg 51) ze Tryz.func137 (by rfl) (by rfl) (by rfl) (by rfl) ?_
 refine ⟨by decide, ?_⟩
 refine ⟨by decide, ?_⟩
 refine ⟨by decide, ?_⟩
 refine ⟨by decide, ?_⟩
 refine ⟨by decide, ?_⟩
 refine ret ((congrArg (fun l => R (.tup l) st) ?_).mpr h)
 obtain ⟨p00, p10, p01, p11, e1, e2, e3, e4, e5, b⟩ := ze2 x y hx hx2 hy hy2
 simp only [zt1, zs2 hx, zs2 hy, zdf, <- e1, <- e2, <- e3, <- e4]
 rw [zs2 (Int.emod_nonneg _ (by decide))]
 unfold zbe u64
 refine congr (congrArg _ ?_) rfl
 refine congrArg (fun n => AV.s (.int .u64 n)) ?_
 omega
theorem jy (x : Int) (hx : 0 <= x) (hx2 : x < 18446744073709551616) (st : Store) (R : AV -> Store -> Prop) (h : R (.agg (zbe (x * x))) st) : ACalls Tryz.prog 125 [u64 x] st R := by
 refine ACalls.of_body (c := cfg 14) ze Tryz.func125 (by rfl) (by rfl) (by rfl) (by rfl) ?_
 exact zg6 x x hx hx2 hx hx2 _ _ (ret h)
theorem zhx (a b : Int) (ha : 0 <= a) (hb : 0 <= b) (st : Store) (R : AV -> Store -> Prop) (h : R (bool (decide (a < b))) st) : ACalls Tryz.prog 124 [.agg (zbe a), .agg (zbe b)] st R := by
 refine ACalls.of_body (c := cfg 24) ze Tryz.func124 (by rfl) (by rfl) (by rfl) (by rfl) ?_
 refine bcd (fun c1 => ?_) (fun c1 => ?_)
 ·exact ret (isT h (by simp; omega))
 ·refine bceq (fun c2 => ?_) (fun c2 => ?_)
  ·refine ret ?_
   have : decide (a < b) = decide (a % 18446744073709551616 < b % 18446744073709551616) := by
    rw [Bool.eq_iff_iff]; simp; omega
   rw [this] at h; exact h
  ·exact ret (isF h (by simp; omega))
theorem zcf (x y c : Int) (hx : 0 <= x) (hy : 0 <= y) (hc : 0 <= c) (hc1 : c <= 1) (st : Store) (R : AV -> Store -> Prop) (h : R (.tup [u64 ((x + y + c) % 18446744073709551616), u64 ((x + y + c) / 18446744073709551616)]) st) :
  ACalls Tryz.prog 149 [u64 x, u64 y, u64 c] st R := by
 obtain ⟨a, rfl⟩ := Int.eq_ofNat_of_zero_le hx
 obtain ⟨b, rfl⟩ := Int.eq_ofNat_of_zero_le hy
 obtain ⟨d, rfl⟩ := Int.eq_ofNat_of_zero_le hc
 exact zkq Tryz.laysNm725 a b d (by omega) h
theorem zgp (a b : Int) (ha : 0 <= a) (hb : 0 <= b) (hab : a + b < 340282366920938463463374607431768211456) (st : Store) (R : AV -> Store -> Prop) (h : R (.agg (zbe (a + b))) st) : ACalls Tryz.prog 136 [.agg (zbe a), .agg (zbe b)] st R := by
 refine ACalls.of_body (c := cfg 29) ze Tryz.func136 (by rfl) (by rfl) (by rfl) (by rfl) ?_
 refine zcf (a % 18446744073709551616) (b % 18446744073709551616) 0 (by omega) (by omega) (by omega) (by omega) _ _ ?_
 refine zcf (a / 18446744073709551616) (b / 18446744073709551616) ((a % 18446744073709551616 + b % 18446744073709551616 + 0) / 18446744073709551616) (by omega) (by omega) (by omega) (by omega) _ _ ?_
 refine ret ((congrArg (fun l => R (.agg l) st) ?_).mpr h)
 refine zpa ?_ ?_
 ·omega
 ·omega
theorem zth {v : Vc} (h : v.ok) : 0 <= asz v.1 * asz v.1 /\ 0 <= asz v.2 * asz v.2 /\ asz v.1 * asz v.1 <= 85070591730234615847396907784232501249 /\ asz v.2 * asz v.2 <= 85070591730234615847396907784232501249 := by
 obtain ⟨h1, h2⟩ := h
 have a1 := zhy h1
 have a2 := zhy h2
 have b : ∀ x : Int, 0 <= x -> x <= 9223372036854775807 -> 0 <= x * x /\ x * x <= 85070591730234615847396907784232501249 := by
  intro x h3 h4
  refine ⟨Int.mul_nonneg h3 h3, ?_⟩
  have h5 : x * x <= 9223372036854775807 * 9223372036854775807 := Int.mul_le_mul h4 h4 h3 (by decide)
  exact h5
 have b1 := b _ a1.1 a1.2
 have b2 := b _ a2.1 a2.2
 exact ⟨b1.1, b2.1, b1.2, b2.2⟩
theorem ze7 (v : Vc) (hv : v.ok) (st : Store) (R : AV -> Store -> Prop) (h : R (.agg (zbe (sqr v))) st) : ACalls Tryz.prog 122 [.agg (vecC v)] st R := by
 refine ACalls.of_body (c := cfg 24) ze Tryz.func122 (by rfl) (by rfl) (by rfl) (by rfl) ?_
 have a1 := zhy hv.1
 have a2 := zhy hv.2
 have b := zth hv
 refine zgm v.1 hv.1 _ _ ?_
 refine zgm v.2 hv.2 _ _ ?_
 refine jy (asz v.1) (by omega) (by omega) _ _ ?_
 refine jy (asz v.2) (by omega) (by omega) _ _ ?_
 exact zgp _ _ (by omega) (by omega) (by omega) _ _ (ret h)
theorem zia (a b : Vc) (ha : a.ok) (hb : b.ok) (st : Store) (R : AV -> Store -> Prop) (h : R (.agg (vecC (vsub a b))) st) : ACalls Tryz.prog 123 [.agg (vecC a), .agg (vecC b)] st R := by
 refine ACalls.of_body (c := cfg 16) ze Tryz.func123 (by rfl) (by rfl) (by rfl) (by rfl) ?_
 refine ADraw.of_sched ze (by rfl) (by rfl) zn1 (by rfl) ?_
 refine ⟨xz a.1 b.1 ha.1 hb.1 _ _ ⟨(by repeat (first | exact Tv | refine ⟨rfl, ?_⟩ | refine ⟨optR (optR (optR (za _ (zb _ _ _) rfl))), ?_⟩)), ?_⟩, Tv⟩
 refine ⟨xz a.2 b.2 ha.2 hb.2 _ _ ⟨(by repeat (first | exact Tv | refine ⟨rfl, ?_⟩ | refine ⟨optR (optR (optR (za _ (zb _ _ _) rfl))), ?_⟩)), ?_⟩, Tv⟩
 refine ⟨⟨(by repeat (first | exact Tv | refine ⟨rfl, ?_⟩ | refine ⟨optR (optR (optR (za _ (zb _ _ _) rfl))), ?_⟩)), ?_⟩, Tv⟩
 exact ret h
theorem zib (a b : Vc) : (vsub a b).ok := ⟨jx _ _, jx _ _⟩
theorem vm (a b : Vc) (r : Int) (ha : a.ok) (hb : b.ok) (hr : r <= 9223372036854775807) (st : Store) (R : AV -> Store -> Prop) (h : R (bool (near a b r)) st) : ACalls Tryz.prog 100 [.agg (vecC a), .agg (vecC b), int r] st R := by
 refine ACalls.of_body (c := cfg 17) ze Tryz.func100 (by rfl) (by rfl) (by rfl) (by rfl) ?_
 unfold near at h
 refine bcd (fun c1 => ?_) (fun c1 => ?_)
 ·exact ret (isF h (by simp; omega))
 ·have hb2 := zth (zib a b)
  refine zia a b ha hb _ _ ?_
  refine ze7 _ (zib a b) _ _ ?_
  refine ((congrArg (fun n => ACalls Tryz.prog 125 [.s (.int .u64 n)] st _) (zcg (v := r) (by omega) (by omega))).mpr ?_)
  refine jy r (by omega) (by omega) _ _ ?_
  refine zhx _ _ ?_ (Int.mul_nonneg (by omega) (by omega)) _ _ (ret ?_)
  ·unfold sqr; omega
  ·have : decide (0 < r /\ sqr (vsub a b) < r * r) = decide (sqr (vsub a b) < r * r) := by
    rw [Bool.eq_iff_iff]; simp; omega
   rw [this] at h; exact h
theorem zef (n : Int) (hn : yu n) (st : Store) (R : AV -> Store -> Prop) (h : R (int (nrm n / 131072)) st) : ACalls Tryz.prog 111 [int n] st R := by
 refine ACalls.of_body (c := cfg 15) ze Tryz.func111 (by rfl) (by rfl) (by rfl) (by rfl) ?_
 refine jp n _ _ ?_
 have hb := wv hn
 generalize nrm n = x at *
 refine bcd (fun c1 => ?_) (fun c1 => ?_)
 ·refine ⟨⟨by omega, by omega⟩, ?_⟩
  refine ⟨⟨by omega, by omega⟩, ?_⟩
  refine ⟨by decide, ?_⟩
  have e : (0 - x - 1).tdiv 131072 = (0 - x - 1) / 131072 := Int.tdiv_eq_ediv_of_nonneg (by omega)
  rw [e]
  refine ⟨⟨by omega, by omega⟩, ?_⟩
  refine ⟨⟨by omega, by omega⟩, ?_⟩
  refine ⟨⟨by omega, by omega⟩, ?_⟩
  rw [show x / 131072 = 0 - ((0 - x - 1) / 131072 + 1) by omega] at h
  exact ret h
 ·refine ⟨by decide, ?_⟩
  have e : x.tdiv 131072 = x / 131072 := Int.tdiv_eq_ediv_of_nonneg (by omega)
  rw [e]
  exact ⟨⟨by omega, by omega⟩, ret h⟩
theorem xp (p : Vc) (hp : p.ok) (st : Store) (R : AV -> Store -> Prop) (h : R (.agg [int (zj p).1, int (zj p).2]) st) : ACalls Tryz.prog 93 [.agg (vecC p)] st R := by
 refine ACalls.of_body (c := cfg 10) ze Tryz.func93 (by rfl) (by rfl) (by rfl) (by rfl) ?_
 refine ADraw.of_sched ze (by rfl) (by rfl) zry (by rfl) ?_
 refine ⟨zef p.1 hp.1 _ _ ⟨(by repeat (first | exact Tv | refine ⟨rfl, ?_⟩ | refine ⟨optR (optR (optR (za _ (zb _ _ _) rfl))), ?_⟩)), ?_⟩, Tv⟩
 refine ⟨zef p.2 hp.2 _ _ ⟨(by repeat (first | exact Tv | refine ⟨rfl, ?_⟩ | refine ⟨optR (optR (optR (za _ (zb _ _ _) rfl))), ?_⟩)), ?_⟩, Tv⟩
 refine ⟨⟨(by repeat (first | exact Tv | refine ⟨rfl, ?_⟩ | refine ⟨optR (optR (optR (za _ (zb _ _ _) rfl))), ?_⟩)), ?_⟩, Tv⟩
 exact ret h
theorem zc8 (R : AV -> Store -> Prop) (h : ∀ a p, CellsOf a p [] -> R (.s (.pointer (some ⟨p, 0, none⟩))) a) : ACalls Tryz.prog 68 [] Store.empty R := by
 refine ACalls.of_body (c := cfg 5 [4] []) ze Tryz.func68 (by rfl) (by rfl) (by rfl) (by rfl) ?_
 refine xo rfl (fun ma hma => ?_)
 refine xo rfl (fun mi hmi => ?_)
 intro p hp
 have h1 : mi ≠ ma := fun e => by have := hmi.1; rw [e, zb] at this; cases this
 have h2 : p ≠ mi := fun e => by have := hp.1; rw [e, zb] at this; cases this
 have h3 : p ≠ ma := fun e => by have := hp.1; rw [e, zc (Ne.symm h1), zb] at this; cases this
 refine ret (h _ _ ⟨ma, mi, [], 0, [], [], 0, ⟨zb _ _ _, ?_, ?_, Ne.symm h1, (fun g hg => (by cases hg)), List.nodup_nil⟩, ⟨List.nodup_nil, List.nodup_nil, (fun g hg => (by cases hg)), (fun g hg => (by cases hg)), (fun g hg => (by cases hg))⟩⟩)
 ·rw [zc (Ne.symm h3), zc (Ne.symm h1)]; exact zb _ _ _
 ·rw [zc (Ne.symm h2)]; exact zb _ _ _
theorem wq {st : Store} {v : AV} {ns : List Int} (hv : Ints st v ns) (x : Int) (hlen : ns.length < 4611686018427387904) (hs : ns.Pairwise (· <= ·)) (R : AV -> Store -> Prop)
  (h : R (.tup [int (ns.countP (· < x) : Nat), bool (ns.contains x)]) st) : ACalls Tryz.prog 94 [v, int x] st R :=
 zgy Tryz.laysNm225 Tryz.func94 rfl rfl hv x hlen hs h
theorem zfs {st : Store} {b cap i j : Nat} {ns : List Int} {L : List AV} (ho : st.obj b = some (.cells (ns.map aI ++ L)))
  (hc1 : ns.length <= cap) (hc2 : cap <= 9223372036854775807) (hij : i <= j) (hj : j <= ns.length) (R : AV -> Store -> Prop)
  (h : R (.s (.slice (some ⟨b, 0, none⟩) (ns.take i ++ ns.drop j).length cap)) (st.setObj b (.cells ((ns.take i ++ ns.drop j).map aI ++ (List.replicate (j - i) (aI 0) ++ L))))) :
  ACalls Tryz.prog 110 [.s (.slice (some ⟨b, 0, none⟩) ns.length cap), int i, int j] st R :=
 zhp Tryz.laysNm223 Tryz.func110 rfl rfl ho hc1 hc2 hij hj h
theorem zaz {st : Store} {v : AV} {ns : List Int} (hv : Ints st v ns) {vb : Nat} (x : Int) (i : Nat) (hi : i <= ns.length)
  (hvb : st.obj vb = some (.cells [aI x])) (hne : ∀ b cap, v = .s (.slice (some ⟨b, 0, none⟩) ns.length cap) -> b ≠ vb) (hlen : (ns.length + 1) * 8 <= 140737488355328) (R : AV -> Store -> Prop)
  (h : ∀ b cap L, (Fresh st b \/ ∃ c0, v = .s (.slice (some ⟨b, 0, none⟩) ns.length c0)) -> (ns.take i ++ x :: ns.drop i).length <= cap -> cap <= (ns.take i ++ x :: ns.drop i).length + L.length -> cap <= 9223372036854775807 ->
   R (.s (.slice (some ⟨b, 0, none⟩) (ns.take i ++ x :: ns.drop i).length cap)) (st.setObj b (.cells ((ns.take i ++ x :: ns.drop i).map aI ++ L)))) :
  ACalls Tryz.prog 95 [v, int i, .s (.slice (some ⟨vb, 0, none⟩) 1 1)] st R :=
 zg8 Tryz.laysNm221 Tryz.func95 rfl rfl hv x i hi hvb hne hlen h
theorem zft {l : List Ent} {G : List Grp} (h : Inv l G) : ∀ g ∈ G, g.ns.length <= l.length := by
 intro g hg
 have h1 := (h.s g hg).1
 have h2 : g.ns.Nodup := h1.imp fun h e => by omega
 have h3 : g.ns ⊆ l.map (·.1) := fun id hid => by
  obtain ⟨e, he, h4, _⟩ := (h.m1 g hg id).1 hid
  exact List.mem_map.2 ⟨e, he, h4⟩
 have := List.Nodup.length_le_of_subset h2 h3
 simpa using this
theorem zin {ns : List Int} (h : ns.Pairwise (· < ·)) : ns.Pairwise (· <= ·) := h.imp fun h => by omega
set_option maxHeartbeats 1000000 in
theorem wy {a : Store} {p : Nat} {l : List Ent} (hc : CellsOf a p l) (hl : l.length <= 1000000000) (hok : ∀ e ∈ l, e.2.ok) (id : Int) (R : AV -> Store -> Prop)
  (h : ∀ a', CellsOf a' p (yc l id) -> R (bool (l.find? (atId id)).isSome) a') : ACalls Tryz.prog 92 [.s (.pointer (some ⟨p, 0, none⟩)), int id] a R := by
 obtain ⟨ma, mi, bs1, c1, G, bs2, c2, ha, hi⟩ := hc
 refine ACalls.of_body (c := cfg 60) ze Tryz.func92 (by rfl) (by rfl) (by rfl) (by rfl) ?_
 refine za _ ha.hp ?_
 refine ye rfl (it := ti125) (ie := ti45) (ik := ti3) rfl rfl rfl rfl ha.ha rfl (qA id) (fun e he => ?_) ?_
 ·obtain ⟨e, _, rfl⟩ := List.mem_map.1 he
  rfl
 rw [ztx]
 cases hf : l.find? (atId id) with
 | none =>
  rw [hf] at h
  refine ret (h a ?_)
  rw [zfr hf]
  exact ⟨ma, mi, bs1, c1, G, bs2, c2, ha, hi⟩
 | some e =>
  rw [hf] at h
  obtain ⟨hem, heq⟩ := vg hf
  have hid : e.1 = id := (by simpa [atId] using heq : id = e.1).symm
  refine xp e.2 (hok e hem) _ _ ?_
  obtain ⟨g, hg, hk⟩ := hi.m2 e hem
  have hfg : ∃ g', G.find? (zba (zj e.2)) = some g' := by
   cases hx : G.find? (zba (zj e.2)) with
   | some g' => exact ⟨g', rfl⟩
   | none => exact absurd (atKey_iff.2 hk) (by simpa using List.find?_eq_none.1 hx g hg)
  obtain ⟨g', hfg⟩ := hfg
  have hg' := vg hfg
  have : g' = g := ztq hi.n2 hg hg'.1 (by rw [hk]; exact atKey_iff.1 hg'.2)
  subst this
  obtain ⟨j, hj1, hj2⟩ := zcz hfg
  obtain ⟨k1, k2, k3⟩ := ha.hg g' hg
  obtain ⟨s1, s2⟩ := hi.s g' hg
  have hin : id ∈ g'.ns := (hi.m1 g' hg id).2 ⟨e, hem, hid, hk.symm⟩
  obtain ⟨d1, d2, d3⟩ := zhq s1 hin
  have hlen := zft hi g' hg
  refine ADraw.of_sched ze (by rfl) (by rfl) zr0 (by rfl) ?_
  refine za (o := a.obj p) _ ha.hp ?_
  refine ⟨ye rfl (it := ti126) (ie := ti42) (ik := ti130) rfl rfl rfl rfl ha.hi rfl (qG (zj e.2).1 (zj e.2).2) (fun e he => ?_) ⟨(by repeat (first | exact Tv | refine ⟨rfl, ?_⟩ | refine ⟨optR (optR (optR (za _ (zb _ _ _) rfl))), ?_⟩)), ?_⟩, Tv⟩
  ·obtain ⟨e, _, rfl⟩ := List.mem_map.1 he
   rfl
  rw [zj1, hfg]
  refine ⟨⟨(by repeat (first | exact Tv | refine ⟨rfl, ?_⟩ | refine ⟨optR (optR (optR (za _ (zb _ _ _) rfl))), ?_⟩)), ?_⟩, Tv⟩
  refine wq (.inr ⟨g'.b, g'.cap, g'.L, rfl, k1, k2⟩) id (by omega) (zin s1) _ ?_
  refine ⟨⟨by omega, by omega⟩, ?_⟩
  refine zfs k1 k2.1 k2.2.2 (Nat.le_add_right _ 1) d1 _ ?_
  generalize hns : g'.ns.take (g'.ns.countP fun x => decide (x < id)) ++ g'.ns.drop (g'.ns.countP (fun x => decide (x < id)) + 1) = ns' at *
  obtain ⟨n1, n2, n3⟩ := ha.g_ne hg
  have mid := ha.mid (.cells (ns'.map aI ++ (List.replicate (g'.ns.countP (fun x => decide (x < id)) + 1 - g'.ns.countP (fun x => decide (x < id))) (aI 0) ++ g'.L))) n3 n1 n2
  rw [show g'.ns.countP (fun x => decide (x < id)) + 1 - g'.ns.countP (fun x => decide (x < id)) = 1 by omega] at mid ⊢
  have hnl : ns'.length + 1 = g'.ns.length := by rw [<- hns]; simp; omega
  obtain ⟨v1, v2⟩ := zsp hi hem hj2 hk d2 (by rw [hid]; exact d3)
  obtain ⟨i, hi1, hi2⟩ := zcz hf
  have her : (l.map entA).eraseIdx i = (yc l id).map entA := by rw [q9, zc2 hi.n1 hi2, hid]
  refine bceq (fun hz => ?_) (fun hz => ?_)
  ·have hn0 : ns' = [] := List.eq_nil_of_length_eq_zero (by omega)
   refine ADraw.of_sched ze (by rfl) (by rfl) zrz (by rfl) ?_
   refine za (o := (a.setObj g'.b _).obj p) _ mid.hp ?_
   refine ⟨ky rfl rfl rfl rfl (it := ti126) (ik := ti130) rfl rfl rfl mid.hi rfl (qG (zj e.2).1 (zj e.2).2) (fun e he => ?_) ⟨(by repeat (first | exact Tv | refine ⟨rfl, ?_⟩ | refine ⟨optR (optR (optR (za _ (zb _ _ _) rfl))), ?_⟩)), ?_⟩, Tv⟩
   ·obtain ⟨e, _, rfl⟩ := List.mem_map.1 he
    rfl
   have m1 := mid.setI (G' := G.eraseIdx j) (bs2.eraseIdx j) c2 (fun g1 h1 => .inl ?_) (mid.nd.sublist ((List.eraseIdx_sublist ..).map _))
   rotate_left
   ·obtain ⟨q1, q2⟩ := (qx (f := Grp.key) hi.n2 hj2).1 h1
    refine ⟨q1, fun e => q2 ?_⟩
    obtain ⟨i1, hi1⟩ := List.mem_iff_getElem?.1 q1
    have := yp (f := fun g : Grp => g.b) ha.nd hi1 hj2 e
    subst this
    rw [hj2] at hi1
    cases hi1; rfl
   have e1 : ki (G.map entG) bs2 c2 (qG (zj e.2).1 (zj e.2).2) = .map ((G.eraseIdx j).map entG) (bs2.eraseIdx j) c2 := by
    unfold ki
    rw [zad, hj1]
    simp only [q9]
   rw [e1]
   refine za _ m1.hp ?_
   refine ky rfl rfl rfl rfl (it := ti125) (ik := ti3) rfl rfl rfl m1.ha rfl (qA id) (fun e he => ?_) ?_
   ·obtain ⟨e, _, rfl⟩ := List.mem_map.1 he
    rfl
   have e2 : ki (l.map entA) bs1 c1 (qA id) = .map ((yc l id).map entA) (bs1.eraseIdx i) c1 := by
    unfold ki
    rw [zae, hi1]
    simp only [her]
   rw [e2]
   have m2 := m1.setA (yc l id) (bs1.eraseIdx i) c1
   rw [hid] at v1
   exact ret (h _ ⟨ma, mi, _, _, _, _, _, m2, v1 hn0⟩)
  ·have hn0 : ns' ≠ [] := fun e => by rw [e] at hz; exact hz rfl
   refine ADraw.of_sched ze (by rfl) (by rfl) zny (by rfl) ?_
   refine za (o := (a.setObj g'.b _).obj p) _ mid.hp ?_
   refine ⟨qa (.inl rfl) rfl (it := ti126) (ik := ti130) rfl rfl rfl mid.hi rfl rfl (qG (zj e.2).1 (zj e.2).2) (fun e he => ?_) (fun e1 he hq => ?_) ⟨(by repeat (first | exact Tv | refine ⟨rfl, ?_⟩ | refine ⟨optR (optR (optR (za _ (zb _ _ _) rfl))), ?_⟩)), ?_⟩, Tv⟩
   ·obtain ⟨e, _, rfl⟩ := List.mem_map.1 he
    rfl
   ·obtain ⟨g1, _, rfl⟩ := List.mem_map.1 he
    have := (atKey_iff (k := zj e.2) (g := g1)).1 hq
    show AV.agg [int g1.x, int g1.y] = _
    rw [<- this]; rfl
   let g2 : Grp := ⟨g'.x, g'.y, ns', g'.b, g'.cap, List.replicate 1 (aI 0) ++ g'.L⟩
   have e1 : qp (G.map entG) bs2 c2 (qG (zj e.2).1 (zj e.2).2) (.agg [int (zj e.2).1, int (zj e.2).2]) (.s (.slice (some ⟨g'.b, 0, none⟩) ns'.length g'.cap)) = .map ((G.set j g2).map entG) bs2 c2 := by
    unfold qp
    rw [zad, hj1, List.map_set]
    simp only
    congr 2
    show _ = (AV.agg [int g'.x, int g'.y], _)
    rw [<- hk]; rfl
   have m1 := mid.setI (G' := G.set j g2) bs2 c2 (fun g1 h1 => ?_) (by rw [jr (fun g : Grp => g.b) (g' := g2) hj2 rfl]; exact mid.nd)
   rotate_left
   ·rcases (yd (f := fun g : Grp => g.b) ha.nd hj2).1 h1 with rfl | ⟨q1, q2⟩
    ·refine .inr ⟨zb _ _ _, ⟨?_, ?_, k2.2.2⟩, k3⟩
     ·show ns'.length <= g'.cap
      have := k2.1; omega
     ·show g'.cap <= ns'.length + (List.replicate 1 (aI 0) ++ g'.L).length
      have := k2.2.1
      simp; omega
    ·exact .inl ⟨q1, q2⟩
   rw [<- e1] at m1
   refine za _ m1.hp ?_
   refine ky rfl rfl rfl rfl (it := ti125) (ik := ti3) rfl rfl rfl m1.ha rfl (qA id) (fun e he => ?_) ?_
   ·obtain ⟨e, _, rfl⟩ := List.mem_map.1 he
    rfl
   have e2 : ki (l.map entA) bs1 c1 (qA id) = .map ((yc l id).map entA) (bs1.eraseIdx i) c1 := by
    unfold ki
    rw [zae, hi1]
    simp only [her]
   rw [e2]
   have m2 := m1.setA (yc l id) (bs1.eraseIdx i) c1
   rw [hid] at v2
   exact ret (h _ ⟨ma, mi, _, _, _, _, _, m2, v2 hn0 g2 rfl rfl⟩)
theorem j0 {l : List Ent} {id : Int} : ∀ e ∈ yc l id, e.1 ≠ id := fun e he => (mem_dropId.1 he).2
theorem zhl (l : List Ent) (id : Int) : (yc l id).length <= l.length := List.length_filter_le _ _
set_option maxHeartbeats 1000000 in
theorem zc6 {a : Store} {p : Nat} {l : List Ent} (hc : CellsOf a p l) (hl : l.length <= 1000000000) (hok : ∀ e ∈ l, e.2.ok) (id : Int) (pos : Vc) (hpos : pos.ok) (R : AV -> Store -> Prop)
  (h : ∀ a', CellsOf a' p (yc l id ++ [(id, pos)]) -> R (.tup []) a') : ACalls Tryz.prog 69 [.s (.pointer (some ⟨p, 0, none⟩)), int id, .agg (vecC pos)] a R := by
 refine ACalls.of_body (c := cfg 46 [38, 1000038] []) ze Tryz.func69 (by rfl) (by rfl) (by rfl) (by rfl) ?_
 refine wy hc hl hok id _ (fun a1 hc1 => ?_)
 obtain ⟨ma, mi, bs1, c1, G, bs2, c2, ha, hi⟩ := hc1
 refine xp pos hpos _ _ ?_
 obtain ⟨cur, ns, e1, e2, e3, e4, e5, e6⟩ := zi0 (pos := pos) ha hi j0
 have hnl : ns.length <= 1000000000 := by
  rcases e4 with rfl | ⟨g, hg, rfl⟩
  ·simp
  ·have h1 := zft hi g hg
   have h2 := zhl l id
   omega
 have hle := zor id ns
 refine ADraw.of_sched ze (by rfl) (by rfl) zr6 (by rfl) ?_
 refine za (o := a1.obj p) _ ha.hp ?_
 refine ⟨ye rfl (it := ti126) (ie := ti42) (ik := ti130) rfl rfl rfl rfl ha.hi rfl (qG (zj pos).1 (zj pos).2) (fun e he => ?_) ⟨(by repeat (first | exact Tv | refine ⟨rfl, ?_⟩ | refine ⟨optR (optR (optR (za _ (zb _ _ _) rfl))), ?_⟩)), ?_⟩, Tv⟩
 ·obtain ⟨e, _, rfl⟩ := List.mem_map.1 he
  rfl
 rw [zj1, show jh ti42 = .s (.slice none 0 0) from rfl, e1]
 refine ⟨wq e2 id (by omega) (zin e3) _ ⟨(by repeat (first | exact Tv | refine ⟨rfl, ?_⟩ | refine ⟨optR (optR (optR (za _ (zb _ _ _) rfl))), ?_⟩)), ?_⟩, Tv⟩
 refine ⟨⟨(by repeat (first | exact Tv | refine ⟨rfl, ?_⟩ | refine ⟨optR (optR (optR (za _ (zb _ _ _) rfl))), ?_⟩)), ?_⟩, Tv⟩
 refine ⟨⟨(by repeat (first | exact Tv | refine ⟨rfl, ?_⟩ | refine ⟨optR (optR (optR (za _ (zb _ _ _) rfl))), ?_⟩)), ?_⟩, Tv⟩
 refine ADraw.of_sched ze (by rfl) (by rfl) zr5 (by rfl) ?_
 refine za (o := a1.obj p) _ ha.hp ?_
 refine za (o := a1.obj p) _ ha.hp ?_
 refine ⟨ye rfl (it := ti126) (ie := ti42) (ik := ti130) rfl rfl rfl rfl ha.hi rfl (qG (zj pos).1 (zj pos).2) (fun e he => ?_) ⟨?_, ?_⟩, ?_⟩
 ·obtain ⟨e, _, rfl⟩ := List.mem_map.1 he
  rfl
 ·repeat (first | exact Tv | refine ⟨rfl, ?_⟩ | refine ⟨za (o := a1.obj p) _ ha.hp rfl, ?_⟩)
 ·rw [zj1, show jh ti42 = .s (.slice none 0 0) from rfl, e1]
  refine ⟨⟨by decide, fun vb hvb => ?_⟩, Tv⟩
  have hp1 := (ha.fresh (.cells [aI id]) hvb).hp
  refine ⟨?_, ?_⟩
  ·repeat (first | exact Tv | refine ⟨rfl, ?_⟩ | refine ⟨za (o := (a1.setObj vb (.cells [aI id])).obj p) _ hp1 rfl, ?_⟩)
  refine ⟨zaz (e2.fresh _ hvb) id _ hle (zb _ _ _) (fun b cap hc he => e5 b cap hc (he ▸ hvb.1)) (by omega) _ (fun b cap L q1 q2 q3 q4 => ?_), Tv⟩
  obtain ⟨w1, w2, G', bs2', c2', w3, w4, w5⟩ := e6 vb _ b cap L hvb q1 q2 q3 q4
  refine ⟨?_, ?_⟩
  ·repeat (first | exact Tv | refine ⟨rfl, ?_⟩ | refine ⟨za (o := Store.obj (Store.setObj _ b _) p) _ w2 rfl, ?_⟩)
  refine ⟨qa (.inl rfl) rfl (it := ti126) (ik := ti130) rfl rfl rfl w1 rfl rfl (qG (zj pos).1 (zj pos).2) (fun e he => ?_) (fun e1 he hq => ?_) ⟨(by repeat (first | exact Tv | refine ⟨rfl, ?_⟩ | refine ⟨optR (optR (optR (za _ (zb _ _ _) rfl))), ?_⟩)), ?_⟩, Tv⟩
  ·obtain ⟨e, _, rfl⟩ := List.mem_map.1 he
   rfl
  ·obtain ⟨g1, _, rfl⟩ := List.mem_map.1 he
   have := (atKey_iff (k := zj pos) (g := g1)).1 hq
   show AV.agg [int g1.x, int g1.y] = _
   rw [<- this]; rfl
  rw [w3]
  refine ADraw.of_sched ze (by rfl) (by rfl) zit (by rfl) ?_
  refine za (o := Store.obj (Store.setObj _ mi _) p) _ w4.hp ?_
  refine ⟨qa (.inl rfl) rfl (it := ti125) (ik := ti3) rfl rfl rfl w4.ha rfl rfl (qA id) (fun e he => ?_) (fun e1 he hq => ?_) ⟨(by repeat (first | exact Tv | refine ⟨rfl, ?_⟩ | refine ⟨optR (optR (optR (za _ (zb _ _ _) rfl))), ?_⟩)), ?_⟩, Tv⟩
  ·obtain ⟨e, _, rfl⟩ := List.mem_map.1 he
   rfl
  ·obtain ⟨g1, hg1, rfl⟩ := List.mem_map.1 he
   have : id = g1.1 := by simpa [qA, entA, int] using hq
   exact absurd this.symm (j0 g1 hg1)
  have e7 : qp ((yc l id).map entA) bs1 c1 (qA id) (int id) (.agg (vecC pos)) = .map ((yc l id ++ [(id, pos)]).map entA) (bs1 ++ [c1]) (c1 + 1) := by
   unfold qp
   have : (yc l id).findIdx? (atId id) = none := by
    rw [List.findIdx?_eq_none_iff]
    intro e he
    have := j0 e he
    simp [atId]
    exact fun h => this h.symm
   rw [zae, this, List.map_append]
   rfl
  have w6 := w4.setA (yc l id ++ [(id, pos)]) (bs1 ++ [c1]) (c1 + 1)
  rw [<- e7] at w6
  exact ret (h _ ⟨ma, mi, _, _, G', _, _, w6, w5⟩)
 ·refine ⟨⟨by decide, fun vb hvb => ?_⟩, Tv⟩
  have ha1 := ha.fresh (.cells [aI id]) hvb
  have hp1 := ha1.hp
  refine ⟨?_, ?_⟩
  ·repeat (first | exact Tv | refine ⟨rfl, ?_⟩ | refine ⟨za (o := (a1.setObj vb (.cells [aI id])).obj p) _ hp1 rfl, ?_⟩)
  refine ⟨ye rfl (it := ti126) (ie := ti42) (ik := ti130) rfl rfl rfl rfl ha1.hi rfl (qG (zj pos).1 (zj pos).2) (fun e he => ?_) ⟨?_, ?_⟩, Tv⟩
  ·obtain ⟨e, _, rfl⟩ := List.mem_map.1 he
   rfl
  ·repeat (first | exact Tv | refine ⟨rfl, ?_⟩ | refine ⟨za (o := (a1.setObj vb (.cells [aI id])).obj p) _ hp1 rfl, ?_⟩)
  rw [zj1, show jh ti42 = .s (.slice none 0 0) from rfl, e1]
  refine ⟨zaz (e2.fresh _ hvb) id _ hle (zb _ _ _) (fun b cap hc he => e5 b cap hc (he ▸ hvb.1)) (by omega) _ (fun b cap L q1 q2 q3 q4 => ?_), Tv⟩
  obtain ⟨w1, w2, G', bs2', c2', w3, w4, w5⟩ := e6 vb _ b cap L hvb q1 q2 q3 q4
  refine ⟨?_, ?_⟩
  ·repeat (first | exact Tv | refine ⟨rfl, ?_⟩ | refine ⟨za (o := Store.obj (Store.setObj _ b _) p) _ w2 rfl, ?_⟩)
  refine ⟨qa (.inl rfl) rfl (it := ti126) (ik := ti130) rfl rfl rfl w1 rfl rfl (qG (zj pos).1 (zj pos).2) (fun e he => ?_) (fun e1 he hq => ?_) ⟨(by repeat (first | exact Tv | refine ⟨rfl, ?_⟩ | refine ⟨optR (optR (optR (za _ (zb _ _ _) rfl))), ?_⟩)), ?_⟩, Tv⟩
  ·obtain ⟨e, _, rfl⟩ := List.mem_map.1 he
   rfl
  ·obtain ⟨g1, _, rfl⟩ := List.mem_map.1 he
   have := (atKey_iff (k := zj pos) (g := g1)).1 hq
   show AV.agg [int g1.x, int g1.y] = _
   rw [<- this]; rfl
  rw [w3]
  refine ADraw.of_sched ze (by rfl) (by rfl) zit (by rfl) ?_
  refine za (o := Store.obj (Store.setObj _ mi _) p) _ w4.hp ?_
  refine ⟨qa (.inl rfl) rfl (it := ti125) (ik := ti3) rfl rfl rfl w4.ha rfl rfl (qA id) (fun e he => ?_) (fun e1 he hq => ?_) ⟨(by repeat (first | exact Tv | refine ⟨rfl, ?_⟩ | refine ⟨optR (optR (optR (za _ (zb _ _ _) rfl))), ?_⟩)), ?_⟩, Tv⟩
  ·obtain ⟨e, _, rfl⟩ := List.mem_map.1 he
   rfl
  ·obtain ⟨g1, hg1, rfl⟩ := List.mem_map.1 he
   have : id = g1.1 := by simpa [qA, entA, int] using hq
   exact absurd this.symm (j0 g1 hg1)
  have e7 : qp ((yc l id).map entA) bs1 c1 (qA id) (int id) (.agg (vecC pos)) = .map ((yc l id ++ [(id, pos)]).map entA) (bs1 ++ [c1]) (c1 + 1) := by
   unfold qp
   have : (yc l id).findIdx? (atId id) = none := by
    rw [List.findIdx?_eq_none_iff]
    intro e he
    have := j0 e he
    simp [atId]
    exact fun h => this h.symm
   rw [zae, this, List.map_append]
   rfl
  have w6 := w4.setA (yc l id ++ [(id, pos)]) (bs1 ++ [c1]) (c1 + 1)
  rw [<- e7] at w6
  exact ret (h _ ⟨ma, mi, _, _, G', _, _, w6, w5⟩)
def ptr (b : Nat) : AV := .s (.pointer (some ⟨b, 0, none⟩))
set_option maxHeartbeats 1000000 in
theorem zdm {F N : Store} (hd : Disj F N) {p : Nat} {l : List Ent} (hc : CellsOf F p l) {b3 b4 b5 b6 : Nat} {q : Vc} {r : Int} {v : AV} {acc : List Int} (hN : NearAt N b3 b4 b5 b6 p q r v acc) (hq : q.ok) (hr : r <= 9223372036854775807)
  {e : Ent} (he : l.find? (atId e.1) = some e) (hok : e.2.ok) (hlen : acc.length <= 1000000000000) (R : AV -> Store -> Prop)
  (h : ∀ N' v', Disj F N' -> NearAt N' b3 b4 b5 b6 p q r v' (if near q e.2 r then acc ++ [e.1] else acc) -> R (.tup []) (F.un N')) :
  ACalls Tryz.prog 118 [int e.1, ptr b4, ptr b3, ptr b5, ptr b6] (F.un N) R := by
 obtain ⟨ma, mi, bs1, c1, G, bs2, c2, ha, hi⟩ := hc
 refine ACalls.of_body (c := cfg 19) ze Tryz.func118 (by rfl) (by rfl) (by rfl) (by rfl) ?_
 refine ADraw.of_sched ze (by rfl) (by rfl) zn2 (by rfl) ?_
 refine za (o := (F.un N).obj b4) _ (un_r hN.h4) ?_
 refine za (o := (F.un N).obj b3) _ (un_r hN.h3) ?_
 refine za (o := (F.un N).obj p) _ (un_l hd ha.hp) ?_
 refine za (o := (F.un N).obj b5) _ (un_r hN.h5) ?_
 refine ⟨ye rfl (it := ti125) (ie := ti45) (ik := ti3) rfl rfl rfl rfl (un_l hd ha.ha) rfl (qA e.1) (fun e he => ?_) ⟨?_, ?_⟩, Tv⟩
 ·obtain ⟨e, _, rfl⟩ := List.mem_map.1 he
  rfl
 ·repeat (first | exact Tv | refine ⟨rfl, ?_⟩ | refine ⟨za (o := (F.un N).obj b4) _ (un_r hN.h4) rfl, ?_⟩ | refine ⟨za (o := (F.un N).obj b5) _ (un_r hN.h5) rfl, ?_⟩)
 rw [ztx, he]
 refine ⟨vm q e.2 r hq hok hr _ _ ⟨Tv, ?_⟩, Tv⟩
 cases hn : near q e.2 r with
 | false =>
  rw [hn] at h
  exact ret (h N v hd hN)
 | true =>
  rw [hn] at h
  refine za (o := (F.un N).obj b6) _ (un_r hN.h6) ?_
  refine ⟨by decide, ?_⟩
  refine zsy (ie := ti3) rfl rfl rfl hN.hv.un e.1 hlen (fun b cap L q1 q2 q3 q4 => ?_)
  have q1' : Fresh N b \/ ∃ c0, v = .s (.slice (some ⟨b, 0, none⟩) acc.length c0) := q1.imp (fun h => (ka h).2) id
  have hN' := hN.app q1' q2 q3 q4
  rw [zu]
  have hd1 : Disj F (N.setObj b (.cells ((acc ++ [e.1]).map aI ++ L))) := by
   rcases q1 with q1 | ⟨c0, q1⟩
   ·exact j1 hd (ka q1).1
   ·rcases hN.hv with ⟨h1, _⟩ | ⟨b', _, _, h1, h2, _⟩
    ·rw [h1] at q1; cases q1
    ·rw [h1] at q1
     simp at q1
     exact xc hd (q1.1 ▸ h2)
  have hd2 := xc (x := .cells [.s (.slice (some ⟨b, 0, none⟩) (acc ++ [e.1]).length cap)]) hd1 (b := b6) (y := .cells [v]) (by
   have hne : b6 ≠ b := by
    rcases q1' with q1 | ⟨c0, q1⟩
    ·exact Ne.symm (q1.ne_obj hN.h6)
    ·exact Ne.symm (hN.nv b _ _ q1).2.2.2
   rw [zc hne]; exact hN.h6)
  have h6' : (N.setObj b (.cells ((acc ++ [e.1]).map aI ++ L))).obj b6 = some (.cells [v]) := by
   have hne : b6 ≠ b := by
    rcases q1' with q1 | ⟨c0, q1⟩
    ·exact Ne.symm (q1.ne_obj hN.h6)
    ·exact Ne.symm (hN.nv b _ _ q1).2.2.2
   rw [zc hne]; exact hN.h6
  refine zo (i := ti42) (v := .s (.slice (some ⟨b, 0, none⟩) (acc ++ [e.1]).length cap)) (b := b6) (o := 0) (l := [v]) (st2 := F.un ((N.setObj b (.cells ((acc ++ [e.1]).map aI ++ L))).setObj b6 (.cells [.s (.slice (some ⟨b, 0, none⟩) (acc ++ [e.1]).length cap)]))) rfl rfl rfl (un_r h6') (Nat.le_refl _) ?_ ?_
  ·rw [zu]; rfl
  ·exact ret (h _ _ hd2 hN')
theorem zdc {P : Program} {l : Nat} {args : List AV} {st : Store} {R R' : AV -> Store -> Prop} (h : AYield P l args st R) (hR : ∀ r s, R r s -> R' r s) : AYield P l args st R' := by
 refine ⟨fun Oth M w vs sto hr => ?_⟩
 obtain ⟨fn, tmps, as1, body, h1, h2⟩ := h.out Oth M w vs sto hr
 exact ⟨fn, tmps, as1, body, h1, h2.mono fun e w' ⟨v, he, r, s, M', k1, k2⟩ => ⟨v, he, r, s, M', hR r s k1, k2⟩⟩
theorem zdb (v : AV) (U : List Unt) (hv : v = lst 10 untC U) (st : Store) (R : AV -> Store -> Prop) (h : ∀ p, Fresh st p -> R (.clos 50 [ptr p]) (st.setObj p (.cells [v]))) :
  ACalls Tryz.prog 30 [v] st R := by
 subst hv
 refine ACalls.of_body (c := cfg 4 [1] []) ze Tryz.func30 (by rfl) (by rfl) (by rfl) (by rfl) ?_
 intro p hp
 exact ret (h p hp)
theorem zki (U : List Unt) (hU : U.length <= 1000000000) (p l : Nat) (I : Nat -> Store -> Prop) (hp : ∀ i S, I i S -> S.obj p = some (.cells [lst 10 untC U]))
  (hy : ∀ i S (hi : i < U.length), I (i + 1) S -> AYield Tryz.prog l [int (i : Nat), .agg (untC U[i])] S fun r S' => r = V.bool true /\ I i S')
  (st : Store) (h0 : I U.length st) (R : AV -> Store -> Prop) (h : ∀ S, I 0 S -> R (.tup []) S) : ACalls Tryz.prog 50 [.s (.func (.yield l) #[] #[]), ptr p] st R := by
 refine ACalls.of_body (c := cfg 19) ze Tryz.func50 (by rfl) (by rfl) (by rfl) (by rfl) ?_
 refine za (o := st.obj p) _ (hp _ _ h0) ?_
 refine in64 (by rw [zk]; omega) ?_
 refine AWp.loop (σ := Nat × Int) ⟨fun i => [(0, .av (.s (.func (.yield l) #[] #[]))), (1, .av (ptr p)), (3, .av (int i.2))], fun _ => [], fun i st' => i.1 <= U.length /\ i.2 = (i.1 : Int) - 1 /\ I i.1 st', fun i => i.1⟩ ze ?_ ?_
 ·exact ⟨(U.length, _), Tv, ⟨Nat.le_refl _, by rw [zk], h0⟩, ⟨Tq, Tq, Tq, Tv⟩, Tv⟩
 rintro ⟨i, j⟩ st' ⟨hi, hj, hI⟩
 dsimp only at hi hj hI ⊢
 subst hj
 refine bcd (fun c1 => ?_) (fun c1 => ?_)
 rotate_left
 ·have : i = 0 := by omega
  subst this
  exact ret (h _ hI)
 obtain ⟨k, rfl⟩ : ∃ k, i = k + 1 := ⟨i - 1, by omega⟩
 refine za (o := st'.obj p) _ (hp _ _ hI) ?_
 refine ⟨k, by omega, za _ (z6 (show k < U.length by omega)) ?_⟩
 have hk : k < U.length := by omega
 have he : (((k + 1 : Nat) : Int) - 1) = (k : Nat) := by omega
 rw [he]
 refine zdc (hy k st' hk hI) ?_
 rintro r S' ⟨rfl, hI2⟩
 refine in64 (by omega) ?_
 exact ⟨(k, _), (show k < k + 1 by omega), ⟨by dsimp only; omega, rfl, hI2⟩, ⟨Tq, Tq, Tq, Tv⟩, Tv⟩
theorem zhr (v : Value) (hv : ∃ a n c, v = .slice a n c) (W : Nat) (hW : 1 <= W) (Wi : Int) (hWi : Wi = (W : Nat)) (st : Store) (R : AV -> Store -> Prop) (h : ∀ p q, Fresh st p -> Fresh (st.setObj p (.cells [.s v])) q -> R (.clos 51 [ptr p, ptr q]) ((st.setObj p (.cells [.s v])).setObj q (.cells [int (W : Nat)]))) :
  ACalls Tryz.prog 33 [.s v, int Wi] st R := by
 subst hWi
 obtain ⟨a, n, c, rfl⟩ := hv
 refine ACalls.of_body (c := cfg 9 [2,3] []) ze Tryz.func33 (by rfl) (by rfl) (by rfl) (by rfl) ?_
 intro p hp q hq
 refine za (o := ((st.setObj p (.cells [.s (.slice a n c)])).setObj q (.cells [int (W : Nat)])).obj q) _ (zb _ _ _) ?_
 refine bcd (fun c1 => absurd c1 (by omega)) (fun c1 => ?_)
 exact ret (h p q hp hq)
theorem zfz (W H bb : Nat) (hW : 1 <= W) (hn : H * W <= 1000000000) (p q l : Nat) (I : Nat -> Store -> Prop) (hp : ∀ k S, I k S -> S.obj p = some (.cells [.s (.slice (some ⟨bb, 0, none⟩) (H * W) (H * W))]) /\ S.obj q = some (.cells [int (W : Nat)]))
  (hy : ∀ k S (hi : k < H), I k S -> AYield Tryz.prog l [.s (.slice (some ⟨bb, 0 + k * W * 1, none⟩) W W)] S fun r S' => r = V.bool true /\ I (k + 1) S')
  (st : Store) (h0 : I 0 st) (R : AV -> Store -> Prop) (h : ∀ S, I H S -> R (.tup []) S) : ACalls Tryz.prog 51 [.s (.func (.yield l) #[] #[]), ptr p, ptr q] st R := by
 refine ACalls.of_body (c := cfg 31) ze Tryz.func51 (by rfl) (by rfl) (by rfl) (by rfl) ?_
 refine AWp.loop (σ := Nat × Int) ⟨fun i => [(0, .av (.s (.func (.yield l) #[] #[]))), (1, .av (ptr p)), (2, .av (ptr q)), (4, .av (int i.2))], fun _ => [], fun i st' => i.1 <= H /\ i.2 = ((i.1 * W : Nat) : Int) /\ I i.1 st', fun i => H - i.1⟩ ze ?_ ?_
 ·exact ⟨(0, _), Tv, ⟨Nat.zero_le _, by simp, h0⟩, ⟨Tq, Tq, Tq, Tq, Tv⟩, Tv⟩
 rintro ⟨k, j⟩ st' ⟨hi, hj, hI⟩
 dsimp only at hi hj hI ⊢
 subst hj
 obtain ⟨h1, h2⟩ := hp _ _ hI
 refine za (o := st'.obj p) _ h1 ?_
 refine bcd (fun c1 => ?_) (fun c1 => ?_)
 rotate_left
 ·have : k = H := by
   rcases Nat.lt_or_ge k H with hlt | hge
   ·have := Nat.mul_le_mul_right W (show k + 1 <= H from hlt)
    rw [Nat.add_mul] at this
    omega
   ·omega
  subst this
  exact ret (h _ hI)
 have hkH : k < H := by
  rcases Nat.lt_or_ge k H with hlt | hge
  ·exact hlt
  ·have := Nat.mul_le_mul_right W hge
   omega
 have hle : k * W + W <= H * W := by
  have := Nat.mul_le_mul_right W (show k + 1 <= H from hkH)
  rw [Nat.add_mul] at this
  omega
 refine ADraw.of_sched ze (by rfl) (by rfl) zr8 (by rfl) ?_
 refine za (o := st'.obj q) _ h2 ?_
 refine za (o := st'.obj p) _ h1 ?_
 refine ⟨k * W, H * W, rfl, rfl, by omega, Nat.le_refl _, .inl ⟨by omega, ?_⟩⟩
 have hm : min2 ((W : Nat) : Int) ((H * W - k * W : Nat) : Int) = ((W : Nat) : Int) := by
  unfold min2
  rw [decide_eq_false (by omega)]
  rfl
 refine ⟨⟨Tv, ?_⟩, Tv⟩
 refine za (o := st'.obj p) _ h1 ?_
 rw [hm]
 refine in64 (by omega) ?_
 refine in64 (by omega) ?_
 refine zf5 rfl (it := ti24) (ie := ti5) rfl rfl rfl (i := k * W) (j := k * W + W) (m := k * W + W) (by omega) (Nat.le_refl _) hle (by omega) ?_
 rw [show k * W + W - k * W = W by omega]
 refine zdc (hy k st' hkH hI) ?_
 rintro r S' ⟨rfl, hI2⟩
 refine za (o := S'.obj q) _ (hp _ _ hI2).2 ?_
 refine in64 (by omega) ?_
 refine ⟨(k + 1, _), (show H - (k + 1) < H - k by omega), ⟨hkH, ?_, hI2⟩, ⟨Tq, Tq, Tq, Tq, Tv⟩, Tv⟩
 dsimp only
 rw [Nat.add_mul, Nat.one_mul]
 omega
/-- A slice that grows by appends, in a store of which one knows facts. -/
def zs3 (S : Store) (v : AV) (rows : List (List AV)) : Prop := (v = .s (.slice none 0 0) /\ rows = []) \/ (rows ≠ [] /\ ∃ b, v = .lst 1 rows (some b) /\ S.obj b = none /\ S.tok b = some (rows.length * 1))
theorem zjq {P : Program} {c : Cfg} {S : Store} {e : TypeId} {ie : TI} {v : AV} {x : LV} {K : AV -> Store -> Prop} {rows rows' : List (List AV)} (h : zs3 S v rows) (hie : c.I e = some ie) (h1 : ie.size = 1) (hx : yy ie.size x = some rows') (hne : rows' ≠ [])
  (hroom : room (rows.length + rows'.length) ie.bytes) (hK : ∀ b st2, (∀ i, st2.obj i = S.obj i) -> st2.obj b = none -> st2.tok b = some ((rows ++ rows').length * 1) -> K (.lst 1 (rows ++ rows') (some b)) st2) : appendK P c S e (.av v) x K := by
 have fin : ∀ (base : Store), (∀ i, base.obj i = S.obj i) -> ∀ v2 st2, App ie.size base v2 (rows ++ rows') st2 -> K v2 st2 := by
  intro base hb v2 st2 ha
  rw [h1] at ha
  rcases ha with ⟨_, e, _⟩ | ⟨_, e, _⟩ | ⟨_, b, hf, rfl, rfl⟩
  ·simp [hne] at e
  ·simp [hne] at e
  ·exact hK b _ hb hf.1 (by simp [Store.setTok])
 rcases h with ⟨rfl, rfl⟩ | ⟨hr, b, rfl, hob, htok⟩
 ·exact ja (st := S) (rows := []) (.inl ⟨rfl, rfl, rfl⟩) hie hx hroom (fin S fun _ => rfl) (by rw [h1]; rfl)
 ·have hS : S = (S.setTok b none).setTok b (some (rows.length * 1)) := by
   show S = Store.mk S.obj (fun i => bif Nat.beq i b then some (rows.length * 1) else (bif Nat.beq i b then none else S.tok i))
   have : S.tok = fun i => bif Nat.beq i b then some (rows.length * 1) else (bif Nat.beq i b then none else S.tok i) := by
    funext i
    by_cases hi : i = b
    ·subst hi; simp [htok]
    ·simp [nbeq hi]
   rw [<- this]
  refine ja (st := S.setTok b none) (rows := rows) (.inr (.inr ⟨hr, b, ⟨hob, by simp [Store.setTok]⟩, by rw [h1], by rw [h1]; exact hS⟩)) hie hx hroom (fin _ fun _ => rfl) (by rw [h1]; rfl)
set_option maxRecDepth 20000 in
theorem zd0 (n : Int) (st : Store) (R : AV -> Store -> Prop) (h : ∀ z : Bool, (z = true ↔ zcu n) -> R (bool z) st) : ACalls Tryz.prog 66 [int n] st R := by
 refine ACalls.of_body (c := cfg 9) ze Tryz.func66 (by rfl) (by rfl) (by rfl) (by rfl) ?_
 repeat' (first | refine bcd (fun _ => ?_) (fun _ => ?_) | refine zf (fun _ => ?_) (fun _ => ?_) | refine in64 (by omega) ?_ | fail)
 all_goals
  refine ret (h _ ?_)
  unfold zcu
  simp only [decide_eq_true_eq, decide_eq_false_iff_not, Bool.false_eq_true, false_iff, true_iff, beq_iff_eq, bne_iff_ne, beq_eq_false_iff_ne, ne_eq, reduceCtorEq] at *
  omega
set_option maxRecDepth 20000 in
theorem zdq (n : Int) (st : Store) (R : AV -> Store -> Prop) (h : ∀ z : Bool, (z = true ↔ 1 <= n /\ n <= 128) -> R (bool z) st) : ACalls Tryz.prog 84 [int n] st R := by
 refine ACalls.of_body (c := cfg 9) ze Tryz.func84 (by rfl) (by rfl) (by rfl) (by rfl) ?_
 repeat' (first | refine bcd (fun _ => ?_) (fun _ => ?_) | refine zf (fun _ => ?_) (fun _ => ?_) | refine in64 (by omega) ?_ | fail)
 all_goals
  refine ret (h _ ?_)
  simp only [decide_eq_true_eq, decide_eq_false_iff_not, Bool.false_eq_true, false_iff, true_iff, beq_iff_eq, bne_iff_ne, beq_eq_false_iff_ne, ne_eq, reduceCtorEq] at *
  omega
set_option maxRecDepth 20000 in
theorem zg3 (p : Vc) (st : Store) (R : AV -> Store -> Prop) (h : ∀ z : Bool, (z = true ↔ jd p.1 p.2) -> R (bool z) st) : ACalls Tryz.prog 116 [.agg (vecC p)] st R := by
 refine ACalls.of_body (c := cfg 21) ze Tryz.func116 (by rfl) (by rfl) (by rfl) (by rfl) ?_
 repeat' (first | refine bcd (fun _ => ?_) (fun _ => ?_) | refine zf (fun _ => ?_) (fun _ => ?_) | refine in64 (by omega) ?_ | fail)
 all_goals
  refine ret (h _ ?_)
  unfold jd
  simp only [decide_eq_true_eq, decide_eq_false_iff_not, Bool.false_eq_true, false_iff, true_iff, beq_iff_eq, bne_iff_ne, beq_eq_false_iff_ne, ne_eq, reduceCtorEq] at *
  omega
set_option maxRecDepth 20000 in
theorem zhv (b : Bld) (st : Store) (R : AV -> Store -> Prop) (h : ∀ z : Bool, (z = true ↔ bldP b) -> R (bool z) st) : ACalls Tryz.prog 87 [.agg (bldC b)] st R := by
 refine ACalls.of_body (c := cfg 41) ze Tryz.func87 (by rfl) (by rfl) (by rfl) (by rfl) ?_
 repeat' (first | refine bcd (fun _ => ?_) (fun _ => ?_) | refine zf (fun _ => ?_) (fun _ => ?_) | refine in64 (by omega) ?_ | fail)
 all_goals
  refine ret (h _ ?_)
  unfold bldP
  simp only [decide_eq_true_eq, decide_eq_false_iff_not, Bool.false_eq_true, false_iff, true_iff, beq_iff_eq, bne_iff_ne, beq_eq_false_iff_ne, ne_eq, reduceCtorEq] at *
  omega
set_option maxRecDepth 20000 in
theorem zou (g : Gnd) (b : Bld) (hg : gndP g) (hb : bldP b) (st : Store) (R : AV -> Store -> Prop) (h : ∀ z : Bool, (z = true ↔ onP g b) -> R (bool z) st) : ACalls Tryz.prog 88 [.agg (gndC g), .agg (bldC b)] st R := by
 obtain ⟨h1, h2, _, _⟩ := hg; obtain ⟨_, _, h3, h4⟩ := hb
 refine ACalls.of_body (c := cfg 33) ze Tryz.func88 (by rfl) (by rfl) (by rfl) (by rfl) ?_
 repeat' (first | refine bcd (fun _ => ?_) (fun _ => ?_) | refine zf (fun _ => ?_) (fun _ => ?_) | refine in64 (by omega) ?_ | fail)
 all_goals
  refine ret (h _ ?_)
  unfold onP
  simp only [decide_eq_true_eq, decide_eq_false_iff_not, Bool.false_eq_true, false_iff, true_iff, beq_iff_eq, bne_iff_ne, beq_eq_false_iff_ne, ne_eq, reduceCtorEq] at *
  omega
set_option maxRecDepth 20000 in
theorem zso (g : Gnd) (t : Int) (hg : gndP g) (st : Store) (R : AV -> Store -> Prop) (h : ∀ z : Bool, (z = true ↔ 0 <= t /\ t < g.W * g.H) -> R (bool z) st) : ACalls Tryz.prog 91 [.agg (gndC g), int t] st R := by
 have hm := ym hg
 refine ACalls.of_body (c := cfg 16) ze Tryz.func91 (by rfl) (by rfl) (by rfl) (by rfl) ?_
 repeat' (first | refine bcd (fun _ => ?_) (fun _ => ?_) | refine zf (fun _ => ?_) (fun _ => ?_) | refine in64 (by omega) ?_ | fail)
 all_goals
  refine ret (h _ ?_)
  simp only [decide_eq_true_eq, decide_eq_false_iff_not, Bool.false_eq_true, false_iff, true_iff, beq_iff_eq, bne_iff_ne, beq_eq_false_iff_ne, ne_eq, reduceCtorEq] at *
  omega
set_option maxRecDepth 20000 in
theorem zce (g : Gnd) (t : Int) (hg : gndP g) (st : Store) (R : AV -> Store -> Prop) (h : ∀ z : Bool, (z = true ↔ ze4 g t) -> R (bool z) st) : ACalls Tryz.prog 67 [.agg (gndC g), int t] st R := by
 refine ACalls.of_body (c := cfg 12) ze Tryz.func67 (by rfl) (by rfl) (by rfl) (by rfl) ?_
 repeat' (first | refine bcd (fun _ => ?_) (fun _ => ?_) | refine zf (fun _ => ?_) (fun _ => ?_) | refine in64 (by omega) ?_ | (refine zso _ _ hg _ _ ?_; rintro (_ | _) hz)| fail)
 all_goals
  refine ret (h _ ?_)
  unfold ze4
  simp only [decide_eq_true_eq, decide_eq_false_iff_not, Bool.false_eq_true, false_iff, true_iff, beq_iff_eq, bne_iff_ne, beq_eq_false_iff_ne, ne_eq, reduceCtorEq] at *
  omega
set_option maxRecDepth 20000 in
theorem zh3 (w : Wld) (u : Unt) (hg : gndP w.G) (st : Store) (R : AV -> Store -> Prop) (h : ∀ z : Bool, (z = true ↔ untP w u) -> R (bool z) st) : ACalls Tryz.prog 45 [.agg (wldC w), .agg (untC u)] st R := by
 refine ACalls.of_body (c := cfg 90) ze Tryz.func45 (by rfl) (by rfl) (by rfl) (by rfl) ?_
 repeat' (first | refine bcd (fun _ => ?_) (fun _ => ?_) | refine zf (fun _ => ?_) (fun _ => ?_) | refine in64 (by omega) ?_ | (refine zd0 u.kind _ _ ?_; rintro (_ | _) hz)| (refine zce w.G u.goal hg _ _ ?_; rintro (_ | _) hz)| (refine zce w.G u.next hg _ _ ?_; rintro (_ | _) hz)| fail)
 all_goals
  refine ret (h _ ?_)
  simp only [decide_eq_true_eq, decide_eq_false_iff_not, Bool.false_eq_true, false_iff, true_iff, beq_iff_eq, bne_iff_ne, beq_eq_false_iff_ne, ne_eq, reduceCtorEq, untP, zcu, ze4] at *
  first | omega | (clear h; rcases Decidable.em (u.state = 1) with e1 | e1 <;> rcases Decidable.em (u.goal = -1) with e2 | e2 <;> simp [bne, beqD, e1, e2] at * <;> omega)
theorem zcr (l : List UInt8) (hl : l.length <= 1000000000000) (hne : 0 < l.length) (st : Store) (R : AV -> Store -> Prop) (h : ∀ m : UInt8, m ∈ l -> (∀ t ∈ l, t.toNat <= m.toNat) -> R (u8 m) st) : ACalls Tryz.prog 85 [byts l] st R := by
 refine ACalls.of_body (c := cfg 25) ze Tryz.func85 (by rfl) (by rfl) (by rfl) (by rfl) ?_
 refine zf (fun h1 => ?_) (fun h1 => ?_)
 ·rw [zk] at h1
  simp at h1
  omega
 refine ⟨0, rfl, za _ (z6 hne) ?_⟩
 refine AWp.loop (σ := Nat × UInt8) ⟨fun s => [(0, .av (byts l)), (3, .av (u8 s.2)), (4, .av (int (s.1 : Nat)))], fun _ => [],
  fun s st' => (1 <= s.1 /\ s.1 <= l.length) /\ st' = st /\ s.2 ∈ l /\ ∀ t ∈ l.take s.1, t.toNat <= s.2.toNat, fun s => l.length - s.1⟩ ze ?_ ?_
 ·refine ⟨(1, l[0]), Tv, ⟨⟨Nat.le_refl _, hne⟩, rfl, List.getElem_mem hne, fun t ht => ?_⟩, ⟨Tq, Tq, Tq, Tv⟩, Tv⟩
  have : l.take 1 = [l[0]] := by
   cases l with
   | nil => simp at hne
   | cons a l => rfl
  rw [this] at ht
  simp at ht
  rw [ht]
  exact Nat.le_refl _
 ·rintro ⟨i, m⟩ st' ⟨⟨hi1, hi⟩, rfl, hm, hall⟩
  simp only at hi1 hi hm hall
  refine zf (fun h1 => ?_) (fun h1 => ?_)
  ·have hlt : i < l.length := zjc h1
   refine ⟨i, rfl, za _ (z6 hlt) ?_⟩
   refine ⟨⟨by omega, by omega⟩, ?_⟩
   have hmax : max2 (m.toNat : Int) (l[i].toNat : Int) = ((if l[i].toNat > m.toNat then l[i] else m : UInt8).toNat : Int) := by
    unfold max2
    by_cases hg : l[i].toNat > m.toNat
    ·rw [if_pos hg, decide_eq_true (by omega)]; rfl
    ·rw [if_neg hg, decide_eq_false (by omega)]; rfl
   refine ⟨(i + 1, if l[i].toNat > m.toNat then l[i] else m), ?_, ⟨⟨by omega, hlt⟩, rfl, ?_, fun t ht => ?_⟩, ⟨Tq, ?_, Tq, Tv⟩, Tv⟩
   ·show l.length - (i + 1) < l.length - i
    omega
   ·show (if l[i].toNat > m.toNat then l[i] else m) ∈ l
    split
    ·exact List.getElem_mem hlt
    ·exact hm
   ·show t.toNat <= (if l[i].toNat > m.toNat then l[i] else m : UInt8).toNat
    rw [List.take_succ_eq_append_getElem hlt] at ht
    rcases List.mem_append.1 ht with ht | ht
    ·have := hall t ht
     split <;> omega
    ·simp at ht
     subst ht
     split <;> omega
   ·show LV.le (.av (.s (.int .u8 (max2 (m.toNat : Int) (l[i].toNat : Int))))) _
    rw [hmax]
    exact Tq
  ·have hge : i = l.length := ztu h1 hi
   subst hge
   rw [List.take_length] at hall
   exact ⟨_, st', Tt, Store.Has.refl st', h m hm hall⟩
theorem zbk (g : Gnd) (hg : g.fits) (st : Store) (R : AV -> Store -> Prop) (h : ∀ b : Bool, (b = true ↔ gndP g) -> R (bool b) st) : ACalls Tryz.prog 62 [.agg (gndC g)] st R := by
 refine ACalls.of_body (c := cfg 28) ze Tryz.func62 (by rfl) (by rfl) (by rfl) (by rfl) ?_
 refine zdq g.W _ _ (fun b hb => ?_)
 cases b with
 | false =>
  refine ⟨_, st, Tt, Store.Has.refl st, h _ ?_⟩
  simp only [Bool.false_eq_true, false_iff] at hb ⊢
  exact fun hp => hb hp.1
 | true =>
  refine zdq g.H _ _ (fun b2 hb2 => ?_)
  cases b2 with
  | false =>
   refine ⟨_, st, Tt, Store.Has.refl st, h _ ?_⟩
   simp only [Bool.false_eq_true, false_iff] at hb2 ⊢
   exact fun hp => hb2 hp.2.1
  | true =>
   have hm := znx (hb.1 rfl) (hb2.1 rfl)
   refine ⟨⟨by omega, by omega⟩, ?_⟩
   refine zf (fun h1 => ⟨_, st, Tt, Store.Has.refl st, h _ ?_⟩) (fun h1 => ?_)
   ·rw [zk] at h1
    simp only [Bool.false_eq_true, false_iff]
    intro hp
    have := hp.2.2.1
    simp [this] at h1
   ·rw [zk] at h1
    have h1 : (g.T.length : Int) = g.W * g.H := by simpa using h1
    refine zcr g.T hg (by omega) _ _ (fun m hm1 hm2 => ?_)
    refine ⟨_, st, Tt, Store.Has.refl st, h _ ?_⟩
    rw [decide_eq_true_iff]
    constructor
    ·intro h2
     refine ⟨hb.1 rfl, hb2.1 rfl, h1, fun t ht => ?_⟩
     have := hm2 t ht
     omega
    ·intro hp
     have := hp.2.2.2 m hm1
     omega
end Go.Proofs
