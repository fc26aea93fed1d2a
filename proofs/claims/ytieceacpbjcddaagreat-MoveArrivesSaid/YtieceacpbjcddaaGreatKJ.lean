/- Ground of laws of thronglaw24: contracts and plain lemmas; no condition beyond the row's own. -/
import Derived.Test.YtieceacpbjcddaaGreatKF
set_option linter.unusedSimpArgs false
set_option linter.unusedVariables false
set_option linter.defProp false
namespace Go.V
def j9 (v : Vc) : Prop := (-1099511627776 <= v.1 /\ v.1 <= 1099511627776) /\ (-1099511627776 <= v.2 /\ v.2 <= 1099511627776)
theorem Dk {v : Vc} (h : j9 v) : xe v := by unfold j9 at h; unfold xe; omega
theorem om {v : Vc} (h : j9 v) : v.ok := by
 unfold j9 at h
 exact ⟨⟨by omega, by omega⟩, ⟨by omega, by omega⟩⟩
theorem Iw {p q : Vc} (hp : yr p) (hq : yr q) : j9 (y6 q p) := by
 rw [(Mo hp hq).1]
 unfold yr at hp hq
 unfold j9
 dsimp only
 omega
theorem zsc {w : Wld} {u : Unt} (hu : yr u.pos) (h : ∀ x ∈ w.U, x.inn = 0 -> yr x.pos) (hl : w.U.length <= 4096) : j9 (Cy w u) := by
 have key : ∀ (l : List Unt) (v : Vc) (B : Nat), (∀ x ∈ l, x.inn = 0 -> yr x.pos) -> B + l.length <= 4096 -> (v.1.natAbs <= B * 16777216 /\ v.2.natAbs <= B * 16777216) ->
   j9 (l.foldl (fun v x => if x.inn = 0 /\ x.id ≠ u.id then qv v (j2 u.pos (zk u.kind + zk x.kind + 16384) x.pos) else v) v) := by
  intro l
  induction l with
  | nil =>
   intro v B _ hB hv
   unfold j9
   simp only [List.length_nil] at hB
   simp only [List.foldl_nil]
   omega
  | cons x l ih =>
   intro v B hx hB hv
   simp only [List.length_cons] at hB
   rw [List.foldl_cons]
   refine ih _ (B + 1) (fun y hy => hx y (List.mem_cons_of_mem _ hy)) (by omega) ?_
   split
   ·rename_i hc
    have r1 := Hq u.kind
    have r2 := Hq x.kind
    have := Oe hu (hx x List.mem_cons_self hc.1) (r := zk u.kind + zk x.kind + 16384) (by omega)
    generalize j2 u.pos (zk u.kind + zk x.kind + 16384) x.pos = z at *
    have e : qv v z = (v.1 + z.1, v.2 + z.2) := by
     unfold qv
     rw [Bv (by omega) (by omega), Bv (by omega) (by omega)]
    rw [e]
    dsimp only
    omega
   ·exact ⟨Nat.le_trans hv.1 (Nat.mul_le_mul_right _ (Nat.le_succ B)), Nat.le_trans hv.2 (Nat.mul_le_mul_right _ (Nat.le_succ B))⟩
 unfold Cy
 refine key w.U (0, 0) 0 h (by omega) ⟨?_, ?_⟩
 ·show (0 : Int).natAbs <= _; simp
 ·show (0 : Int).natAbs <= _; simp
theorem ep : ∀ {a b : List Unt}, (a.map (·.id)).Pairwise (· < ·) -> (b.map (·.id)).Pairwise (· < ·) -> (∀ u, u ∈ a ↔ u ∈ b) -> a = b
 | [], [], _, _, _ => rfl
 | [], y :: b, _, _, h => absurd ((h y).2 List.mem_cons_self) (by simp)
 | x :: a, [], _, _, h => absurd ((h x).1 List.mem_cons_self) (by simp)
 | x :: a, y :: b, ha, hb, h => by
  rw [List.map_cons, List.pairwise_cons] at ha hb
  have hx := (h x).1 List.mem_cons_self
  have hy := (h y).2 List.mem_cons_self
  have e : x = y := by
   rcases List.mem_cons.1 hx with e | hx
   ·exact e
   ·rcases List.mem_cons.1 hy with e | hy
    ·exact e.symm
    ·have h1 := hb.1 _ (List.mem_map.2 ⟨x, hx, rfl⟩)
     have h2 := ha.1 _ (List.mem_map.2 ⟨y, hy, rfl⟩)
     omega
  subst e
  refine congrArg _ (ep ha.2 hb.2 fun u => ⟨fun hu => ?_, fun hu => ?_⟩)
  ·rcases List.mem_cons.1 ((h u).1 (List.mem_cons_of_mem _ hu)) with e | e
   ·have := ha.1 _ (List.mem_map.2 ⟨u, hu, rfl⟩)
    rw [e] at this
    omega
   ·exact e
  ·rcases List.mem_cons.1 ((h u).2 (List.mem_cons_of_mem _ hu)) with e | e
   ·have := hb.1 _ (List.mem_map.2 ⟨u, hu, rfl⟩)
    rw [e] at this
    omega
   ·exact e
/-- Ways that are numbers as they count. -/
def nV (v : Vc) : Prop := (-9223372036854775807 <= v.1 /\ v.1 <= 9223372036854775807) /\ (-9223372036854775807 <= v.2 /\ v.2 <= 9223372036854775807)
theorem bt (a b : Vc) : nV (qv a b) := ⟨Pr _ _, Pr _ _⟩
theorem Ov {v : Vc} (h : nV v) : v.ok := by
 unfold nV at h
 exact ⟨⟨by omega, by omega⟩, ⟨by omega, by omega⟩⟩
theorem el {a : Int} (h : -9223372036854775807 <= a /\ a <= 9223372036854775807) : yo a 0 = a := by
 unfold yo
 rw [wx (by omega), wx (by omega)]
 unfold xo
 split
 ·omega
 ·split <;> omega
theorem mw {v : Vc} (h : nV v) : qv v (0, 0) = v := by
 unfold qv
 rw [el h.1, el h.2]
/-- What one adds. -/
def jr (u : Unt) (v : Vc) (x : Unt) : Vc := if x.id ≠ u.id then qv v (j2 u.pos (zk u.kind + zk x.kind + 16384) x.pos) else v
theorem br {u x : Unt} {v : Vc} (h : nV v) : nV (jr u v x) := by
 unfold jr
 split
 ·exact bt _ _
 ·exact h
theorem bp {u : Unt} : ∀ (l : List Unt) {v : Vc}, nV v -> nV (l.foldl (jr u) v)
 | [], _, h => h
 | x :: l, _, h => bp l (br h)
theorem zpi {p q : Vc} {r : Int} (h : near p q r = false) : j2 p r q = (0, 0) := by
 unfold j2
 rw [h]
 simp
theorem K0 (u : Unt) (r : Int) (hr : ∀ k, zk u.kind + zk k + 16384 <= r) : ∀ (l : List Unt) (v : Vc), nV v ->
  l.foldl (fun v x => if x.inn = 0 /\ x.id ≠ u.id then qv v (j2 u.pos (zk u.kind + zk x.kind + 16384) x.pos) else v) v = (l.filter fun x => decide (x.inn = 0) && near u.pos x.pos r).foldl (jr u) v
 | [], v, _ => rfl
 | x :: l, v, h => by
  rw [List.foldl_cons, List.filter_cons]
  by_cases h0 : x.inn = 0
  ·cases hn : near u.pos x.pos r with
   | true =>
    simp only [h0, decide_true, Bool.and_self, if_true, List.foldl_cons, true_and]
    exact K0 u r hr l _ (br h)
   | false =>
    have hf : near u.pos x.pos (zk u.kind + zk x.kind + 16384) = false := by
     cases hc : near u.pos x.pos (zk u.kind + zk x.kind + 16384) with
     | false => rfl
     | true => rw [bg (hr x.kind) hc] at hn; cases hn
    simp only [h0, decide_true, Bool.and_false, Bool.false_eq_true, if_false, true_and]
    rw [zpi hf, mw h, ite_self]
    exact K0 u r hr l _ h
  ·simp only [h0, decide_false, Bool.false_and, Bool.false_eq_true, if_false, false_and]
   exact K0 u r hr l _ h
theorem zsb {w : Wld} {u : Unt} (hr : yq w.U) {us : List Unt} (hn : Dv w u.pos (zk u.kind + 16384 + 81920) us) (hs : (us.map (·.id)).Pairwise (· < ·)) : Cy w u = us.foldl (jr u) (0, 0) := by
 unfold Cy
 rw [K0 u (zk u.kind + 16384 + 81920) (fun k => by have := (Ax k).2; omega) w.U (0, 0) ⟨⟨by decide, by decide⟩, ⟨by decide, by decide⟩⟩]
 congr 1
 refine ep ?_ hs fun x => ?_
 ·have : (w.U.map (·.id)).Pairwise (· < ·) := by
   rw [List.pairwise_iff_getElem]
   intro i j hi hj hij
   rw [List.length_map] at hi hj
   simp only [List.getElem_map]
   exact Hl hr hij hj
  exact this.sublist (List.filter_sublist.map _)
 ·rw [List.mem_filter, hn x, Bool.and_eq_true, decide_eq_true_iff]
  constructor
  ·rintro ⟨h1, h2, h3⟩; exact ⟨⟨h1, h2⟩, h3⟩
  ·rintro ⟨⟨h1, h2⟩, h3⟩; exact ⟨h1, h2, h3⟩
/-- A way's halves. -/
theorem zsn {v : Vc} (h : nV v) (k : Nat) : nV (j4 v k) := by
 obtain ⟨h1, h2⟩ := h
 have e1 := di v.1 k
 have e2 := di v.2 k
 unfold nV j4
 dsimp only
 omega
theorem mm {v : Vc} (h : v.ok) : nV (qi v) := by
 obtain ⟨h1, h2⟩ := h
 have e1 := jg h1
 have e2 := jg h2
 unfold nV qi
 dsimp only
 omega
/-- One more try. -/
theorem oc {w : Wld} {u : Unt} {v : Vc} {n k : Nat} (h0 : j4 v k ≠ (0, 0)) (hc : ¬ qh w u.id u.kind (qv u.pos (j4 v k))) : qs w u v (n + 1) k = qs w u v n (k + 1) := by
 show (if _ then _ else if _ then _ else _) = _
 rw [if_neg h0, if_neg hc]
theorem n8 {w : Wld} {u : Unt} {v : Vc} {n k : Nat} (h0 : j4 v k = (0, 0)) : qs w u v (n + 1) k = none := by
 show (if _ then _ else if _ then _ else _) = _
 rw [if_pos h0]
theorem n9 {w : Wld} {u : Unt} {v : Vc} {n k : Nat} (h0 : j4 v k ≠ (0, 0)) (hc : qh w u.id u.kind (qv u.pos (j4 v k))) : qs w u v (n + 1) k = some (k, qv u.pos (j4 v k)) := by
 show (if _ then _ else if _ then _ else _) = _
 rw [if_neg h0, if_pos hc]
theorem zku {k : Nat} (hk : k < 5) : IntKind.i64.wrap (1 * 2 ^ (min ((k : Int)).toNat IntKind.i64.bits)) = ((2 ^ k : Nat) : Int) := by
 have : k = 0 \/ k = 1 \/ k = 2 \/ k = 3 \/ k = 4 := by omega
 rcases this with rfl | rfl | rfl | rfl | rfl <;> decide
def x4 : Nat -> (Nat -> Nat) -> Nat
 | 0, _ => 0
 | n + 1, f => x4 n f + f n
theorem Nh {f g : Nat -> Nat} : ∀ n, (∀ t, t < n -> f t = g t) -> x4 n f = x4 n g
 | 0, _ => rfl
 | n + 1, h => by
  show x4 n f + f n = x4 n g + g n
  rw [Nh n (fun t ht => h t (by omega)), h n (by omega)]
theorem I6 {f g : Nat -> Nat} : ∀ n, (∀ t, t < n -> f t <= g t) -> x4 n f <= x4 n g
 | 0, _ => Nat.le_refl _
 | n + 1, h => by
  show x4 n f + f n <= x4 n g + g n
  have := I6 n (fun t ht => h t (by omega))
  have := h n (by omega)
  omega
theorem I7 (c : Nat) : ∀ n, x4 n (fun _ => c) = n * c
 | 0 => by simp [x4]
 | n + 1 => by
  show x4 n (fun _ => c) + c = _
  rw [I7 c n, Nat.succ_mul]
/-- One place is another. -/
theorem Fs {f g : Nat -> Nat} {u : Nat} : ∀ n, u < n -> (∀ t, t < n -> t ≠ u -> f t = g t) -> x4 n f + g u = x4 n g + f u
 | 0, hu, _ => by omega
 | n + 1, hu, h => by
  show x4 n f + f n + g u = x4 n g + g n + f u
  by_cases e : u = n
  ·subst e
   rw [Nh u (fun t ht => h t (by omega) (by omega))]
   omega
  ·have := Fs (f := f) (g := g) n (by omega) (fun t ht hne => h t (by omega) hne)
   have := h n (by omega) (Ne.symm e)
   omega
/-- How many are told. -/
def wn (n : Nat) (d : Nat -> Int) : Nat := x4 n fun t => if 0 <= d t then 1 else 0
theorem oj (n : Nat) (d : Nat -> Int) : wn n d <= n := by
 have := I6 (f := fun t => if 0 <= d t then 1 else 0) (g := fun _ => 1) n (fun t _ => by split <;> omega)
 rw [I7] at this
 unfold wn
 omega
theorem oi {n : Nat} {d : Nat -> Int} {u : Nat} (hu : u < n) (h : d u < 0) {x : Int} (hx : 0 <= x) : wn n (zt d u x) = wn n d + 1 := by
 have := Fs (f := fun t => if 0 <= zt d u x t then 1 else 0) (g := fun t => if 0 <= d t then 1 else 0) n hu (fun t _ hne => by simp only [qn hne])
 simp only [xj, if_pos hx, if_neg (show ¬ 0 <= d u by omega)] at this
 unfold wn
 omega
theorem oh {n : Nat} {d : Nat -> Int} {u : Nat} (h : 0 <= d u) {x : Int} (hx : 0 <= x) : wn n (zt d u x) = wn n d := by
 unfold wn
 refine Nh n fun t _ => ?_
 by_cases e : t = u
 ·subst e; rw [xj, if_pos hx, if_pos h]
 ·rw [qn e]
/-- Costs stay small. -/
def Ad (n : Nat) (d : Nat -> Int) : Prop := ∀ t, d t <= 84 * (wn n d : Int) - 84 \/ d t < 0
theorem fp {n goal : Nat} (hg : goal < n) {d : Nat -> Int} (hd : ∀ u, d u = if u = goal then 0 else -1) : Ad n d := by
 intro t
 have h1 : 1 <= wn n d := by
  have := Fs (f := fun t => if 0 <= d t then 1 else 0) (g := fun t => if t = goal then 0 else if 0 <= d t then 1 else 0) n hg (fun t _ hne => by rw [if_neg hne])
  have h0 : (if 0 <= d goal then 1 else 0) = 1 := by rw [hd, if_pos rfl]; rfl
  simp only [if_true, h0] at this
  unfold wn
  omega
 rw [hd]
 split
 ·left; omega
 ·right; omega
theorem Lt {n : Nat} {d : Nat -> Int} (h : Ad n d) {t u : Nat} {c : Int} (hu : u < n) (ht : 0 <= d t) (hc : 0 < c /\ c <= 84) (hl : d u < 0 \/ d t + c < d u) : Ad n (zt d u (d t + c)) := by
 have hdt := h t
 by_cases hn : d u < 0
 ·have e := oi (n := n) hu hn (show 0 <= d t + c by omega)
  intro v
  rw [e]
  by_cases ev : v = u
  ·subst ev; rw [xj]; omega
  ·rw [qn ev]
   have := h v
   omega
 ·have e := oh (n := n) (d := d) (u := u) (by omega) (show 0 <= d t + c by omega)
  intro v
  rw [e]
  by_cases ev : v = u
  ·subst ev; rw [xj]
   have := h v
   omega
  ·rw [qn ev]; exact h v
theorem Gs {n : Nat} {d : Nat -> Int} (h : Ad n d) (t : Nat) : d t <= 84 * (n : Int) := by
 have := h t
 have := oj n d
 omega
/-- What is left to lower. -/
def Bm (n : Nat) (d : Nat -> Int) : Nat := x4 n fun t => if 0 <= d t then (d t).toNat else 84 * n + 1
theorem zrm {n : Nat} {d : Nat -> Int} (h : Ad n d) {t u : Nat} {c : Int} (hu : u < n) (ht : 0 <= d t) (hc : 0 < c /\ c <= 84) (hl : d u < 0 \/ d t + c < d u) : Bm n (zt d u (d t + c)) < Bm n d := by
 have hb := Gs (Lt h hu ht hc hl) u
 rw [xj] at hb
 have := Fs (f := fun v => if 0 <= zt d u (d t + c) v then (zt d u (d t + c) v).toNat else 84 * n + 1) (g := fun v => if 0 <= d v then (d v).toNat else 84 * n + 1) n hu (fun v _ hne => by simp only [qn hne])
 simp only [xj, if_pos (show 0 <= d t + c by omega)] at this
 unfold Bm
 split at this <;> omega
/-- How many are not done. -/
def wv (n : Nat) (dn : Nat -> Bool) : Nat := x4 n fun t => if dn t then 0 else 1
theorem zp4 {n : Nat} {dn : Nat -> Bool} {t : Nat} (ht : t < n) (h : dn t = false) : wv n (zt dn t true) + 1 = wv n dn := by
 have := Fs (f := fun v => if zt dn t true v = true then 0 else 1) (g := fun v => if dn v = true then 0 else 1) n ht (fun v _ hne => by simp only [qn hne])
 simp only [xj, h, if_true, Bool.false_eq_true, if_false] at this
 unfold wv
 omega
theorem zoy {l : List (Int × Int)} (h : x9 l) (x : Int × Int) : UpF (qat (l ++ [x])) (l ++ [x]).length l.length := by
 have h2 : Fg (qat (l ++ [x])) l.length := fun j h0 hj => by
  rw [Wl l x j hj, Wl l x (par j) (by have := vh h0; omega)]
  exact h j h0 hj
 have := mz h2
 simpa using this
theorem zov {l : List (Int × Int)} {i : Nat} (h : UpF (qat l) l.length i) (h0 : 0 < i) (hi : i < l.length) (hl : qlt (qat l i) (qat l (par i))) :
  UpF (qat (xz l i (par i))) (xz l i (par i)).length (par i) /\ (xz l i (par i)).Perm l := by
 have hp := vh h0
 rw [Wk hi (by omega), Fq]
 exact ⟨my h h0 hi hl, Sy hi (by omega)⟩
theorem Wi {l : List (Int × Int)} {i : Nat} (h : UpF (qat l) l.length i) (hi : i = 0 \/ ¬ qlt (qat l i) (qat l (par i))) : x9 l := m3 h hi
theorem zox (l : List (Int × Int)) (x : Int × Int) : (l ++ [x]).Perm (x :: l) := List.perm_append_singleton x l
/-- The last one comes to the top. -/
theorem zo0 {l : List (Int × Int)} {n : Nat} (hl : l.length = n + 1) : l.Perm (qat l 0 :: (l.set 0 (qat l n)).take n) := by
 obtain ⟨a, t, rfl⟩ : ∃ a t, l = a :: t := by
  cases l with
  | nil => simp at hl
  | cons a t => exact ⟨a, t, rfl⟩
 simp only [List.length_cons, Nat.add_right_cancel_iff] at hl
 have e0 : qat (a :: t) 0 = a := rfl
 rw [e0]
 refine List.Perm.cons a ?_
 cases n with
 | zero =>
  have : t = [] := List.eq_nil_of_length_eq_zero hl
  subst this
  simp
 | succ n =>
  have e1 : qat (a :: t) (n + 1) = t[n]'(by omega) := by
   rw [Kj (by simp; omega)]
   rfl
  rw [e1]
  show t.Perm ((t[n]'(by omega) :: t).take (n + 1))
  rw [List.take_succ_cons]
  have e2 : t = t.take n ++ [t[n]'(by omega)] := by
   have h1 := List.take_append_drop n t
   have h2 : t.drop n = [t[n]'(by omega)] := by
    rw [List.drop_eq_getElem_cons (by omega), List.drop_eq_nil_of_le (by omega)]
   rw [h2] at h1
   exact h1.symm
  exact (List.Perm.of_eq e2).trans (List.perm_append_singleton _ _)
theorem zo2 {l : List (Int × Int)} {n : Nat} (hl : l.length = n + 1) (h : x9 l) : Bz (qat ((l.set 0 (qat l n)).take n)) ((l.set 0 (qat l n)).take n).length 0 := by
 have hlen : ((l.set 0 (qat l n)).take n).length = n := by simp; omega
 rw [hlen]
 have h2 : Fg (qat l) (n + 1) := by rw [<- hl]; exact h
 have key : ∀ j, 0 < j -> j < n -> qat ((l.set 0 (qat l n)).take n) j = qat l j := fun j h0 hj => by
  unfold qat
  simp only [List.getD, List.getElem?_take_of_lt hj]
  rw [List.getElem?_set_ne (by omega)]
 refine ⟨fun j h0 hj hp => ?_, fun j h0 hj hp h1 => by omega⟩
 rw [key j h0 hj, key (par j) (by omega) (by have := vh h0; omega)]
 exact h2 j h0 (by omega)
theorem zo1 {l : List (Int × Int)} (h : x9 l) : ∀ e ∈ l, ¬ qlt e (qat l 0) := fun e he => by
 obtain ⟨j, hj, rfl⟩ := List.getElem_of_mem he
 rw [<- Kj hj]
 exact zsk h j hj
theorem zo3 {l : List (Int × Int)} {i : Nat} (h : Bz (qat l) l.length i) (hc : l.length <= 2 * i + 1) : x9 l :=
 fb h fun j h0 hj hp => by
  rcases (Ht h0).1 hp with e | e <;> omega
/-- The lesser child k. -/
theorem N8 {l : List (Int × Int)} {i k : Nat} (h : Bz (qat l) l.length i) (hk : ∀ j, 0 < j -> j < l.length -> par j = i -> ¬ qlt (qat l j) (qat l k)) (hs : ¬ qlt (qat l k) (qat l i)) : x9 l :=
 fb h fun j h0 hj hp => Kh hs (hk j h0 hj hp)
theorem N9 {l : List (Int × Int)} {i k : Nat} (h : Bz (qat l) l.length i) (hk0 : 0 < k) (hk : k < l.length) (hki : par k = i) (hmin : ∀ j, 0 < j -> j < l.length -> par j = i -> ¬ qlt (qat l j) (qat l k)) (hl : qlt (qat l k) (qat l i)) :
  Bz (qat (xz l i k)) (xz l i k).length k /\ (xz l i k).Perm l := by
 have hp := vh hk0
 rw [Wk (by omega) hk, Fq]
 exact ⟨zu0 h hk0 hk hki hmin hl, Sy (by omega) hk⟩
theorem P9 {f : Nat -> Int × Int} {n i k : Nat} (hk : k = 2 * i + 1 /\ (2 * i + 2 < n -> ¬ qlt (f (2 * i + 2)) (f (2 * i + 1))) \/ k = 2 * i + 2 /\ qlt (f (2 * i + 2)) (f (2 * i + 1))) : ∀ j, 0 < j -> j < n -> par j = i -> ¬ qlt (f j) (f k) := by
 intro j h0 hj hp
 rcases (Ht h0).1 hp with e | e
 ·subst e
  rcases hk with ⟨rfl, _⟩ | ⟨rfl, h2⟩
  ·exact Ob _
  ·exact Ki h2
 ·subst e
  rcases hk with ⟨rfl, h1⟩ | ⟨rfl, h2⟩
  ·exact h1 hj
  ·exact Ob _
def itC (x : Int × Int) : List AV := [int x.1, int x.2]
theorem D2 (x : Int × Int) : (itC x).length = 2 := rfl
structure QAt (F : Store) (p b cap : Nat) (l : List (Int × Int)) (L : List AV) : Prop where
 hp : F.obj p = some (.cells [.s (.slice (some ⟨b, 0, none⟩) l.length cap)])
 hb : F.obj b = some (.cells ((rws itC l).flatten ++ L))
 ne : b ≠ p
 h1 : l.length <= cap
 h2 : cap * 2 <= l.length * 2 + L.length
 h3 : cap <= 9223372036854775807
def QOf (F : Store) (p : Nat) (l : List (Int × Int)) : Prop := (F.obj p = some (.cells [.s (.slice none 0 0)]) /\ l = []) \/ ∃ b cap L, QAt F p b cap l L
theorem QOf.rows {F : Store} {p : Nat} {l : List (Int × Int)} (h : QOf F p l) : ∃ v, F.obj p = some (.cells [v]) /\ RowsO 2 itC F v l /\ ∀ b c0, v = .s (.slice (some ⟨b, 0, none⟩) l.length c0) -> b ≠ p := by
 rcases h with ⟨h, rfl⟩ | ⟨b, cap, L, h⟩
 ·exact ⟨_, h, .inl ⟨rfl, rfl⟩, fun b c0 e => by simp at e⟩
 ·refine ⟨_, h.hp, .inr ⟨b, cap, L, rfl, h.hb, h.h1, h.h2, h.h3⟩, fun b' c0 e => ?_⟩
  simp only [AV.s.injEq, Value.slice.injEq, Option.some.injEq, Addr.mk.injEq] at e
  exact e.1.1 ▸ h.ne
theorem QOf.pos {F : Store} {p : Nat} {l : List (Int × Int)} (h : QOf F p l) (hl : 0 < l.length) : ∃ b cap L, QAt F p b cap l L := by
 rcases h with ⟨h, rfl⟩ | h
 ·exact absurd hl (Nat.lt_irrefl 0)
 ·exact h
/-- One element is written. -/
theorem zrt {l : List (Int × Int)} {i : Nat} (hi : i < l.length) (x : Int × Int) (L : List AV) : z7 ((rws itC l).flatten ++ L) (0 + i * 2) (itC x) = (rws itC (l.set i x)).flatten ++ L := by
 have := Vg (f := itC) (k := 2) D2 hi (j := 0) (x' := x) (ys := itC x) (L := L) (by show 0 + 2 <= 2; omega) (by
  unfold z7
  rw [D2]
  rfl)
 rw [Nat.add_zero] at this
 rw [Nat.zero_add]
 exact this
theorem x6 {l : List (Int × Int)} {L : List AV} {i : Nat} (hi : i < l.length) : List.drop (0 + i * 2) ((rws itC l).flatten ++ L) = itC (qat l i) ++ ((rws itC (l.drop (i + 1))).flatten ++ L) := by
 have h1 : (rws itC (l.take i)).flatten.length = i * 2 := by rw [Dp D2, List.length_take, Nat.min_eq_left (by omega)]
 rw [Nat.zero_add, Kd hi, List.append_assoc, <- h1, List.drop_left, List.append_assoc, Kj hi]
theorem Bn {l : List (Int × Int)} {L : List AV} {i : Nat} (hi : i < l.length) (x : Int × Int) : 0 + i * 2 + (itC x).length <= ((rws itC l).flatten ++ L).length := by
 rw [List.length_append, Dp D2, D2]
 omega
theorem QAt.set {F : Store} {p b cap : Nat} {l : List (Int × Int)} {L : List AV} (h : QAt F p b cap l L) {i : Nat} (hi : i < l.length) (x : Int × Int) : QAt (F.setObj b (.cells (z7 ((rws itC l).flatten ++ L) (0 + i * 2) (itC x)))) p b cap (l.set i x) L := by
 rw [zrt hi]
 exact ⟨by rw [zw (Ne.symm h.ne), List.length_set]; exact h.hp, zd _ _ _, h.ne, by rw [List.length_set]; exact h.h1, by rw [List.length_set]; exact h.h2, h.h3⟩
/-- The last one is cut off. -/
theorem QAt.cut {F : Store} {p b cap : Nat} {l : List (Int × Int)} {L : List AV} (h : QAt F p b cap l L) {n : Nat} (hn : n <= l.length) : QAt (F.setObj p (.cells [.s (.slice (some ⟨b, 0, none⟩) n cap)])) p b cap (l.take n) ((rws itC (l.drop n)).flatten ++ L) := by
 have e : (rws itC (l.take n)).flatten ++ ((rws itC (l.drop n)).flatten ++ L) = (rws itC l).flatten ++ L := by
  rw [<- List.append_assoc, <- Nx, List.take_append_drop]
 have hl : (l.take n).length = n := by rw [List.length_take]; omega
 refine ⟨by rw [zd, hl], by rw [zw h.ne, e]; exact h.hb, h.ne, by rw [hl]; have := h.h1; omega, ?_, h.h3⟩
 have := h.h2
 rw [hl, List.length_append, Dp D2, List.length_drop]
 omega
def xr (v : Int) (k : Nat) (t : Nat) : Int := if t < k then v else 0
theorem zol {n k m : Nat} {v : Int} (hk : m <= k) (hn : k + m <= n) : z7 (il n (xr v k)) (0 + k * 1) ((List.drop (0 + 0 * 1) (il n (xr v k))).take (m * 1)) = il n (xr v (k + m)) := by
 have e : (List.drop (0 + 0 * 1) (il n (xr v k))).take (m * 1) = List.replicate m (int v) := by
  rw [show 0 + 0 * 1 = 0 from rfl, List.drop_zero, Nat.mul_one]
  apply List.ext_getElem
  ·rw [List.length_take, y9, List.length_replicate]; omega
  ·intro i h1 h2
   rw [List.length_replicate] at h2
   rw [List.getElem_take, List.getElem_replicate]
   simp only [il, List.getElem_map, List.getElem_range]
   rw [xr, if_pos (by omega)]
 rw [e]
 unfold z7
 rw [List.length_replicate, show 0 + k * 1 = k by omega]
 apply List.ext_getElem?
 intro i
 by_cases h1 : i < k
 ·rw [List.append_assoc, List.getElem?_append_left (by rw [List.length_take, y9]; omega), List.getElem?_take_of_lt h1, w7 (by omega), w7 (by omega), xr, xr, if_pos h1, if_pos (by omega)]
 ·by_cases h2 : i < k + m
  ·rw [List.append_assoc, List.getElem?_append_right (by rw [List.length_take, y9]; omega), List.length_take, y9, List.getElem?_append_left (by rw [List.length_replicate]; omega), List.getElem?_replicate, if_pos (by omega), w7 (by omega), xr, if_pos h2]
  ·rw [List.getElem?_append_right (by rw [List.length_append, List.length_take, y9, List.length_replicate]; omega), List.length_append, List.length_take, y9, List.length_replicate, List.getElem?_drop, show k + m + (i - (min k n + m)) = i by omega]
   by_cases h3 : i < n
   ·rw [w7 h3, w7 h3, xr, xr, if_neg h1, if_neg h2]
   ·rw [List.getElem?_eq_none (by rw [y9]; omega), List.getElem?_eq_none (by rw [y9]; omega)]
theorem dd (n : Nat) (v : Int) : il n (xr v n) = il n fun _ => v := D5 fun t ht => if_pos ht
/-- A tile's neighbours, in an array. -/
def Gz (g : Gnd) (t : Nat) : AV := .agg (il 8 (zo g t))
def Ag (g : Gnd) (t i : Nat) (j : Nat) : Int := if j < i then zo g t j else 0
theorem zwz (g : Gnd) (t : Nat) : il 8 (Ag g t 8) = il 8 (zo g t) := D5 fun j hj => if_pos hj
theorem zw0 (g : Gnd) (t : Nat) {i : Nat} (hi : i < 8) : zo g t i = qc g ((t : Int) % g.W) ((t : Int) / g.W) (dirL.getD i (0, 0)) := by
 unfold zo qo
 rw [List.getD_eq_getElem?_getD, List.getElem?_map, List.getD_eq_getElem?_getD, List.getElem?_eq_getElem (show i < dirL.length from hi)]
 rfl
theorem zwy (g : Gnd) (t : Nat) {i : Nat} (v : Int) (hv : v = zo g t i) : setI (Ag g t i) i v = Ag g t (i + 1) := funext fun j => by
 unfold setI Ag
 by_cases h : j = i
 ·subst h
  rw [if_pos rfl, if_pos (by omega), hv]
 ·rw [if_neg h]
  by_cases h2 : j < i
  ·rw [if_pos h2, if_pos (by omega)]
  ·rw [if_neg h2, if_neg (by omega)]
def dirC : List AV := (dirL.map Di).flatten
theorem zvc {i : Nat} (hi : i < 8) : dirC.drop (i * 2) = Di (dirL.getD i (0, 0)) ++ dirC.drop (i * 2 + 2) := by
 have h : i = 0 \/ i = 1 \/ i = 2 \/ i = 3 \/ i = 4 \/ i = 5 \/ i = 6 \/ i = 7 := by omega
 rcases h with rfl | rfl | rfl | rfl | rfl | rfl | rfl | rfl <;> rfl
theorem zvb {i : Nat} (hi : i < 8) : (-1 <= (dirL.getD i (0, 0)).1 /\ (dirL.getD i (0, 0)).1 <= 1) /\ -1 <= (dirL.getD i (0, 0)).2 /\ (dirL.getD i (0, 0)).2 <= 1 := by
 have h : i = 0 \/ i = 1 \/ i = 2 \/ i = 3 \/ i = 4 \/ i = 5 \/ i = 6 \/ i = 7 := by omega
 rcases h with rfl | rfl | rfl | rfl | rfl | rfl | rfl | rfl <;> decide
def ku (g : Gnd) (ok : Nat -> Bool) (c : Int) (t i : Nat) : Nat -> Nat -> Int -> Prop := fun a u k => a = t /\ ∃ w, i <= w /\ w < 8 /\ zo g t w = (u : Int) /\ k = yb g ok c t w
theorem Pw {E : Nat -> Nat -> Int -> Prop} {n goal : Nat} {d : Nat -> Int} {dn : Nat -> Bool} {q q' : List (Int × Int)} {cur : Int} {O : Nat -> Nat -> Int -> Prop} (h : DJ E n goal d dn q cur O) (hp : q.Perm q') : DJ E n goal d dn q' cur O :=
 ⟨h.lab, h.gl, h.pre, h.rel, h.mono, fun e he => h.ent e (hp.mem_iff.2 he), fun u hu hn => hp.mem_iff.1 (h.wait u hu hn)⟩
section
variable {g : Gnd} {ok : Nat -> Bool} {c : Int} {n goal : Nat} {d : Nat -> Int} {dn : Nat -> Bool} {q : List (Int × Int)} {cur : Int}
theorem l6 {t : Nat} (h : DJ (y4 g ok c) n goal d dn q cur (fun a _ _ => a = t)) : DJ (y4 g ok c) n goal d dn q cur (ku g ok c t 0) :=
 Px h fun a u k ha hn hE => by
  obtain ⟨_, _, w, hw, h1, _, h2, _⟩ := hE
  subst ha
  exact absurd ⟨rfl, w, Nat.zero_le _, hw, h1, h2⟩ hn
theorem l7 {t : Nat} (h : DJ (y4 g ok c) n goal d dn q cur (ku g ok c t 8)) : DJ (y4 g ok c) n goal d dn q cur vz :=
 Px h fun a u k ha hn hE => by
  obtain ⟨_, w, h1, h2, _⟩ := ha
  omega
theorem Mp {t i : Nat} (h : DJ (y4 g ok c) n goal d dn q cur (ku g ok c t i)) (hp : ∀ u : Nat, zo g t i = u -> 0 < yb g ok c t i -> 0 <= d u /\ d u <= d t + yb g ok c t i) : DJ (y4 g ok c) n goal d dn q cur (ku g ok c t (i + 1)) :=
 Px h fun a u k ha hn hE => by
  obtain ⟨rfl, w, h1, h2, h3, rfl⟩ := ha
  by_cases hw : w = i
  ·subst hw
   exact hp u h3 (Bw _ _ _ hE)
  ·exact absurd ⟨rfl, w, by omega, h2, h3, rfl⟩ hn
theorem zu3 {O : Nat -> Nat -> Int -> Prop} (h : DJ (y4 g ok c) n goal d dn q cur O) (hgoal : ok goal = true) {u : Nat} (hu : 0 <= d u) : ok u = true := by
 by_cases e : u = goal
 ·rw [e]; exact hgoal
 ·obtain ⟨t, k, _, _, hE, _⟩ := h.pre u e hu
  obtain ⟨_, _, _, _, _, h1, _⟩ := hE
  exact h1
end
/-- What is popped: nothing, or the least. -/
def O7 : Option (Int × Int) -> Int
 | none => 0
 | some x => x.1
def Ix : Option (Int × Int) -> Int
 | none => 0
 | some x => x.2
/-- Costs and marks in memory. -/
def y5 (S : Store) (b b2 n : Nat) (d : Nat -> Int) (dn : Nat -> Bool) : Store := (S.setObj b (.cells (il n d))).setObj b2 (.cells (bl n dn))
section
variable {S : Store} {b b2 n : Nat}
theorem dz (hb : b ≠ b2) (d : Nat -> Int) (dn : Nat -> Bool) : (y5 S b b2 n d dn).obj b = some (.cells (il n d)) := by
 unfold y5
 rw [zw hb, zd]
theorem zt5 (d : Nat -> Int) (dn : Nat -> Bool) : (y5 S b b2 n d dn).obj b2 = some (.cells (bl n dn)) := zd _ _ _
theorem zt4 {i : Nat} {x : AObj} (hf : Fresh S b) (hf2 : Fresh (S.setObj b x) b2) {y : AObj} (h : S.obj i = some y) (d : Nat -> Int) (dn : Nat -> Bool) : (y5 S b b2 n d dn).obj i = some y := by
 have h1 : i ≠ b := fun e => by rw [e, hf.1] at h; cases h
 have h2 : i ≠ b2 := fun e => by
  have := hf2.1
  rw [<- e, zw h1, h] at this; cases this
 unfold y5
 rw [zw h2, zw h1]
 exact h
theorem dw (hb : b ≠ b2) (d d' : Nat -> Int) (dn : Nat -> Bool) : (y5 S b b2 n d dn).setObj b (.cells (il n d')) = y5 S b b2 n d' dn := by
 unfold y5
 rw [Fx hb, yx]
theorem zt3 (d : Nat -> Int) (dn dn' : Nat -> Bool) : (y5 S b b2 n d dn).setObj b2 (.cells (bl n dn')) = y5 S b b2 n d dn' := yx _ _ _ _
theorem fld_has {d : Nat -> Int} {dn : Nat -> Bool} {i : Nat} : (y5 S b b2 n d dn).has i ↔ i = b2 \/ i = b \/ S.has i := by
 unfold y5
 rw [has_setObj_iff, has_setObj_iff]
theorem zt6 {F : Store} {d d' : Nat -> Int} {dn dn' : Nat -> Bool} (h : zv F (y5 S b b2 n d dn)) : zv F (y5 S b b2 n d' dn') := fun i h1 h2 => h i h1 (fld_has.2 (fld_has.1 h2))
theorem zt7 (hf : Fresh S b) {x : AObj} (hf2 : Fresh (S.setObj b x) b2) {F : Store} (hb : b ≠ b2) {d : Nat -> Int} {dn : Nat -> Bool} : (F.un (y5 S b b2 n d dn)).Has (S.setObj b (.cells (il n d))) := by
 have hn : (S.setObj b (.cells (il n d))).obj b2 = none := by
  have := hf2.1
  rw [zw (Ne.symm hb)] at this ⊢
  exact this
 exact ⟨fun i y hi => ze ((Ay hn).obj i y hi), fun i y hi => Cf hi⟩
end
theorem D4 (n : Nat) (d : Nat -> Int) (u : Nat) (v : Int) (hu : u < n) : z7 (il n d) (0 + u * 1) [int v] = il n (zt d u v) := by
 rw [show 0 + u * 1 = u by omega, Bp hu]
 rfl
theorem Rg (n : Nat) (d : Nat -> Bool) (u : Nat) (v : Bool) (hu : u < n) : z7 (bl n d) (0 + u * 1) [bool v] = bl n (zt d u v) := by
 rw [show 0 + u * 1 = u by omega]
 have := Af (f := d) hu (zt d u v) (fun s hs => qn hs)
 rw [xj] at this
 exact this
theorem Pd {n : Nat} {f : Nat -> Int} {t : Nat} (h : t < n) : ((il n f).drop (t * 1)).head? = some (int (f t)) := by
 have := jh (f := f) h
 rwa [Nat.zero_add] at this
theorem zp6 (n : Nat) (dn : Nat -> Bool) : wv n dn <= n := by
 have := I6 (f := fun t => if dn t = true then 0 else 1) (g := fun _ => 1) n (fun t _ => by split <;> omega)
 rw [I7] at this
 unfold wv
 omega
def Bs (g : Gnd) (ok : Nat -> Bool) (c : Int) (d : Nat -> Int) (t w : Nat) : Prop := 0 < yb g ok c t w /\ 0 <= d (zo g t w).toNat /\ yb g ok c t w + d (zo g t w).toNat = d t
theorem zui {p : Nat -> Bool} {n j : Nat} (hj : j < n) (hp : p j = true) (hn : ∀ w, w < j -> p w = false) : (List.range n).find? p = some j := by
 rw [List.find?_range_eq_some]
 exact ⟨hp, List.mem_range.2 hj, fun w hw => by rw [hn w hw]; rfl⟩
theorem zuh {p : Nat -> Bool} {n : Nat} (hn : ∀ w, w < n -> p w = false) : (List.range n).find? p = none := by
 rw [List.find?_eq_none]
 intro w hw
 rw [hn w (List.mem_range.1 hw)]
 decide
section
variable {g : Gnd} {ok : Nat -> Bool} {c : Int} {d : Nat -> Int} {t : Nat}
theorem mc (h : d t <= 0) : qb g ok c d t = -1 := by
 unfold qb
 rw [if_pos h]
theorem l8 (h : ¬ d t <= 0) {j : Nat} (hj : j < 8) (hp : Bs g ok c d t j) (hn : ∀ w, w < j -> ¬ Bs g ok c d t w) : qb g ok c d t = (j : Int) := by
 unfold qb
 rw [if_neg h, zui hj (by exact decide_eq_true hp) (fun w hw => by exact decide_eq_false (hn w hw))]
theorem l9 (h : ¬ d t <= 0) (hn : ∀ w, w < 8 -> ¬ Bs g ok c d t w) : qb g ok c d t = -1 := by
 unfold qb
 rw [if_neg h, zuh (fun w hw => by exact decide_eq_false (hn w hw))]
end
theorem mf (g : Gnd) (ok : Nat -> Bool) (c : Int) (d : Nat -> Int) (t : Nat) : qb g ok c d t = -1 \/ ∃ j : Nat, j < 8 /\ qb g ok c d t = (j : Int) /\ Bs g ok c d t j := by
 unfold qb
 split
 ·exact .inl rfl
 ·cases h : (List.range 8).find? fun way => decide (0 < yb g ok c t way /\ 0 <= d (zo g t way).toNat /\ yb g ok c t way + d (zo g t way).toNat = d t) with
  | none => exact .inl rfl
  | some j =>
   have h1 := List.mem_of_find?_eq_some h
   have h2 := List.find?_some h
   exact .inr ⟨j, List.mem_range.1 h1, rfl, by simp only [decide_eq_true_eq] at h2; exact h2⟩
/-- The ways of the first tiles. -/
noncomputable def j7 (g : Gnd) (ok : Nat -> Bool) (c : Int) (d : Nat -> Int) (i t : Nat) : Int := if t < i then qb g ok c d t else -1
theorem Ry {g : Gnd} {ok : Nat -> Bool} {c : Int} {d : Nat -> Int} {i : Nat} : j7 g ok c d (i + 1) = zt (j7 g ok c d i) i (qb g ok c d i) := funext fun t => by
 unfold j7 zt
 dsimp only
 by_cases h : t = i
 ·subst h; rw [if_pos (by omega), if_pos rfl]
 ·rw [if_neg h]
  by_cases h2 : t < i
  ·rw [if_pos h2, if_pos (by omega)]
  ·rw [if_neg h2, if_neg (by omega)]
theorem Rx {g : Gnd} {ok : Nat -> Bool} {c : Int} {d : Nat -> Int} {i : Nat} (h : qb g ok c d i = -1) : j7 g ok c d (i + 1) = j7 g ok c d i := by
 rw [Ry, h]
 funext t
 unfold zt j7
 by_cases h : t = i
 ·subst h; rw [if_pos rfl, if_neg (by omega)]
 ·rw [if_neg h]
theorem lz (g : Gnd) (ok : Nat -> Bool) (c : Int) (d : Nat -> Int) : j7 g ok c d 0 = fun _ => -1 := funext fun t => if_neg (Nat.not_lt_zero t)
theorem l3 (g : Gnd) (ok : Nat -> Bool) (c : Int) (d : Nat -> Int) (n : Nat) : il n (j7 g ok c d n) = il n (qb g ok c d) := D5 fun t ht => if_pos ht
/-- Two lists of numbers in memory. -/
def xy (S : Store) (b b2 n : Nat) (d f : Nat -> Int) : Store := (S.setObj b (.cells (il n d))).setObj b2 (.cells (il n f))
section
variable {S : Store} {b b2 n : Nat}
theorem nu (hb : b ≠ b2) (d f : Nat -> Int) : (xy S b b2 n d f).obj b = some (.cells (il n d)) := by
 unfold xy
 rw [zw hb, zd]
theorem nt (d f : Nat -> Int) : (xy S b b2 n d f).obj b2 = some (.cells (il n f)) := zd _ _ _
theorem nn {i : Nat} {x : AObj} (hf : Fresh S b) (hf2 : Fresh (S.setObj b x) b2) {y : AObj} (h : S.obj i = some y) (d f : Nat -> Int) : (xy S b b2 n d f).obj i = some y := by
 have h1 : i ≠ b := fun e => by rw [e, hf.1] at h; cases h
 have h2 : i ≠ b2 := fun e => by
  have := hf2.1
  rw [<- e, zw h1, h] at this; cases this
 unfold xy
 rw [zw h2, zw h1]
 exact h
theorem nl (d f f' : Nat -> Int) : (xy S b b2 n d f).setObj b2 (.cells (il n f')) = xy S b b2 n d f' := yx _ _ _ _
theorem nr {x : AObj} (hb : b ≠ b2) (hf2 : Fresh (S.setObj b x) b2) : Fresh S b2 := by
 have := hf2
 unfold Fresh at this ⊢
 rw [zw (Ne.symm hb)] at this
 exact this
theorem nw (hf : Fresh S b) (hb : b ≠ b2) (d f : Nat -> Int) : (xy S b b2 n d f).Has (S.setObj b2 (.cells (il n f))) := by
 unfold xy
 rw [Fx (Ne.symm hb)]
 refine Ay ?_
 rw [zw hb]
 exact hf.1
end
theorem zqr (g : Gnd) (t : Nat) : qo g t = (List.range 8).map (zo g t) := by
 apply List.ext_getElem
 ·rw [Ga, List.length_map, List.length_range]
 ·intro i h1 h2
  rw [Ga] at h1
  simp only [List.getElem_map, List.getElem_range]
  unfold zo
  rw [List.getD_eq_getElem?_getD, List.getElem?_eq_getElem (by rw [Ga]; exact h1)]
  rfl
theorem zqt (g : Gnd) (t : Nat) (x : Int) : (qo g t).contains x = (List.range 8).any fun j => zo g t j == x := by
 rw [zqr, List.contains_eq_any_beq, List.any_map]
 congr 1
 funext j
 show (x == zo g t j) = _
 rw [Bool.eq_iff_iff, beq_iff_eq, beq_iff_eq]
 exact eq_comm
theorem zxp {p : Nat -> Bool} {n k : Nat} (hk : k < n) (hp : p k = true) : (List.range n).any p = true := List.any_eq_true.2 ⟨k, List.mem_range.2 hk, hp⟩
theorem zxo {p : Nat -> Bool} {n : Nat} (hp : ∀ k, k < n -> p k = false) : (List.range n).any p = false := by
 rw [List.any_eq_false]
 intro k hk
 rw [hp k (List.mem_range.1 hk)]
 decide
theorem Kv (k : Int) : (0 <= zx k /\ zx k <= 1) /\ zk k <= zx k * 65536 + 32768 /\ 0 < zk k /\ (zx k = 0 -> zk k <= 32768) /\ (zx k = 1 -> zk k = 81920) := by
 unfold zx zk
 by_cases h : k = 2
 ·subst h; decide
 ·rw [if_neg h]
  split
  ·decide
  ·decide
theorem W4 (x lo : Int) : 0 <= off x lo := by unfold off; split <;> (try split) <;> omega
theorem W5 {p lo r : Int} (hr : 0 < r) (h : r <= lo - p \/ r <= p - (lo + 65536)) : r * r <= off p lo * off p lo := by
 refine jd (by omega) ?_
 unfold off
 split <;> (try split) <;> omega
/-- Between good tiles' centres. -/
theorem zwm {g : Gnd} (hg : zi g) {l : List Bld} {k X0 X1 Y0 Y1 : Int} {p : Vc} (hX : X0 <= X1 /\ X1 <= X0 + 1) (hY : Y0 <= Y1 /\ Y1 <= Y0 + 1)
  (h : ∀ x y, (x = X0 \/ x = X1) -> (y = Y0 \/ y = Y1) -> sqP g (z6 g l (zm k)) (zx k).toNat x y)
  (hp1 : X0 * 65536 + 32768 <= p.1 /\ p.1 <= X1 * 65536 + 32768) (hp2 : Y0 * 65536 + 32768 <= p.2 /\ p.2 <= Y1 * 65536 + 32768) : qw g l (zm k) p (zk k) := by
 obtain ⟨⟨s0, s1⟩, hr, hr0, _, _⟩ := Kv k
 have hs : ((zx k).toNat : Int) = zx k := by omega
 generalize zk k = r at *
 have q00 := (h X0 Y0 (.inl rfl) (.inl rfl) (-(zx k)) (-(zx k)) (by omega) (by omega) (by omega) (by omega)).1
 have q11 := (h X1 Y1 (.inr rfl) (.inr rfl) (zx k) (zx k) (by omega) (by omega) (by omega) (by omega)).1
 unfold onG at q00 q11
 refine ⟨by omega, fun t ht ho hh => ?_⟩
 obtain ⟨ot, et⟩ := vy hg ht
 unfold xb tx ty at hh
 have n1 := W4 p.1 ((t : Int) % g.W * 65536)
 have n2 := W4 p.2 ((t : Int) / g.W * 65536)
 have m1 := Int.mul_nonneg n1 n1
 have m2 := Int.mul_nonneg n2 n2
 have f1 := W5 (p := p.1) (lo := (t : Int) % g.W * 65536) hr0
 have f2 := W5 (p := p.2) (lo := (t : Int) / g.W * 65536) hr0
 generalize (t : Int) % g.W = x at *
 generalize (t : Int) / g.W = y at *
 by_cases hin : (X0 - zx k <= x /\ x <= X1 + zx k) /\ (Y0 - zx k <= y /\ y <= Y1 + zx k)
 ·have ex : ∃ XX, (XX = X0 \/ XX = X1) /\ -zx k <= x - XX /\ x - XX <= zx k := by
   by_cases hx : x <= X0 + zx k
   ·exact ⟨X0, .inl rfl, by omega, by omega⟩
   ·exact ⟨X1, .inr rfl, by omega, by omega⟩
  have ey : ∃ YY, (YY = Y0 \/ YY = Y1) /\ -zx k <= y - YY /\ y - YY <= zx k := by
   by_cases hy : y <= Y0 + zx k
   ·exact ⟨Y0, .inl rfl, by omega, by omega⟩
   ·exact ⟨Y1, .inr rfl, by omega, by omega⟩
  obtain ⟨XX, e1, e2, e3⟩ := ex
  obtain ⟨YY, e4, e5, e6⟩ := ey
  have := (h XX YY e1 e4 (x - XX) (y - YY) (by omega) (by omega) (by omega) (by omega)).2
  rw [show XX + (x - XX) = x by omega, show YY + (y - YY) = y by omega, et, ho] at this
  cases this
 ·by_cases c1 : x < X0 - zx k \/ X1 + zx k < x
  ·have := f1 (by omega)
   omega
  ·have := f2 (by omega)
   omega
/-- Nearer to 0. -/
def shr (d d' : Int) : Prop := (0 <= d' /\ d' <= d) \/ (d <= d' /\ d' <= 0)
/-- A straight step toward (0, 0). -/
def Stp (a b a' b' : Int) : Prop := shr a a' /\ shr b b' /\ (a.natAbs <= b.natAbs -> a'.natAbs <= b'.natAbs /\ a.natAbs + b'.natAbs <= b.natAbs + a'.natAbs) /\ (b.natAbs <= a.natAbs -> b'.natAbs <= a'.natAbs /\ b.natAbs + a'.natAbs <= a.natAbs + b'.natAbs)
theorem Stp.swap {a b a' b' : Int} (h : Stp a b a' b') : Stp b a b' a' := ⟨h.2.1, h.1, h.2.2.2, h.2.2.1⟩
/-- How far a tile is that lies e farther. -/
def uO (e d : Int) : Int := if e = 0 then 0 else if 0 < e then e * 65536 - 32768 - d else -e * 65536 - 32768 + d
theorem Ko {p X x : Int} (hp : -32768 <= p - (X * 65536 + 32768) /\ p - (X * 65536 + 32768) <= 32768) : off p (x * 65536) = uO (x - X) (p - (X * 65536 + 32768)) := by
 unfold off uO
 repeat' split
 all_goals omega
theorem ic {a b r : Int} (ha : 65536 <= a) (hb : 65536 <= b) (hr : 0 <= r) (hr2 : r <= 81920) : r * r <= a * a + b * b := by
 have h1 := jd (a := 65536) (by decide) ha
 have h2 := jd (a := 65536) (by decide) hb
 have h3 := jd hr hr2
 omega
theorem zrp {a b : Int} (hb : 0 <= b) (h : a * a <= b * b) : a <= b := by
 refine Int.not_lt.1 fun hlt => ?_
 have := Nl hb hlt
 omega
/-- One beside the own tile's, two farther the other way. -/
theorem mixed {A A' B B' : Int} (hA : 65536 <= A) (hAA : A <= A') (hB : 0 <= B') (hBB : B' <= B) (hB2 : B <= 65536) (h : B - B' <= A' - A) : A * A + B * B <= A' * A' + B' * B' := by
 have e1 : A' * A' = A * A + (A' - A) * (A + A') := by grind
 have e2 : B * B = B' * B' + (B - B') * (B + B') := by grind
 have h1 : (B - B') * (B + B') <= (A' - A) * (A + A') := Int.mul_le_mul h (by omega) (by omega) (by omega)
 omega
theorem My {e a a' : Int} (he : e ≠ 0) (h : shr a a') : ∃ A A' : Int, uO e a = (e.natAbs : Int) * 65536 - 32768 - A /\ uO e a' = (e.natAbs : Int) * 65536 - 32768 - A' /\ ((0 <= A' /\ A' <= A) \/ (A <= A' /\ A' <= 0)) /\ A.natAbs = a.natAbs /\ A'.natAbs = a'.natAbs := by
 unfold uO
 unfold shr at h
 rw [if_neg he, if_neg he]
 by_cases h0 : 0 < e
 ·rw [if_pos h0, if_pos h0]
  exact ⟨a, a', by omega, by omega, h, rfl, rfl⟩
 ·rw [if_neg h0, if_neg h0]
  exact ⟨-a, -a', by omega, by omega, by omega, by omega, by omega⟩
theorem Si (d : Int) : uO 0 d = 0 := rfl
/-- One tile beside (n), the other way m farther. -/
theorem zps {A A' B B' n m r : Int} (hA : (0 <= A' /\ A' <= A) \/ (A <= A' /\ A' <= 0)) (hB : (0 <= B' /\ B' <= B) \/ (B <= B' /\ B' <= 0)) (ha : -32768 <= A /\ A <= 32768) (hb : -32768 <= B /\ B <= 32768)
  (s1 : A.natAbs <= B.natAbs -> A'.natAbs <= B'.natAbs) (s2 : B.natAbs <= A.natAbs -> B.natAbs + A'.natAbs <= A.natAbs + B'.natAbs) (hn : 1 <= n) (hm : 1 <= m) (hr : 0 < r) (hc : r <= 32768 \/ (r = 81920 /\ 2 <= n))
  (h : r * r <= (n * 65536 - 32768 - A) * (n * 65536 - 32768 - A) + (m * 65536 - 32768 - B) * (m * 65536 - 32768 - B)) :
  r * r <= (n * 65536 - 32768 - A') * (n * 65536 - 32768 - A') + (m * 65536 - 32768 - B') * (m * 65536 - 32768 - B') := by
 have m1 : 0 <= n * 65536 - 32768 - A' := by omega
 have m2 : 0 <= m * 65536 - 32768 - B' := by omega
 have q1 := Int.mul_nonneg m1 m1
 have q2 := Int.mul_nonneg m2 m2
 by_cases d1 : r <= n * 65536 - 32768 - A'
 ·have := jd (by omega) d1; omega
 by_cases d2 : r <= m * 65536 - 32768 - B'
 ·have := jd (by omega) d2; omega
 have k1 : A' <= A := by omega
 have w1 := jd (a := n * 65536 - 32768 - A) (b := n * 65536 - 32768 - A') (by omega) (by omega)
 by_cases k2 : B' <= B
 ·have w2 := jd (a := m * 65536 - 32768 - B) (b := m * 65536 - 32768 - B') (by omega) (by omega)
  omega
 rcases hc with hc | ⟨rfl, hn2⟩
 ·omega
 have hn3 : n = 2 := by omega
 subst hn3
 by_cases hm2 : 2 <= m
 ·exact ic (by omega) (by omega) (by decide) (by decide)
 have hm3 : m = 1 := by omega
 subst hm3
 by_cases hcmp : B.natAbs <= A.natAbs
 ·have h5 := s2 hcmp
  have := mixed (A := 2 * 65536 - 32768 - A) (A' := 2 * 65536 - 32768 - A') (B := 1 * 65536 - 32768 - B) (B' := 1 * 65536 - 32768 - B') (by omega) (by omega) m2 (by omega) (by omega) (by omega)
  omega
 ·have h5 := s1 (by omega)
  have p1 : 131072 <= (2 * 65536 - 32768 - A') + (1 * 65536 - 32768 - B') := by omega
  have p2 : 65536 <= 2 * 65536 - 32768 - A' := by omega
  generalize 2 * 65536 - 32768 - A' = X at *
  generalize 1 * 65536 - 32768 - B' = Y at *
  by_cases hY : 65536 <= Y
  ·exact ic p2 hY (by decide) (by decide)
  ·have z1 := jd (a := 131072 - Y) (by omega) (show 131072 - Y <= X by omega)
   have z2 : (131072 - Y) * (131072 - Y) + Y * Y = 2 * (65536 * 65536) + 2 * ((65536 - Y) * (65536 - Y)) := by grind
   have z3 := Int.mul_nonneg (show 0 <= 65536 - Y by omega) (show 0 <= 65536 - Y by omega)
   omega
theorem nab {a A : Int} (h : A.natAbs = a.natAbs) (ha : -32768 <= a /\ a <= 32768) : -32768 <= A /\ A <= 32768 := by omega
theorem bo {e : Int} (h : e ≠ 0) : 1 <= (e.natAbs : Int) := by omega
theorem zqu {e : Int} (h : 2 <= e \/ e <= -2) : 2 <= (e.natAbs : Int) := by omega
theorem Wu {e a a' r : Int} (hr : 0 < r) (he : e ≠ 0) (hs : shr a a') (ha : -32768 <= a /\ a <= 32768) (hc : r <= 32768 \/ (r = 81920 /\ 2 <= e.natAbs)) (h : r * r <= uO e a * uO e a) : r * r <= uO e a' * uO e a' := by
 obtain ⟨A, A', e1, e2, e3, e4, e5⟩ := My he hs
 rw [e1] at h
 rw [e2]
 have hn : 1 <= e.natAbs := by omega
 have := zrp (by omega) h
 exact jd (by omega) (by omega)
theorem Oi {a b a' b' e f r : Int} (hs : Stp a b a' b') (ha : -32768 <= a /\ a <= 32768) (hb : -32768 <= b /\ b <= 32768) (hr : 0 < r) (hef : (r <= 32768 /\ ¬ (e = 0 /\ f = 0)) \/ (r = 81920 /\ (2 <= e \/ e <= -2)))
  (h : r * r <= uO e a * uO e a + uO f b * uO f b) : r * r <= uO e a' * uO e a' + uO f b' * uO f b' := by
 obtain ⟨h1, h2, h3, h4⟩ := hs
 by_cases e0 : e = 0
 ·subst e0
  clear h3 h4
  rw [Si] at h ⊢
  have hr3 : r <= 32768 := by omega
  have := Wu hr (show f ≠ 0 from fun q => by omega) h2 hb (.inl hr3) (by omega)
  omega
 by_cases f0 : f = 0
 ·subst f0
  clear h3 h4
  rw [Si] at h ⊢
  have hr3 : r <= 32768 \/ (r = 81920 /\ 2 <= e.natAbs) := by omega
  have := Wu hr e0 h1 ha hr3 (by omega)
  omega
 obtain ⟨A, A', a1, a2, a3, a4, a5⟩ := My e0 h1
 obtain ⟨B, B', b1, b2, b3, b4, b5⟩ := My f0 h2
 rw [a1, b1] at h
 rw [a2, b2]
 rw [<- a4, <- a5, <- b4, <- b5] at h3 h4
 exact zps a3 b3 (nab a4 ha) (nab b4 hb) (fun q => (h3 q).1) (fun q => (h4 q).2) (bo e0) (bo f0) hr (hef.imp (fun q => q.1) fun q => ⟨q.1, zqu q.2⟩) h
/-- A step toward its own tile's centre, which is good. -/
theorem Ww {g : Gnd} (hg : zi g) {l : List Bld} {k X Y : Int} {p q : Vc} (hq : sqP g (z6 g l (zm k)) (zx k).toNat X Y) (hf : qw g l (zm k) p (zk k))
  (hp1 : -32768 <= p.1 - (X * 65536 + 32768) /\ p.1 - (X * 65536 + 32768) <= 32768) (hp2 : -32768 <= p.2 - (Y * 65536 + 32768) /\ p.2 - (Y * 65536 + 32768) <= 32768)
  (hs : Stp (p.1 - (X * 65536 + 32768)) (p.2 - (Y * 65536 + 32768)) (q.1 - (X * 65536 + 32768)) (q.2 - (Y * 65536 + 32768))) : qw g l (zm k) q (zk k) := by
 obtain ⟨⟨s0, s1⟩, hr, hr0, hr1, hr2⟩ := Kv k
 have hss : ((zx k).toNat : Int) = zx k := by omega
 obtain ⟨hb, hf⟩ := hf
 have q00 := (hq (-(zx k)) (-(zx k)) (by omega) (by omega) (by omega) (by omega)).1
 have q11 := (hq (zx k) (zx k) (by omega) (by omega) (by omega) (by omega)).1
 unfold onG at q00 q11
 have h1 := hs.1
 have h2 := hs.2.1
 unfold shr at h1 h2
 refine ⟨by omega, fun t ht ho hh => hf t ht ho ?_⟩
 obtain ⟨ot, et⟩ := vy hg ht
 unfold xb tx ty at hh ⊢
 refine Int.not_le.1 fun hge => ?_
 rw [Ko (X := X) (by omega), Ko (X := Y) (by omega)] at hh hge
 have hn : ¬ ((-zx k <= (t : Int) % g.W - X /\ (t : Int) % g.W - X <= zx k) /\ (-zx k <= (t : Int) / g.W - Y /\ (t : Int) / g.W - Y <= zx k)) := fun hin => by
  have := (hq ((t : Int) % g.W - X) ((t : Int) / g.W - Y) (by omega) (by omega) (by omega) (by omega)).2
  rw [show X + ((t : Int) % g.W - X) = (t : Int) % g.W by omega, show Y + ((t : Int) / g.W - Y) = (t : Int) / g.W by omega, et, ho] at this
  cases this
 generalize (t : Int) % g.W - X = e at *
 generalize (t : Int) / g.W - Y = f at *
 by_cases h01 : zx k = 0
 ·have := Oi (e := e) (f := f) hs hp1 hp2 hr0 (.inl ⟨hr1 h01, by omega⟩) hge
  omega
 ·have h02 : zx k = 1 := by omega
  by_cases he : 2 <= e \/ e <= -2
  ·have := Oi (e := e) (f := f) hs hp1 hp2 hr0 (.inr ⟨hr2 h02, he⟩) hge
   omega
  ·have := Oi (e := f) (f := e) hs.swap hp2 hp1 hr0 (.inr ⟨hr2 h02, by omega⟩) (by omega)
   omega
theorem P3 {x m L : Int} (hm : 0 < m) (hL : m < L) : (0 <= x -> 0 <= xh x m L /\ xh x m L <= x) /\ (x <= 0 -> x <= xh x m L /\ xh x m L <= 0) /\ ((xh x m L).natAbs : Int) = (x.natAbs : Int) * m / L := by
 have h1 := Ib (c := x) (by omega) hL
 refine ⟨fun h => ?_, fun h => ?_, Lq (by omega) (by omega)⟩
 ·have : 0 <= xh x m L := by
   unfold xh
   rw [if_neg (by omega)]
   exact Int.ediv_nonneg (Int.mul_nonneg h (by omega)) (by omega)
  omega
 ·have : xh x m L <= 0 := by
   unfold xh
   split
   ·have := Int.ediv_nonneg (Int.mul_nonneg (show 0 <= -x by omega) (show 0 <= m by omega)) (show 0 <= L by omega)
    omega
   ·have : x = 0 := by omega
    subst this
    simp
  omega
theorem fg {n k m L : Int} (h0 : 0 <= n) (h : n <= k) (hm : 0 < m) (hL : m < L) : n * m / L <= k * m / L /\ k * m / L - n * m / L <= k - n := by
 refine ⟨Int.ediv_le_ediv (by omega) (Int.mul_le_mul_of_nonneg_right h (by omega)), ?_⟩
 have h1 : k * m <= n * m + (k - n) * L := by
  have e : k * m = n * m + (k - n) * m := by grind
  have := Int.mul_le_mul_of_nonneg_left (show m <= L by omega) (show 0 <= k - n by omega)
  omega
 have h2 := Int.ediv_le_ediv (show 0 < L by omega) h1
 rw [Int.add_mul_ediv_right _ _ (by omega)] at h2
 omega
/-- The farther oneW of two ways from a place to another oneW. -/
def jj (p c : Vc) : Int := ((max (p.1 - c.1).natAbs (p.2 - c.2).natAbs : Nat) : Int)
theorem Pp (c : Vc) : jj c c = 0 := by
 unfold jj
 rw [Int.sub_self, Int.sub_self]
 rfl
theorem znr {x y L : Int} (hL : 0 <= L) (h : L * L <= x * x + y * y) : 2 * L <= 3 * ((max x.natAbs y.natAbs : Nat) : Int) := by
 have e1 := Dg x
 have e2 := Dg y
 obtain ⟨M, hM⟩ : ∃ M : Int, M = ((max x.natAbs y.natAbs : Nat) : Int) := ⟨_, rfl⟩
 have m1 := jd (a := (x.natAbs : Int)) (b := M) (by omega) (by omega)
 have m2 := jd (a := (y.natAbs : Int)) (b := M) (by omega) (by omega)
 rw [<- hM]
 have hM0 : 0 <= M := by omega
 clear hM
 refine Int.not_lt.1 fun hlt => ?_
 have := Nl (p := 3 * M) (q := 2 * L) (by omega) hlt
 have e3 : (3 * M) * (3 * M) = 9 * (M * M) := by grind
 have e4 : (2 * L) * (2 * L) = 4 * (L * L) := by grind
 have := Int.mul_nonneg hM0 hM0
 omega
theorem zv8 {x y a b n1 n2 u1 u2 d : Int} (hx : (0 <= x /\ n1 = x /\ a = u1) \/ (x <= 0 /\ n1 = -x /\ a = -u1)) (hy : (0 <= y /\ n2 = y /\ b = u2) \/ (y <= 0 /\ n2 = -y /\ b = -u2)) (hu1 : 0 <= u1 /\ u1 <= n1) (hu2 : 0 <= u2 /\ u2 <= n2)
  (t1 : n1 <= n2 -> u1 <= u2 /\ u2 - u1 <= n2 - n1) (t2 : n2 <= n1 -> u2 <= u1 /\ u1 - u2 <= n1 - n2) (z1 : n2 <= n1 -> d <= u1) (z2 : n1 <= n2 -> d <= u2) :
  Stp (-x) (-y) (-x + a) (-y + b) /\ ((max (-x + a).natAbs (-y + b).natAbs : Nat) : Int) + d <= ((max (-x).natAbs (-y).natAbs : Nat) : Int) := by
 have s1 : shr (-x) (-x + a) := by unfold shr; omega
 have s2 : shr (-y) (-y + b) := by unfold shr; omega
 have e1 : ((-x).natAbs : Int) = n1 := by clear hy t1 t2 z1 z2 s1 s2; omega
 have e2 : ((-y).natAbs : Int) = n2 := by clear hx t1 t2 z1 z2 s1 s2 e1; omega
 have e3 : ((-x + a).natAbs : Int) = n1 - u1 := by clear hy t1 t2 z1 z2 s1 s2 e1 e2; omega
 have e4 : ((-y + b).natAbs : Int) = n2 - u2 := by clear hx t1 t2 z1 z2 s1 s2 e1 e2 e3; omega
 unfold Stp
 generalize (-x + a).natAbs = k3 at *
 generalize (-y + b).natAbs = k4 at *
 generalize (-x).natAbs = k1 at *
 generalize (-y).natAbs = k2 at *
 refine ⟨⟨s1, s2, fun h => ?_, fun h => ?_⟩, ?_⟩
 ·have := t1 (by omega); clear hx hy t1 t2 z1 z2; omega
 ·have := t2 (by omega); clear hx hy t1 t2 z1 z2; omega
 ·rcases Int.le_total n1 n2 with h | h
  ·have := t1 h; have := z2 h; clear hx hy t1 t2 z1 z2; omega
  ·have := t2 h; have := z1 h; clear hx hy t1 t2 z1 z2; omega
theorem fi {x m L : Int} (hm : 0 < m) (hL : m < L) : ((0 <= x /\ (x.natAbs : Int) = x /\ xh x m L = (x.natAbs : Int) * m / L) \/ (x <= 0 /\ (x.natAbs : Int) = -x /\ xh x m L = -((x.natAbs : Int) * m / L))) /\ 0 <= (x.natAbs : Int) * m / L /\ (x.natAbs : Int) * m / L <= x.natAbs := by
 obtain ⟨h1, h2, h3⟩ := P3 (x := x) hm hL
 generalize (x.natAbs : Int) * m / L = q at *
 generalize xh x m L = a at *
 rcases Int.le_total 0 x with h | h
 ·have := h1 h; refine ⟨.inl ?_, ?_⟩ <;> omega
 ·have := h2 h; refine ⟨.inr ?_, ?_⟩ <;> omega
theorem fj {n m L : Int} (hm : 0 < m) (hL : m < L) (hn : 2 * L <= 3 * n) : 2 * m / 3 <= n * m / L := by
 refine (Int.le_ediv_iff_mul_le (by omega)).2 ?_
 have h3 : 3 * (2 * m / 3) <= 2 * m := by omega
 have h4 := Int.mul_le_mul_of_nonneg_right h3 (show 0 <= L by omega)
 have h5 := Int.mul_le_mul_of_nonneg_right hn (show 0 <= m by omega)
 have e3 : 3 * (2 * m / 3) * L = 3 * (2 * m / 3 * L) := by grind
 have e4 : 2 * m * L = 2 * L * m := by grind
 have e5 : 3 * n * m = 3 * (n * m) := by grind
 omega
theorem Sn {p c : Vc} (hp : yr p) (hc : yr c) {m : Int} (hm : 1 < m) (hne : p ≠ c) : ∃ a b, jo p c m = (a, b) /\ xe (a, b) /\ (a, b) ≠ ((0, 0) : Vc) /\ Stp (p.1 - c.1) (p.2 - c.2) (p.1 - c.1 + a) (p.2 - c.2 + b) ∧
  ((p.1 + a, p.2 + b) = c \/ jj (p.1 + a, p.2 + b) c + 2 * m / 3 <= jj p c) := by
 obtain ⟨⟨p1, p2⟩, p3, p4⟩ := hp
 obtain ⟨⟨c1, c2⟩, c3, c4⟩ := hc
 have e : y6 c p = (c.1 - p.1, c.2 - p.2) := Mr (by omega) (by omega) (by omega) (by omega)
 have hs : xe (c.1 - p.1, c.2 - p.2) := by unfold xe; dsimp only; omega
 obtain ⟨e1, en, h0, h1⟩ := Al hs
 obtain ⟨r0, _, r2, _⟩ := Dr h0
 have hmx : max m 0 = m := by omega
 have n1 : nrm (c.1 - p.1) = c.1 - p.1 := congrArg Prod.fst en
 have n2 : nrm (c.2 - p.2) = c.2 - p.2 := congrArg Prod.snd en
 have hd : p.1 ≠ c.1 \/ p.2 ≠ c.2 := by
  by_cases q : p.1 = c.1
  ·exact .inr fun q2 => hne (Prod.ext q q2)
  ·exact .inl q
 unfold jo xa
 rw [e, hmx]
 generalize hL : xm (sqr (c.1 - p.1, c.2 - p.2)) = L at *
 dsimp only at e1
 rw [e1] at r2
 clear hL h1 h0 e1 en
 have d1 : p.1 - c.1 = -(c.1 - p.1) := by omega
 have d2 : p.2 - c.2 = -(c.2 - p.2) := by omega
 split
 ·refine ⟨c.1 - p.1, c.2 - p.2, by unfold qi; rw [n1, n2], hs, fun q => ?_, ?_, .inl ?_⟩
  ·have q1 := congrArg Prod.fst q
   have q2 := congrArg Prod.snd q
   dsimp only at q1 q2
   omega
  ·rw [show p.1 - c.1 + (c.1 - p.1) = 0 by omega, show p.2 - c.2 + (c.2 - p.2) = 0 by omega]
   refine ⟨by unfold shr; omega, by unfold shr; omega, fun h => ⟨Nat.le_refl _, ?_⟩, fun h => ⟨Nat.le_refl _, ?_⟩⟩
   ·rw [Int.natAbs_zero]; exact h
   ·rw [Int.natAbs_zero]; exact h
  ·rw [show p.1 + (c.1 - p.1) = c.1 by omega, show p.2 + (c.2 - p.2) = c.2 by omega]
 ·rename_i hgt
  rw [n1, n2]
  have r5 := znr (x := c.1 - p.1) (y := c.2 - p.2) r0 r2
  have hmL : m < L := by omega
  obtain ⟨x1, x2, x3⟩ := fi (x := c.1 - p.1) (show 0 < m by omega) hmL
  obtain ⟨y1, y2, y3⟩ := fi (x := c.2 - p.2) (show 0 < m by omega) hmL
  have key := zv8 (d := 2 * m / 3) x1 y1 ⟨x2, x3⟩ ⟨y2, y3⟩ (fun h => fg (by omega) h (by omega) hmL) (fun h => fg (by omega) h (by omega) hmL) (fun h => fj (by omega) hmL (by omega)) (fun h => fj (by omega) hmL (by omega))
  have b1 := (P3 (x := c.1 - p.1) (show 0 < m by omega) hmL)
  have b2 := (P3 (x := c.2 - p.2) (show 0 < m by omega) hmL)
  refine ⟨_, _, rfl, ?_⟩
  clear x1 x2 x3 y1 y2 y3 r5 r2
  generalize xh (c.1 - p.1) m L = a at *
  generalize xh (c.2 - p.2) m L = b at *
  rw [<- d1, <- d2] at key
  have f1 : jj (p.1 + a, p.2 + b) c + 2 * m / 3 <= jj p c := by
   unfold jj
   dsimp only
   rw [show p.1 + a - c.1 = p.1 - c.1 + a by omega, show p.2 + b - c.2 = p.2 - c.2 + b by omega]
   exact key.2
  refine ⟨?_, fun q => ?_, key.1, .inr f1⟩
  ·have g1 := b1.1
   have g2 := b1.2.1
   have g3 := b2.1
   have g4 := b2.2.1
   clear b1 b2 key f1
   unfold xe
   dsimp only
   omega
  ·have q3 := congrArg Prod.fst q
   have q4 := congrArg Prod.snd q
   dsimp only at q3 q4
   subst q3 q4
   rw [Int.add_zero, Int.add_zero] at f1
   have : jj (p.1, p.2) c = jj p c := rfl
   omega
/-- A world with one unit. -/
def oneW (b : Wld) (u : Unt) : Wld := { b with U := [u] }
theorem Cn (b : Wld) {x u : Unt} (h : x.id = u.id) : z8 (oneW b x) u = oneW b u := by simp [z8, oneW, h]
theorem P8 (b : Wld) (u : Unt) (p : Vc) : qh (oneW b u) u.id u.kind p ↔ qw b.G b.B (zm u.kind) p (zk u.kind) := by
 unfold qh oneW
 refine ⟨fun h => h.1, fun h => ⟨h, fun x hx _ hn => ?_⟩⟩
 rw [List.mem_singleton.1 hx] at hn
 exact absurd rfl hn
def mk (u : Unt) (p : Vc) (n s : Int) : Unt := { u with pos := p, next := n, stuck := s }
noncomputable def nxU (b : Wld) (u : Unt) : Unt := (qf (oneW b u) u).U.headD u
theorem At {b : Wld} {u v : Unt} (h : qf (oneW b u) u = oneW b v) : nxU b u = v := by unfold nxU; rw [h]; rfl
/-- Within n ticks it ends so. -/
def EndsU (b : Wld) (P : Unt -> Prop) : Nat -> Unt -> Prop
 | 0, u => u.goal = -1 /\ P u
 | n + 1, u => (u.goal = -1 /\ P u) \/ (u.goal ≠ -1 /\ EndsU b P n (nxU b u))
theorem EndsU.more {b : Wld} {P : Unt -> Prop} : ∀ {n m : Nat} {u : Unt}, EndsU b P n u -> n <= m -> EndsU b P m u
 | 0, 0, u, h, _ => h
 | 0, m + 1, u, h, _ => .inl h
 | n + 1, 0, u, h, hm => absurd hm (by omega)
 | n + 1, m + 1, u, h, hm => h.imp id fun h => ⟨h.1, EndsU.more h.2 (by omega)⟩
theorem zso (v : Vc) : j4 v 0 = v := by
 unfold j4
 simp
theorem n7 {b : Wld} {u : Unt} {x y : Int} (hs : xe (x, y)) (hne : (x, y) ≠ ((0, 0) : Vc)) (hp : yr u.pos) (hf : qw b.G b.B (zm u.kind) (u.pos.1 + x, u.pos.2 + y) (zk u.kind)) :
  qs (oneW b u) u (qi (x, y)) 5 0 = some (0, (u.pos.1 + x, u.pos.2 + y)) := by
 have hv : qv u.pos (x, y) = (u.pos.1 + x, u.pos.2 + y) := by
  obtain ⟨q1, q2⟩ := hp
  obtain ⟨s1, s2⟩ := hs
  unfold qv
  dsimp only at s1 s2 ⊢
  rw [Bv (by omega) (by omega), Bv (by omega) (by omega)]
 rw [(Al hs).2.1]
 unfold qs
 rw [zso, if_neg hne, hv, if_pos ((P8 b u _).2 hf)]
theorem S1 {b : Wld} {x u : Unt} (hx : x.id = u.id) {k : Nat} {q : Vc} (h : qs (oneW b { u with stuck := 0 }) { u with stuck := 0 } (qi (jo u.pos (zg b.G u.next.toNat) (ym u.kind))) 5 0 = some (k, q)) :
  xk (oneW b x) u = oneW b { u with stuck := 0, pos := q } := by
 have e : z8 (oneW b x) { u with stuck := 0 } = oneW b { u with stuck := 0 } := Cn b hx
 obtain ⟨_, h2, _⟩ := Fo 5 0 h
 have e2 : (oneW b x).G = b.G := rfl
 have hk : wk (oneW b { u with stuck := 0 }) { u with stuck := 0 } (jo u.pos (zg b.G u.next.toNat) (ym u.kind)) = (k : Int) := by unfold wk; rw [h]
 unfold xk
 rw [e, e2, hk, if_pos (by dsimp only at h2; omega)]
 unfold jz
 rw [h]
 exact Cn b rfl
theorem S5 {b : Wld} {x u : Unt} (hx : x.id = u.id) (h : qs (oneW b { u with stuck := 0 }) { u with stuck := 0 } (qi (jo u.pos (zg b.G u.next.toNat) (ym u.kind))) 5 0 = none) :
  xk (oneW b x) u = oneW b (if u.stuck + 1 = 8 then qu 4 u else { u with stuck := u.stuck + 1, next := -1 }) := by
 have e : z8 (oneW b x) { u with stuck := 0 } = oneW b { u with stuck := 0 } := Cn b hx
 have e2 : (oneW b x).G = b.G := rfl
 have hk : wk (oneW b { u with stuck := 0 }) { u with stuck := 0 } (jo u.pos (zg b.G u.next.toNat) (ym u.kind)) = 5 := by unfold wk; rw [h]
 unfold xk
 rw [e, e2, hk, if_neg (by decide)]
 split
 ·exact Cn b hx
 ·exact Cn b hx
theorem I0 {b : Wld} {u : Unt} (hg : u.goal ≠ -1) (hp : u.pos = zg b.G u.goal.toNat) : qf (oneW b u) u = oneW b (qu 2 u) := by
 unfold qf k7
 rw [if_neg hg]
 show (if u.pos = zg b.G u.goal.toNat then z8 (oneW b u) (qu 2 u) else _) = _
 rw [if_pos hp]
 exact Cn b rfl
theorem nc {b : Wld} {u : Unt} (hg : u.goal ≠ -1) (hp : u.pos ≠ zg b.G u.goal.toNat) (hl : ko (oneW b u) u (zq b.G u.pos) = false) : qf (oneW b u) u = xk (oneW b u) u := by
 unfold qf k7
 rw [if_neg hg]
 show (if u.pos = zg b.G u.goal.toNat then _ else (if ko (oneW b u) u (zq b.G u.pos) = true then _ else xk (oneW b u) u)) = _
 rw [if_neg hp, if_neg (by rw [hl]; decide)]
theorem zup {p c : Vc} (h : jj p c <= 0) : p = c := by
 unfold jj at h
 exact Prod.ext (by omega) (by omega)
/-- A leg: all steps are free, nothing is looked for on the way. -/
theorem leg {b : Wld} {P : Unt -> Prop} {Z : Vc -> Prop} {u : Unt} {B : Nat} (hg : u.goal ≠ -1) (hc : yr (zg b.G B))
  (hZ : ∀ p q, Z p -> Stp (p.1 - (zg b.G B).1) (p.2 - (zg b.G B).2) (q.1 - (zg b.G B).1) (q.2 - (zg b.G B).2) -> Z q /\ qw b.G b.B (zm u.kind) q (zk u.kind))
  (hL : ∀ p, Z p -> yr p /\ (B = zq b.G p \/ (qo b.G (zq b.G p)).contains (B : Int) = true)) (hok : okU b u B = true)
  (hP : ∀ p n s, Z p -> p = zg b.G u.goal.toNat -> P (qu 2 (mk u p n s))) {n : Nat} (hn : EndsU b P n (mk u (zg b.G B) (B : Nat) 0)) :
  ∀ (j : Nat) (p : Vc) (n0 s0 : Int), Z p -> (p ≠ zg b.G B -> p ≠ zg b.G u.goal.toNat -> qf (oneW b (mk u p n0 s0)) (mk u p n0 s0) = xk (oneW b (mk u p n0 s0)) (mk u p (B : Nat) s0)) -> (p = zg b.G B -> n0 = B /\ s0 = 0) ->
   jj p (zg b.G B) <= j * (2 * ym u.kind / 3) -> EndsU b P (n + j + 1) (mk u p n0 s0)
 | j, p, n0, s0, hz, hR, h0, hM => by
  by_cases hpg : p = zg b.G u.goal.toNat
  ·rw [show n + j + 1 = (n + j) + 1 from rfl]
   refine .inr ⟨hg, ?_⟩
   rw [At (I0 (b := b) (u := mk u p n0 s0) hg hpg)]
   exact EndsU.more (n := 0) ⟨rfl, hP p n0 s0 hz hpg⟩ (by omega)
  by_cases hpc : p = zg b.G B
  ·obtain ⟨rfl, rfl⟩ := h0 hpc
   rw [hpc]
   exact hn.more (by omega)
  have hsp := Fw u.kind
  obtain ⟨a, c, e1, e2, e3, e4, e5⟩ := Sn (hL p hz).1 hc (m := ym u.kind) (by omega) hpc
  obtain ⟨z1, z2⟩ := hZ p (p.1 + a, p.2 + c) hz (by rw [show p.1 + a - (zg b.G B).1 = p.1 - (zg b.G B).1 + a by omega, show p.2 + c - (zg b.G B).2 = p.2 - (zg b.G B).2 + c by omega]; exact e4)
  have e6 : qf (oneW b (mk u p n0 s0)) (mk u p n0 s0) = oneW b (mk u (p.1 + a, p.2 + c) (B : Nat) 0) := by
   rw [hR hpc hpg]
   refine S1 (b := b) (x := mk u p n0 s0) (u := mk u p (B : Nat) s0) rfl (k := 0) (q := (p.1 + a, p.2 + c)) ?_
   have hB : ((B : Nat) : Int).toNat = B := Int.toNat_natCast B
   show qs (oneW b (mk u p (B : Nat) 0)) (mk u p (B : Nat) 0) (qi (jo p (zg b.G ((B : Nat) : Int).toNat) (ym u.kind))) 5 0 = _
   rw [hB, e1]
   exact n7 (u := mk u p (B : Nat) 0) e2 e3 (hL p hz).1 z2
  have hd : 1 <= 2 * ym u.kind / 3 := by omega
  have hj : 1 <= j := by
   refine Nat.one_le_iff_ne_zero.2 fun e => hpc (zup ?_)
   subst e
   simpa using hM
  obtain ⟨i, rfl⟩ : ∃ i, j = i + 1 := ⟨j - 1, by omega⟩
  rw [show n + (i + 1) + 1 = (n + i + 1) + 1 by omega]
  refine .inr ⟨hg, ?_⟩
  rw [At e6]
  refine leg hg hc hZ hL hok hP hn i (p.1 + a, p.2 + c) (B : Nat) 0 z1 (fun q1 q2 => ?_) (fun _ => ⟨rfl, rfl⟩) ?_
  ·have hlook : ko (oneW b (mk u (p.1 + a, p.2 + c) (B : Nat) 0)) (mk u (p.1 + a, p.2 + c) (B : Nat) 0) (zq b.G (p.1 + a, p.2 + c)) = false := by
    unfold ko
    have hB : ((B : Nat) : Int).toNat = B := Int.toNat_natCast B
    show (decide (((B : Nat) : Int) = -1) || decide ((p.1 + a, p.2 + c) = zg b.G ((B : Nat) : Int).toNat) || !okU b u ((B : Nat) : Int).toNat || (decide (((B : Nat) : Int) ≠ (zq b.G (p.1 + a, p.2 + c) : Nat)) && !(qo b.G (zq b.G (p.1 + a, p.2 + c))).contains ((B : Nat) : Int))) = false
    rw [hB, hok, decide_eq_false q1, decide_eq_false (show ¬ ((B : Nat) : Int) = -1 by omega)]
    rcases (hL _ z1).2 with h | h
    ·rw [<- h]; simp
    ·rw [h]; simp
   exact nc (u := mk u (p.1 + a, p.2 + c) (B : Nat) 0) hg q2 hlook
  ·rcases e5 with e5 | e5
   ·rw [e5]
    have := Pp (zg b.G B)
    rw [this]
    exact Int.mul_nonneg (by omega) (by omega)
   ·have : ((i + 1 : Nat) : Int) * (2 * ym u.kind / 3) = (i : Int) * (2 * ym u.kind / 3) + 2 * ym u.kind / 3 := by
     rw [show ((i + 1 : Nat) : Int) = (i : Int) + 1 by omega, Int.add_mul, Int.one_mul]
    omega
theorem bk (g : Gnd) {x y x' y' : Int} {d d' : Int × Int} (h1 : x + d.1 = x' + d'.1) (h2 : y + d.2 = y' + d'.2) : qc g x y d = qc g x' y' d' := by
 unfold qc
 rw [h1, h2]
theorem Cl {g : Gnd} {ok : Nat -> Bool} {c : Int} {t u w w' : Nat} (hb : zo g t w = (u : Nat)) (hb' : zo g u w' = (t : Nat)) (ht : ok t = true) (hu : ok u = true) (h4 : w < 4 ↔ w' < 4)
  (hs : 4 <= w -> zo g u (vf w') = zo g t (ve w) /\ zo g u (ve w') = zo g t (vf w)) : yb g ok c u w' = yb g ok c t w := by
 have f1 : qd ok ((t : Nat) : Int) = true := by unfold qd; simp [ht]
 have f2 : qd ok ((u : Nat) : Int) = true := by unfold qd; simp [hu]
 unfold yb
 rw [hb, hb', if_pos f1, if_pos f2, Int.toNat_natCast, Int.toNat_natCast]
 by_cases hw : w < 4
 ·rw [if_pos hw, if_pos (h4.1 hw)]
  omega
 ·obtain ⟨e1, e2⟩ := hs (by omega)
  rw [if_neg hw, if_neg (fun q => hw (h4.2 q)), e1, e2]
  by_cases q : qd ok (zo g t (vf w)) /\ qd ok (zo g t (ve w))
  ·rw [if_pos q, if_pos q.symm]
   omega
  ·rw [if_neg q, if_neg fun h => q h.symm]
/-- The tile beside, by its place. -/
theorem Ij {g : Gnd} (hg : zi g) {t u way : Nat} (hw : way < 8) (h : zo g t way = (u : Nat)) : onG g ((t : Int) % g.W + (dirL.getD way (0, 0)).1) ((t : Int) / g.W + (dirL.getD way (0, 0)).2) ∧
  (u : Int) % g.W = (t : Int) % g.W + (dirL.getD way (0, 0)).1 /\ (u : Int) / g.W = (t : Int) / g.W + (dirL.getD way (0, 0)).2 /\ u < g.T.length /\ u = tl g ((t : Int) % g.W + (dirL.getD way (0, 0)).1) ((t : Int) / g.W + (dirL.getD way (0, 0)).2) := by
 have e : zo g t way = qc g ((t : Int) % g.W) ((t : Int) / g.W) (dirL.getD way (0, 0)) := by
  have : way = 0 \/ way = 1 \/ way = 2 \/ way = 3 \/ way = 4 \/ way = 5 \/ way = 6 \/ way = 7 := by omega
  rcases this with rfl | rfl | rfl | rfl | rfl | rfl | rfl | rfl <;> rfl
 rw [e] at h
 rcases Ou hg ((t : Int) % g.W) ((t : Int) / g.W) (dirL.getD way (0, 0)) with ⟨q, _⟩ | ⟨q1, q2, q3⟩
 ·omega
 ·obtain ⟨_, q4, q5, q6⟩ := j1 hg q1
  have : u = tl g ((t : Int) % g.W + (dirL.getD way (0, 0)).1) ((t : Int) / g.W + (dirL.getD way (0, 0)).2) := by omega
  rw [<- this] at q3 q5 q6
  exact ⟨q1, q5, q6, q3, this⟩
/-- Each step leads back, and costs the same. -/
theorem zuv {g : Gnd} (hg : zi g) {ok : Nat -> Bool} {c : Int} {t u : Nat} {k : Int} (h : y4 g ok c t u k) : ∃ way, way < 8 /\ zo g u way = (t : Nat) /\ yb g ok c u way = k := by
 obtain ⟨ht, htl, way, hw, hb, hu, rfl, _⟩ := h
 obtain ⟨o1, o2⟩ := vy hg htl
 obtain ⟨_, e1, e2, _, _⟩ := Ij hg hw hb
 have back : ∀ (w' : Nat) (d' : Int × Int), zo g u w' = qc g ((u : Int) % g.W) ((u : Int) / g.W) d' -> d'.1 = -(dirL.getD way (0, 0)).1 -> d'.2 = -(dirL.getD way (0, 0)).2 -> zo g u w' = (t : Nat) := fun w' d' h1 h2 h3 => by
  rw [h1, e1, e2]
  have : qc g ((t : Int) % g.W + (dirL.getD way (0, 0)).1) ((t : Int) / g.W + (dirL.getD way (0, 0)).2) d' = qc g ((t : Int) % g.W) ((t : Int) / g.W) (0, 0) := bk g (by rw [h2]; dsimp only; omega) (by rw [h3]; dsimp only; omega)
  rw [this]
  unfold qc
  dsimp only
  rw [Int.add_zero, Int.add_zero, if_pos o1, <- (j1 hg o1).1, o2]
 have : way = 0 \/ way = 1 \/ way = 2 \/ way = 3 \/ way = 4 \/ way = 5 \/ way = 6 \/ way = 7 := by omega
 have sd : ∀ (w' : Nat) (d d' : Int × Int), (dirL.getD way (0, 0)).1 + d'.1 = d.1 -> (dirL.getD way (0, 0)).2 + d'.2 = d.2 -> qc g ((u : Int) % g.W) ((u : Int) / g.W) d' = qc g ((t : Int) % g.W) ((t : Int) / g.W) d := fun w' d d' h1 h2 => bk g (by rw [e1]; omega) (by rw [e2]; omega)
 rcases this with rfl | rfl | rfl | rfl | rfl | rfl | rfl | rfl
 ·have hb' := back 2 (0, 1) rfl rfl rfl
  exact ⟨2, by decide, hb', Cl hb hb' ht hu (by decide) fun h => absurd h (by decide)⟩
 ·have hb' := back 3 (-1, 0) rfl rfl rfl
  exact ⟨3, by decide, hb', Cl hb hb' ht hu (by decide) fun h => absurd h (by decide)⟩
 ·have hb' := back 0 (0, -1) rfl rfl rfl
  exact ⟨0, by decide, hb', Cl hb hb' ht hu (by decide) fun h => absurd h (by decide)⟩
 ·have hb' := back 1 (1, 0) rfl rfl rfl
  exact ⟨1, by decide, hb', Cl hb hb' ht hu (by decide) fun h => absurd h (by decide)⟩
 ·have hb' := back 6 (-1, 1) rfl rfl rfl
  exact ⟨6, by decide, hb', Cl hb hb' ht hu (by decide) fun _ => ⟨sd 0 (1, 0) (0, 1) rfl rfl, sd 0 (0, -1) (-1, 0) rfl rfl⟩⟩
 ·have hb' := back 7 (-1, -1) rfl rfl rfl
  exact ⟨7, by decide, hb', Cl hb hb' ht hu (by decide) fun _ => ⟨sd 0 (0, 1) (-1, 0) rfl rfl, sd 0 (1, 0) (0, -1) rfl rfl⟩⟩
 ·have hb' := back 4 (1, -1) rfl rfl rfl
  exact ⟨4, by decide, hb', Cl hb hb' ht hu (by decide) fun _ => ⟨sd 0 (-1, 0) (0, -1) rfl rfl, sd 0 (0, 1) (1, 0) rfl rfl⟩⟩
 ·have hb' := back 5 (1, 1) rfl rfl rfl
  exact ⟨5, by decide, hb', Cl hb hb' ht hu (by decide) fun _ => ⟨sd 0 (0, -1) (1, 0) rfl rfl, sd 0 (-1, 0) (0, 1) rfl rfl⟩⟩
theorem Rw {g : Gnd} (hg : zi g) {ok : Nat -> Bool} {c : Int} {goal : Nat} {d : Nat -> Int} (hF : FarOK (y4 g ok c) goal d) {t : Nat} (ht : t < g.T.length) (hd : 0 < d t) :
  ∃ way B : Nat, way < 8 /\ qb g ok c d t = (way : Nat) /\ zo g t way = (B : Nat) /\ ok t = true /\ ok B = true /\ 0 <= d B /\ d B < d t /\ 0 < yb g ok c t way := by
 have hne : t ≠ goal := fun e => by rw [e, hF.gl] at hd; omega
 obtain ⟨t', k, h1, hE, h2⟩ := hF.pre t hne (by omega)
 have h3 := (hF.rel t' t k h1 hE).2
 obtain ⟨w, hw, hb, hk⟩ := zuv hg hE
 have hk0 := Bw t' t k hE
 have hot : ok t = true := by obtain ⟨_, _, _, _, _, h, _⟩ := hE; exact h
 unfold qb
 rw [if_neg (by omega)]
 cases hf : (List.range 8).find? fun way => decide (0 < yb g ok c t way /\ 0 <= d (zo g t way).toNat /\ yb g ok c t way + d (zo g t way).toNat = d t) with
 | none =>
  have := List.find?_eq_none.1 hf w (List.mem_range.2 hw)
  rw [hb, Int.toNat_natCast, hk] at this
  exact absurd (show 0 < k /\ 0 <= d t' /\ k + d t' = d t by omega) (by simpa using this)
 | some way =>
  have q1 := List.mem_range.1 (List.mem_of_find?_eq_some hf)
  have hs := List.find?_some hf
  obtain ⟨q2, q3, q4⟩ := of_decide_eq_true hs
  obtain ⟨q5, q6⟩ := H7 (I8 (g := g) (ok := ok) (c := c) (t := t) (way := way) (by omega))
  exact ⟨way, (zo g t way).toNat, q1, rfl, by omega, hot, q6, q3, by omega, q2⟩
def Ic (N : Nat) (d : Nat -> Int) (t : Nat) : Nat := ((List.range N).filter fun u => decide (0 <= d u /\ d u < d t)).length
theorem ft {N : Nat} {d : Nat -> Int} {B t : Nat} (hB : B < N) (h0 : 0 <= d B) (h : d B < d t) : Ic N d B < Ic N d t := by
 have e : (List.range N).filter (fun u => decide (0 <= d u /\ d u < d B)) = ((List.range N).filter fun u => decide (0 <= d u /\ d u < d t)).filter fun u => decide (0 <= d u /\ d u < d B) := by
  rw [List.filter_filter]
  refine List.filter_congr fun u _ => ?_
  rw [Bool.eq_iff_iff, Bool.and_eq_true, decide_eq_true_iff, decide_eq_true_iff]
  omega
 unfold Ic
 rw [e]
 refine List.length_filter_lt_length_iff_exists.2 ⟨B, List.mem_filter.2 ⟨List.mem_range.2 hB, by simpa using ⟨h0, h⟩⟩, ?_⟩
 simp
theorem zvz (N : Nat) (d : Nat -> Int) (t : Nat) : Ic N d t <= N := by
 have := List.length_filter_le (fun u => decide (0 <= d u /\ d u < d t)) (List.range N)
 rw [List.length_range] at this
 exact this
theorem zqq {g : Gnd} (hg : zi g) {ox oy x y : Int} (h1 : onG g ox oy) (h2 : onG g x y) (hx : -1 <= x - ox /\ x - ox <= 1) (hy : -1 <= y - oy /\ y - oy <= 1) (hne : ¬ (x = ox /\ y = oy)) : (qo g (tl g ox oy)).contains ((tl g x y : Nat) : Int) = true := by
 obtain ⟨_, _, e1, e2⟩ := j1 hg h1
 unfold qo
 rw [e1, e2]
 refine List.contains_iff_mem.2 (List.mem_map.2 ⟨(x - ox, y - oy), ?_, ?_⟩)
 ·have hn : ¬ (x - ox = 0 /\ y - oy = 0) := by omega
  generalize x - ox = a at *
  generalize y - oy = b at *
  have ha : a = -1 \/ a = 0 \/ a = 1 := by omega
  have hb : b = -1 \/ b = 0 \/ b = 1 := by omega
  rcases ha with rfl | rfl | rfl <;> rcases hb with rfl | rfl | rfl <;> first | decide | exact absurd ⟨rfl, rfl⟩ hn
 ·unfold qc
  dsimp only
  rw [show ox + (x - ox) = x by omega, show oy + (y - oy) = y by omega, if_pos h2, (j1 hg h2).1]
theorem Fb (g : Gnd) (t : Nat) : zg g t = ((t : Int) % g.W * 65536 + 32768, (t : Int) / g.W * 65536 + 32768) := rfl
theorem Kn {g : Gnd} (hg : zi g) {x y : Int} (h : onG g x y) : (0 <= x /\ x < 128) /\ (0 <= y /\ y < 128) /\ (x + 1) * 65536 <= g.W * 65536 /\ (y + 1) * 65536 <= g.H * 65536 := by
 obtain ⟨⟨_, h1⟩, ⟨_, h2⟩, _⟩ := hg
 unfold onG at h
 omega
theorem He {g : Gnd} (hg : zi g) {p : Vc} {x y : Int} (ho : onG g x y) (h1 : p.1 / 65536 = x) (h2 : p.2 / 65536 = y) : zq g p = tl g x y := by
 unfold zq tl
 rw [h1, h2]
theorem Ae {g : Gnd} (hg : zi g) {t : Nat} (ht : t < g.T.length) : zq g (zg g t) = t /\ yr (zg g t) := by
 obtain ⟨o1, o2⟩ := vy hg ht
 have hl := Kn hg o1
 rw [Fb]
 generalize (t : Int) % g.W = x at *
 generalize (t : Int) / g.W = y at *
 refine ⟨?_, ?_⟩
 ·rw [He (x := x) (y := y) hg o1 (by dsimp only; omega) (by dsimp only; omega), o2]
 ·unfold yr; dsimp only; omega
theorem gi {g : Gnd} (hg : zi g) {t u : Nat} (ht : t < g.T.length) (hu : u < g.T.length) (h : zg g t = zg g u) : t = u := by
 rw [<- (Ae hg ht).1, h, (Ae hg hu).1]
/-- How many ticks a tile may take. -/
def y8 (k : Int) : Nat := (98304 / ym k + 2).toNat
theorem Nc (k : Int) : ∃ j : Nat, y8 k = j + 1 /\ 65536 <= (j : Int) * (2 * ym k / 3) := by
 unfold y8 ym
 by_cases h0 : k = 0
 ·rw [if_pos h0]; exact ⟨7, by decide, by decide⟩
 ·rw [if_neg h0]
  by_cases h1 : k = 1
  ·rw [if_pos h1]; exact ⟨5, by decide, by decide⟩
  ·rw [if_neg h1]
   by_cases h2 : k = 2
   ·rw [if_pos h2]; exact ⟨13, by decide, by decide⟩
   ·rw [if_neg h2]; exact ⟨7, by decide, by decide⟩
/-- Four good tiles about a step. -/
theorem zty {g : Gnd} (hg : zi g) {l : List Bld} {k c : Int} {t B way : Nat} (ht : t < g.T.length) (hw : way < 8) (hb : zo g t way = (B : Nat)) (h1 : zf g l (zm k) (zx k) t = true) (h2 : zf g l (zm k) (zx k) B = true)
  (hs : 0 < yb g (zf g l (zm k) (zx k)) c t way) : ∀ x y, (x = (t : Int) % g.W \/ x = (B : Int) % g.W) -> (y = (t : Int) / g.W \/ y = (B : Int) / g.W) -> sqP g (z6 g l (zm k)) (zx k).toNat x y := by
 have g1 := sqB_iff.1 h1
 have g2 := sqB_iff.1 h2
 obtain ⟨_, e1, e2, _, _⟩ := Ij hg hw hb
 -- the tiles at the sides
 have side : ∀ (w : Nat) (u : Int), zo g t w = u -> w < 8 -> qd (zf g l (zm k) (zx k)) u = true -> sqP g (z6 g l (zm k)) (zx k).toNat ((t : Int) % g.W + (dirL.getD w (0, 0)).1) ((t : Int) / g.W + (dirL.getD w (0, 0)).2) := fun w u hu hw2 hf => by
  obtain ⟨f1, f2⟩ := H7 hf
  obtain ⟨m, rfl⟩ : ∃ m : Nat, u = m := ⟨u.toNat, by omega⟩
  obtain ⟨_, q1, q2, _, _⟩ := Ij hg hw2 hu
  rw [Int.toNat_natCast] at f2
  have := sqB_iff.1 f2
  rw [q1, q2] at this
  exact this
 have sides : 4 <= way -> qd (zf g l (zm k) (zx k)) (zo g t (vf way)) = true /\ qd (zf g l (zm k) (zx k)) (zo g t (ve way)) = true := fun h4 => by
  unfold yb at hs
  split at hs
  ·rw [if_neg (by omega)] at hs
   split at hs
   ·assumption
   ·omega
  ·omega
 rw [e1, e2]
 rw [e1, e2] at g2
 have : way = 0 \/ way = 1 \/ way = 2 \/ way = 3 \/ way = 4 \/ way = 5 \/ way = 6 \/ way = 7 := by omega
 have z1 : (t : Int) % g.W + 0 = (t : Int) % g.W := Int.add_zero _
 have z2 : (t : Int) / g.W + 0 = (t : Int) / g.W := Int.add_zero _
 intro x y hx hy
 rcases this with rfl | rfl | rfl | rfl | rfl | rfl | rfl | rfl
 ·change x = _ \/ x = _ + 0 at hx
  rw [z1, or_self] at hx
  subst hx
  rcases hy with rfl | rfl
  ·exact g1
  ·exact z1 ▸ g2
 ·change y = _ \/ y = _ + 0 at hy
  rw [z2, or_self] at hy
  subst hy
  rcases hx with rfl | rfl
  ·exact g1
  ·exact z2 ▸ g2
 ·change x = _ \/ x = _ + 0 at hx
  rw [z1, or_self] at hx
  subst hx
  rcases hy with rfl | rfl
  ·exact g1
  ·exact z1 ▸ g2
 ·change y = _ \/ y = _ + 0 at hy
  rw [z2, or_self] at hy
  subst hy
  rcases hx with rfl | rfl
  ·exact g1
  ·exact z2 ▸ g2
 all_goals
  obtain ⟨sa, sb⟩ := sides (by decide)
  have sa2 := side _ _ rfl (by decide) sa
  have sb2 := side _ _ rfl (by decide) sb
  rcases hx with rfl | rfl <;> rcases hy with rfl | rfl
  ·exact g1
  ·first
    | exact (show sqP g (z6 g l (zm k)) (zx k).toNat _ _ from z1 ▸ sa2)
    | exact (show sqP g (z6 g l (zm k)) (zx k).toNat _ _ from z1 ▸ sb2)
  ·first
    | exact (show sqP g (z6 g l (zm k)) (zx k).toNat _ _ from z2 ▸ sa2)
    | exact (show sqP g (z6 g l (zm k)) (zx k).toNat _ _ from z2 ▸ sb2)
  ·exact g2
theorem Iz {b : Wld} {u : Unt} {p : Vc} {n0 s0 : Int} (hg : u.goal ≠ -1) (hpg : p ≠ zg b.G u.goal.toNat) (hl : n0 = -1 \/ p = zg b.G n0.toNat \/ okU b u n0.toNat = false) :
  qf (oneW b (mk u p n0 s0)) (mk u p n0 s0) = if qz (oneW b (mk u p n0 s0)) (mk u p n0 s0) (zq b.G p) < 0 then oneW b (qu 3 (mk u p n0 s0)) else xk (oneW b (mk u p n0 s0)) (mk u p (qz (oneW b (mk u p n0 s0)) (mk u p n0 s0) (zq b.G p)) s0) := by
 have hlook : ko (oneW b (mk u p n0 s0)) (mk u p n0 s0) (zq b.G p) = true := by
  unfold ko
  show (decide (n0 = -1) || decide (p = zg b.G n0.toNat) || !okU b u n0.toNat || (decide (n0 ≠ (zq b.G p : Nat)) && !(qo b.G (zq b.G p)).contains n0)) = true
  rcases hl with h | h | h
  ·rw [decide_eq_true h]; simp
  ·rw [decide_eq_true h]; simp
  ·rw [h]; simp
 unfold qf k7
 rw [if_neg (show (mk u p n0 s0).goal ≠ -1 from hg)]
 show (if p = zg b.G u.goal.toNat then _ else (if ko (oneW b (mk u p n0 s0)) (mk u p n0 s0) (zq b.G p) = true then (if qz (oneW b (mk u p n0 s0)) (mk u p n0 s0) (zq b.G p) < 0 then z8 (oneW b (mk u p n0 s0)) (qu 3 (mk u p n0 s0)) else xk (oneW b (mk u p n0 s0)) (mk u p (qz (oneW b (mk u p n0 s0)) (mk u p n0 s0) (zq b.G p)) s0)) else _)) = _
 rw [if_neg hpg]
 rw [if_pos hlook]
 split
 ·exact Cn b rfl
 ·rfl
theorem I9 {d d' : Int} (h : shr d d') : d'.natAbs <= d.natAbs := by unfold shr at h; omega
/-- The way from centre to centre. -/
theorem path {b : Wld} (hg : zi b.G) {P : Unt -> Prop} {u : Unt} {goal : Nat} (hgoal : u.goal = (goal : Nat)) (hgl : goal < b.G.T.length)
  (hF : FarOK (y4 b.G (okU b u) (zm u.kind)) goal (yl b.G (okU b u) (zm u.kind) goal)) (hP : ∀ p n s, p = zg b.G goal -> P (qu 2 (mk u p n s))) :
  ∀ (n t : Nat), Ic b.G.T.length (yl b.G (okU b u) (zm u.kind) goal) t <= n -> t < b.G.T.length -> 0 <= yl b.G (okU b u) (zm u.kind) goal t -> ∀ n0 s0 : Int, (n0 = -1 \/ n0 = (t : Nat)) -> EndsU b P (n * y8 u.kind + 1) (mk u (zg b.G t) n0 s0) := by
 have hgn : u.goal ≠ -1 := by omega
 have hgt : u.goal.toNat = goal := by omega
 intro n
 induction n with
 | zero =>
  intro t hc ht hd n0 s0 hn
  by_cases hcg : zg b.G t = zg b.G goal
  ·refine .inr ⟨hgn, ?_⟩
   rw [At (I0 (b := b) (u := mk u (zg b.G t) n0 s0) hgn (by show zg b.G t = zg b.G u.goal.toNat; rw [hgt]; exact hcg))]
   exact EndsU.more (n := 0) ⟨rfl, hP _ _ _ hcg⟩ (by omega)
  ·have hne : t ≠ goal := fun e => hcg (by rw [e])
   have hd0 : 0 < yl b.G (okU b u) (zm u.kind) goal t := by
    obtain ⟨t', k, q1, q2, q3⟩ := hF.pre t hne hd
    have := Bw t' t k q2
    omega
   obtain ⟨way, B, hw, e1, e2, o1, o2, q1, q2, q3⟩ := Rw hg hF ht hd0
   have := ft (Ij hg hw e2).2.2.2.1 q1 q2
   omega
 | succ m ih =>
  intro t hc ht hd n0 s0 hn
  by_cases hcg : zg b.G t = zg b.G goal
  ·refine .inr ⟨hgn, ?_⟩
   rw [At (I0 (b := b) (u := mk u (zg b.G t) n0 s0) hgn (by show zg b.G t = zg b.G u.goal.toNat; rw [hgt]; exact hcg))]
   exact EndsU.more (n := 0) ⟨rfl, hP _ _ _ hcg⟩ (by omega)
  have hne : t ≠ goal := fun e => hcg (by rw [e])
  have hd0 : 0 < yl b.G (okU b u) (zm u.kind) goal t := by
   obtain ⟨t', k, q1, q2, q3⟩ := hF.pre t hne hd
   have := Bw t' t k q2
   omega
  obtain ⟨way, B, hw, e1, e2, o1, o2, q1, q2, q3⟩ := Rw hg hF ht hd0
  obtain ⟨onB, eX, eY, hB, etl⟩ := Ij hg hw e2
  have hcB := ft hB q1 q2
  have hB' := ih B (by omega) hB q1 ((B : Nat) : Int) 0 (.inr rfl)
  have h4 := zty hg ht hw e2 o1 o2 q3
  obtain ⟨onA, eA⟩ := vy hg ht
  obtain ⟨oB1, oB2⟩ := vy hg hB
  have hlA := Kn hg onA
  have hlB := Kn hg oB1
  obtain ⟨j, hj, hj2⟩ := Nc u.kind
  have hdir : (-1 <= (dirL.getD way (0, 0)).1 /\ (dirL.getD way (0, 0)).1 <= 1) /\ (-1 <= (dirL.getD way (0, 0)).2 /\ (dirL.getD way (0, 0)).2 <= 1) := by
   have : way = 0 \/ way = 1 \/ way = 2 \/ way = 3 \/ way = 4 \/ way = 5 \/ way = 6 \/ way = 7 := by omega
   rcases this with rfl | rfl | rfl | rfl | rfl | rfl | rfl | rfl <;> decide
  have hBt : zg b.G t ≠ zg b.G B := fun e => by
   have := gi hg ht hB e
   subst this
   omega
  have cA := Fb b.G t
  have cB := Fb b.G B
  have key := leg (b := b) (P := P) (u := u) (B := B) (Z := fun p => (min ((t : Int) % b.G.W) ((B : Int) % b.G.W) * 65536 + 32768 <= p.1 /\ p.1 <= max ((t : Int) % b.G.W) ((B : Int) % b.G.W) * 65536 + 32768) ∧
    (min ((t : Int) / b.G.W) ((B : Int) / b.G.W) * 65536 + 32768 <= p.2 /\ p.2 <= max ((t : Int) / b.G.W) ((B : Int) / b.G.W) * 65536 + 32768)) hgn (Ae hg hB).2 ?_ ?_ o2 (fun p n s _ h => hP p n s (by rw [hgt] at h; exact h)) hB' j (zg b.G t) n0 s0 ?_ (fun h1 h2 => ?_) (fun h => absurd h hBt) ?_
  ·rw [show (m + 1) * y8 u.kind + 1 = m * y8 u.kind + 1 + j + 1 by rw [Nat.succ_mul, hj]; omega]
   exact key
  ·intro p q hz hst
   have s1 := hst.1
   have s2 := hst.2.1
   unfold shr at s1 s2
   rw [cB] at s1 s2
   dsimp only at s1 s2 hz
   have hq : (min ((t : Int) % b.G.W) ((B : Int) % b.G.W) * 65536 + 32768 <= q.1 /\ q.1 <= max ((t : Int) % b.G.W) ((B : Int) % b.G.W) * 65536 + 32768) ∧
    (min ((t : Int) / b.G.W) ((B : Int) / b.G.W) * 65536 + 32768 <= q.2 /\ q.2 <= max ((t : Int) / b.G.W) ((B : Int) / b.G.W) * 65536 + 32768) := by
    generalize (t : Int) % b.G.W = x at *
    generalize (t : Int) / b.G.W = y at *
    generalize (B : Int) % b.G.W = x' at *
    generalize (B : Int) / b.G.W = y' at *
    omega
   refine ⟨hq, zwm hg (by omega) (by omega) (fun x y hx hy => h4 x y (by omega) (by omega)) hq.1 hq.2⟩
  ·intro p hz
   have hm : yr p := by
    unfold yr
    generalize (t : Int) % b.G.W = x at *
    generalize (t : Int) / b.G.W = y at *
    generalize (B : Int) % b.G.W = x' at *
    generalize (B : Int) / b.G.W = y' at *
    omega
   refine ⟨hm, ?_⟩
   have ho : onG b.G (p.1 / 65536) (p.2 / 65536) := by
    unfold onG at *
    generalize (t : Int) % b.G.W = x at *
    generalize (t : Int) / b.G.W = y at *
    generalize (B : Int) % b.G.W = x' at *
    generalize (B : Int) / b.G.W = y' at *
    omega
   have et : zq b.G p = tl b.G (p.1 / 65536) (p.2 / 65536) := He hg ho rfl rfl
   rw [et]
   by_cases hs : (B : Int) % b.G.W = p.1 / 65536 /\ (B : Int) / b.G.W = p.2 / 65536
   ·left
    rw [<- hs.1, <- hs.2]
    exact oB2.symm
   ·right
    have := zqq hg ho oB1 (by omega) (by omega) hs
    rw [oB2] at this
    exact this
  ·rw [cA]
   dsimp only
   omega
  ·rw [Iz hgn (by rw [hgt]; exact hcg) (hn.imp id fun h => .inl (by rw [h, Int.toNat_natCast])), (Ae hg ht).1]
   have hnx : qz (oneW b (mk u (zg b.G t) n0 s0)) (mk u (zg b.G t) n0 s0) t = (B : Nat) := by
    unfold qz
    rw [if_neg (show ¬ (mk u (zg b.G t) n0 s0).pos ≠ zg (oneW b (mk u (zg b.G t) n0 s0)).G t from fun h => h rfl)]
    show (let way := qb b.G (okU b u) (zm u.kind) (yl b.G (okU b u) (zm u.kind) u.goal.toNat) t; if way < 0 then -1 else zo b.G t way.toNat) = _
    dsimp only
    rw [hgt, e1, if_neg (by omega), Int.toNat_natCast, e2]
   rw [hnx, if_neg (by omega)]
  ·rw [cA, cB]
   unfold jj
   dsimp only
   generalize (t : Int) % b.G.W = x at *
   generalize (t : Int) / b.G.W = y at *
   generalize (B : Int) % b.G.W = x' at *
   generalize (B : Int) / b.G.W = y' at *
   omega
/-- To its own tile's centre, where the tile is good. -/
theorem Wv {b : Wld} (hg : zi b.G) {P : Unt -> Prop} {u : Unt} (hgn : u.goal ≠ -1) {p : Vc} (hf : qw b.G b.B (zm u.kind) p (zk u.kind)) (hok : okU b u (zq b.G p) = true)
  (hP : ∀ q n s, zq b.G q = zq b.G p -> q = zg b.G u.goal.toNat -> P (qu 2 (mk u q n s))) {n : Nat}
  (hn : ∀ n0 : Int, (n0 = -1 \/ n0 = (zq b.G p : Nat)) -> EndsU b P n (mk u (zg b.G (zq b.G p)) n0 0)) : EndsU b P (n + y8 u.kind) (mk u p (-1) 0) := by
 have hb := we hg hf
 have hin : (0 <= p.1 /\ p.1 < b.G.W * 65536) /\ (0 <= p.2 /\ p.2 < b.G.H * 65536) := by omega
 obtain ⟨t1, t2, t3, t4⟩ := wq hg hin
 by_cases hpc : p = zg b.G (zq b.G p)
 ·have := (hn (-1) (.inl rfl)).more (m := n + y8 u.kind) (by omega)
  rw [<- hpc] at this
  exact this
 have cO := Fb b.G (zq b.G p)
 rw [t3, t4] at cO
 have gq := sqB_iff.1 hok
 rw [t3, t4] at gq
 obtain ⟨oO, etO⟩ := vy hg t2
 rw [t3, t4] at oO etO
 obtain ⟨j, hj, hj2⟩ := Nc u.kind
 have hlO := Kn hg oO
 have key := leg (b := b) (P := P) (u := u) (B := zq b.G p) (Z := fun q => (q.1 / 65536 = p.1 / 65536 /\ q.2 / 65536 = p.2 / 65536) /\ qw b.G b.B (zm u.kind) q (zk u.kind)) hgn (Ae hg t2).2 ?_ ?_ hok
  (fun q n s hz h => hP q n s (by rw [He hg oO hz.1.1 hz.1.2, etO]) h) (hn _ (.inr rfl)) j p (-1) 0 ⟨⟨rfl, rfl⟩, hf⟩ (fun h1 h2 => ?_) (fun h => absurd h hpc) ?_
 ·rw [hj]
  exact key
 ·rintro q q' ⟨hz, hzf⟩ hst
  have s1 := hst.1
  have s2 := hst.2.1
  unfold shr at s1 s2
  rw [cO] at s1 s2 hst
  dsimp only at s1 s2 hst
  refine ⟨?_, ?_⟩
  ·refine ⟨by omega, Ww hg gq hzf (by omega) (by omega) hst⟩
  ·exact Ww hg gq hzf (by omega) (by omega) hst
 ·rintro q ⟨hz, hzf⟩
  have := we hg hzf
  refine ⟨by unfold yr; omega, .inl ?_⟩
  rw [He hg oO hz.1 hz.2, etO]
 ·rw [Iz hgn h2 (.inl rfl)]
  have hnx : qz (oneW b (mk u p (-1) 0)) (mk u p (-1) 0) (zq b.G p) = (zq b.G p : Nat) := by
   unfold qz
   rw [if_pos (show (mk u p (-1) 0).pos ≠ zg (oneW b (mk u p (-1) 0)).G (zq b.G p) from h1)]
  rw [hnx, if_neg (by omega)]
 ·rw [cO]
  unfold jj
  dsimp only
  omega
theorem cu (k : Int) : 1 <= y8 k := by
 obtain ⟨j, h, _⟩ := Nc k
 omega
theorem zuo {g : Gnd} {ok : Nat -> Bool} {c : Int} {goal t : Nat} (h : 0 <= yl g ok c goal t) : ok goal = true /\ FarOK (y4 g ok c) goal (yl g ok c goal) := by
 unfold yl at h ⊢
 by_cases hok : ok goal = true
 ·rw [if_pos hok] at h ⊢
  by_cases hx : ∃ d, FarOK (y4 g ok c) goal d
  ·rw [dif_pos hx] at h ⊢
   exact ⟨hok, hx.choose_spec⟩
  ·rw [dif_neg hx] at h
   exact absurd h (by decide)
 ·rw [if_neg hok] at h
  exact absurd h (by decide)
/-- Where there is a way it arrives. -/
theorem arrives {b : Wld} (hg : zi b.G) {u : Unt} {goal : Nat} (hgoal : u.goal = (goal : Nat)) (hgl : goal < b.G.T.length) {p : Vc} (hf : qw b.G b.B (zm u.kind) p (zk u.kind))
  (hd : 0 <= yl b.G (okU b u) (zm u.kind) goal (zq b.G p)) : EndsU b (fun v => v.state = 2 /\ v.pos = zg b.G goal) ((b.G.T.length + 2) * y8 u.kind) (mk u p (-1) 0) := by
 obtain ⟨hokg, hF⟩ := zuo hd
 have hb := we hg hf
 have t2 := (wq hg (show (0 <= p.1 /\ p.1 < b.G.W * 65536) /\ (0 <= p.2 /\ p.2 < b.G.H * 65536) by omega)).2.1
 have hok : okU b u (zq b.G p) = true := by
  by_cases e : zq b.G p = goal
  ·rw [e]; exact hokg
  ·obtain ⟨t', k, _, ⟨_, _, _, _, _, h, _⟩, _⟩ := hF.pre _ e hd
   exact h
 have hgt : u.goal.toNat = goal := by omega
 refine EndsU.more (Wv hg (by omega) hf hok (fun q n s _ h => ⟨rfl, by rw [hgt] at h; exact h⟩) (fun n0 hn => path hg hgoal hgl hF (fun q n s h => ⟨rfl, h⟩) b.G.T.length _ (zvz _ _ _) t2 hd n0 0 hn)) ?_
 have := cu u.kind
 rw [Nat.add_mul]
 omega
/-- Where its own tile is not good it stays in it. -/
theorem Lu {g : Gnd} (hg : zi g) {l : List Bld} {k : Int} {p : Vc} (hf : qw g l (zm k) p (zk k)) (hok : zf g l (zm k) (zx k) (zq g p) = false) : zx k = 1 /\ 16384 <= jj p (zg g (zq g p)) /\ 3 <= g.T.length := by
 have hb := we hg hf
 have hin : (0 <= p.1 /\ p.1 < g.W * 65536) /\ (0 <= p.2 /\ p.2 < g.H * 65536) := by omega
 obtain ⟨t1, t2, t3, t4⟩ := wq hg hin
 obtain ⟨⟨s0, s1⟩, hr, hr0, hr1, hr2⟩ := Kv k
 have hhit := zsi hg hin hr0
 obtain ⟨oO, etO⟩ := vy hg t2
 have cO := Fb g (zq g p)
 rw [t3, t4] at cO oO etO
 have hno : ¬ sqP g (z6 g l (zm k)) (zx k).toNat (p.1 / 65536) (p.2 / 65536) := fun h => by
  rw [<- t3, <- t4] at h
  have := sqB_iff.2 h
  unfold zf at hok
  rw [this] at hok
  cases hok
 have hopen : z6 g l (zm k) (tl g (p.1 / 65536) (p.2 / 65536)) = true := by
  rw [etO]
  refine Decidable.byContradiction fun h => hf.2 _ t2 (by simpa using h) hhit
 have hs1 : zx k = 1 := by
  refine Decidable.byContradiction fun h => hno ?_
  have e : (zx k).toNat = 0 := by omega
  rw [e]
  exact sq_zero.2 ⟨oO, hopen⟩
 have hrad := hr2 hs1
 have hbord := hf.1
 rw [hrad] at hbord
 have hga := yw hg
 refine ⟨hs1, ?_, ?_⟩
 ·refine Int.not_lt.1 fun hlt => hno fun a b' h1 h2 h3 h4 => ?_
  have e1 : (((zx k).toNat : Nat) : Int) = 1 := by omega
  rw [e1] at h1 h2 h3 h4
  have ho : onG g (p.1 / 65536 + a) (p.2 / 65536 + b') := by unfold onG; omega
  refine ⟨ho, Decidable.byContradiction fun hcl => ?_⟩
  obtain ⟨_, q2, q3, q4⟩ := j1 hg ho
  have hnh := hf.2 _ q2 (by simpa using hcl)
  apply hnh
  unfold xb tx ty
  rw [cO] at hlt
  unfold jj at hlt
  dsimp only at hlt
  rw [q3, q4, Ko (X := p.1 / 65536) (by omega), Ko (X := p.2 / 65536) (by omega), show p.1 / 65536 + a - p.1 / 65536 = a by omega, show p.2 / 65536 + b' - p.2 / 65536 = b' by omega, hrad]
  have un : ∀ e d : Int, -1 <= e -> e <= 1 -> -16384 < d -> d < 16384 -> 0 <= uO e d /\ uO e d <= 49152 := fun e d q1 q2 q3 q4 => by unfold uO; repeat' split; all_goals omega
  have u1 := un a (p.1 - (p.1 / 65536 * 65536 + 32768)) h1 h2 (by omega) (by omega)
  have u2 := un b' (p.2 - (p.2 / 65536 * 65536 + 32768)) h3 h4 (by omega) (by omega)
  have w1 := jd u1.1 u1.2
  have w2 := jd u2.1 u2.2
  omega
 ·have h3 : 3 <= g.W := by omega
  have := Int.mul_le_mul h3 hg.2.1.1 (by decide) (by omega)
  omega
theorem dh {d a : Int} {k : Nat} (hk : k < 5) (h : shr d (d + a)) : shr d (d + a.tdiv (2 ^ k : Nat)) /\ ((a.tdiv (2 ^ k : Nat)).natAbs = a.natAbs / 2 ^ k) := by
 have e : (a.tdiv (2 ^ k : Nat)).natAbs = a.natAbs / 2 ^ k := by
  rw [Int.natAbs_tdiv]
  rfl
 have hle : a.natAbs / 2 ^ k <= a.natAbs := Nat.div_le_self _ _
 have hsg : (0 <= a -> 0 <= a.tdiv (2 ^ k : Nat)) /\ (a <= 0 -> a.tdiv (2 ^ k : Nat) <= 0) := by
  refine ⟨fun h => Int.tdiv_nonneg h (Int.natCast_nonneg _), fun h => ?_⟩
  have : (-a).tdiv (2 ^ k : Nat) = -(a.tdiv (2 ^ k : Nat)) := Int.neg_tdiv _ _
  have h2 := Int.tdiv_nonneg (a := -a) (b := (2 ^ k : Nat)) (by omega) (Int.natCast_nonneg _)
  omega
 refine ⟨?_, e⟩
 unfold shr at h ⊢
 generalize a.tdiv (2 ^ k : Nat) = x at *
 omega
theorem fe {n k : Nat} (hk : k < 5) : n / 16 <= n / 2 ^ k := by
 have : k = 0 \/ k = 1 \/ k = 2 \/ k = 3 \/ k = 4 := by omega
 rcases this with rfl | rfl | rfl | rfl | rfl <;> simp <;> omega
theorem Ka {d a : Int} (h : shr d (d + a)) : (d + a).natAbs + a.natAbs = d.natAbs := by unfold shr at h; omega
theorem ztr {dx dy x y x' y' M : Int} (s1 : shr dx (dx + x)) (s2 : shr dy (dy + y)) (h1 : shr dx (dx + x')) (h3 : shr dy (dy + y')) (fx : x.natAbs / 16 <= x'.natAbs) (fy : y.natAbs / 16 <= y'.natAbs)
  (hM : ((max dx.natAbs dy.natAbs : Nat) : Int) <= M + 300) (hb : 16384 <= ((max dx.natAbs dy.natAbs : Nat) : Int))
  (e : (dx + x = 0 /\ dy + y = 0) \/ ((max (dx + x).natAbs (dy + y).natAbs : Nat) : Int) + 2 * 8192 / 3 <= ((max dx.natAbs dy.natAbs : Nat) : Int)) : ((max (dx + x').natAbs (dy + y').natAbs : Nat) : Int) <= M := by
 have a1 := Ka s1
 have a2 := Ka s2
 have a3 := Ka h1
 have a4 := Ka h3
 have e2 : ((dx + x).natAbs = 0 /\ (dy + y).natAbs = 0) \/ ((max (dx + x).natAbs (dy + y).natAbs : Nat) : Int) + 2 * 8192 / 3 <= ((max dx.natAbs dy.natAbs : Nat) : Int) := e.imp (fun h => ⟨by rw [h.1]; rfl, by rw [h.2]; rfl⟩) id
 clear e s1 s2 h1 h3
 generalize (dx + x).natAbs = A at *
 generalize (dy + y).natAbs = B at *
 generalize (dx + x').natAbs = A' at *
 generalize (dy + y').natAbs = B' at *
 generalize dx.natAbs = D at *
 generalize dy.natAbs = E at *
 generalize x.natAbs = nx at *
 generalize y.natAbs = ny at *
 generalize x'.natAbs = nx' at *
 generalize y'.natAbs = ny' at *
 omega
theorem Va {p q X : Int} (h : shr (p - (X * 65536 + 32768)) (p + q - (X * 65536 + 32768))) (hp : p / 65536 = X) : (p + q) / 65536 = X := by unfold shr at h; omega
theorem dm {b : Wld} (hg : zi b.G) {u : Unt} (hgn : 0 <= u.goal /\ u.goal.toNat < b.G.T.length) {own : Nat} {P : Unt -> Prop} (hP : ∀ q n s, zq b.G q = own -> P (qu 4 (mk u q n s))) (hok : okU b u own = false) :
  ∀ (j : Nat) (p : Vc) (n0 : Int), zq b.G p = own -> qw b.G b.B (zm u.kind) p (zk u.kind) -> (n0 = -1 \/ n0 = (own : Nat)) -> jj p (zg b.G own) <= 16383 + j * 300 -> EndsU b P (j + 8) (mk u p n0 0) := by
 have hgm : u.goal ≠ -1 := by omega
 -- oneW tick
 have tick : ∀ (p : Vc) (n0 s0 : Int), zq b.G p = own -> qw b.G b.B (zm u.kind) p (zk u.kind) -> (n0 = -1 \/ n0 = (own : Nat)) -> qf (oneW b (mk u p n0 s0)) (mk u p n0 s0) = xk (oneW b (mk u p n0 s0)) (mk u p (own : Nat) s0) := fun p n0 s0 hp hf hn => by
  have hb := we hg hf
  have t2 := (wq hg (show (0 <= p.1 /\ p.1 < b.G.W * 65536) /\ (0 <= p.2 /\ p.2 < b.G.H * 65536) by omega)).2.1
  rw [hp] at t2
  have hcor := (Lu hg (k := u.kind) hf (by rw [hp]; exact hok)).2.1
  rw [hp] at hcor
  have hne : p ≠ zg b.G own := fun e => by
   rw [e] at hcor
   have := Pp (zg b.G own)
   omega
  rw [Iz hgm (fun e => ?_) (hn.imp id fun h => .inr (by rw [h, Int.toNat_natCast]; exact hok)), hp]
  ·have hnx : qz (oneW b (mk u p n0 s0)) (mk u p n0 s0) own = (own : Nat) := by
    unfold qz
    rw [if_pos (show (mk u p n0 s0).pos ≠ zg (oneW b (mk u p n0 s0)).G own from hne)]
   rw [hnx, if_neg (by omega)]
  ·have : zq b.G p = u.goal.toNat := by rw [e]; exact (Ae hg hgn.2).1
   rw [hp] at this
   rw [<- this] at e
   exact hne e
 -- what fails once fails
 have fails : ∀ (p : Vc), zq b.G p = own -> qw b.G b.B (zm u.kind) p (zk u.kind) -> qs (oneW b (mk u p (own : Nat) 0)) (mk u p (own : Nat) 0) (qi (jo p (zg b.G own) (ym u.kind))) 5 0 = none ->
   ∀ (i : Nat) (n0 : Int), i < 8 -> (n0 = -1 \/ n0 = (own : Nat)) -> EndsU b P (i + 1) (mk u p n0 (7 - i : Int)) := fun p hp hf hno i => by
  induction i with
  | zero =>
   intro n0 _ hn
   refine .inr ⟨hgm, ?_⟩
   have e := S5 (b := b) (x := mk u p n0 (7 - (0 : Nat) : Int)) (u := mk u p (own : Nat) (7 - (0 : Nat) : Int)) rfl (by show qs (oneW b (mk u p (own : Nat) 0)) (mk u p (own : Nat) 0) (qi (jo p (zg b.G ((own : Nat) : Int).toNat) (ym u.kind))) 5 0 = none; rw [Int.toNat_natCast]; exact hno)
   rw [if_pos (show (mk u p (own : Nat) (7 - (0 : Nat) : Int)).stuck + 1 = 8 from rfl)] at e
   rw [At ((tick p n0 _ hp hf hn).trans e)]
   exact ⟨rfl, hP _ _ _ hp⟩
  | succ i ih =>
   intro n0 hi hn
   refine .inr ⟨hgm, ?_⟩
   have e := S5 (b := b) (x := mk u p n0 (7 - (i + 1 : Nat) : Int)) (u := mk u p (own : Nat) (7 - (i + 1 : Nat) : Int)) rfl (by show qs (oneW b (mk u p (own : Nat) 0)) (mk u p (own : Nat) 0) (qi (jo p (zg b.G ((own : Nat) : Int).toNat) (ym u.kind))) 5 0 = none; rw [Int.toNat_natCast]; exact hno)
   rw [if_neg (show ¬ (mk u p (own : Nat) (7 - (i + 1 : Nat) : Int)).stuck + 1 = 8 by show ¬ (7 - ((i + 1 : Nat) : Int)) + 1 = 8; omega)] at e
   rw [At ((tick p n0 _ hp hf hn).trans e)]
   have := ih (-1) (by omega) (.inl rfl)
   have e2 : (7 - ((i + 1 : Nat) : Int)) + 1 = 7 - (i : Int) := by omega
   show EndsU b P (i + 1) (mk u p (-1) ((7 - ((i + 1 : Nat) : Int)) + 1))
   rw [e2]
   exact this
 intro j
 induction j with
 | zero =>
  intro p n0 hp hf hn hM
  have := (Lu hg (k := u.kind) hf (by rw [hp]; exact hok)).2.1
  rw [hp] at this
  omega
 | succ i ih =>
  intro p n0 hp hf hn hM
  have hb := we hg hf
  have hin : (0 <= p.1 /\ p.1 < b.G.W * 65536) /\ (0 <= p.2 /\ p.2 < b.G.H * 65536) := by omega
  obtain ⟨t1, t2, t3, t4⟩ := wq hg hin
  obtain ⟨hs1, hcor, _⟩ := Lu hg (k := u.kind) hf (by rw [hp]; exact hok)
  have hspd : ym u.kind = 8192 := by
   unfold zx at hs1
   unfold ym
   split at hs1
   ·rename_i h2; rw [h2]; decide
   ·omega
  obtain ⟨oO, etO⟩ := vy hg t2
  have cO := Fb b.G (zq b.G p)
  rw [t3, t4] at cO oO etO
  rw [hp] at t2 hcor cO etO
  cases htr : qs (oneW b (mk u p (own : Nat) 0)) (mk u p (own : Nat) 0) (qi (jo p (zg b.G own) (ym u.kind))) 5 0 with
  | none => exact (fails p hp hf htr 7 n0 (by decide) hn).more (by omega)
  | some r =>
   obtain ⟨k, q⟩ := r
   obtain ⟨c1, c2, c3⟩ := Fo 5 0 htr
   have hne : p ≠ zg b.G own := fun e => by
    rw [e] at hcor
    have := Pp (zg b.G own)
    omega
   obtain ⟨x, y, e1, e2, e3, e4, e5⟩ := Sn (p := p) (c := zg b.G own) (by unfold yr; omega) (Ae hg t2).2 (m := ym u.kind) (by omega) hne
   rw [hspd] at e5
   have hk : k < 5 := by omega
   dsimp only at c1 c3
   rw [e1, (Al e2).2.1] at c3
   obtain ⟨h1, h2⟩ := dh hk e4.1
   obtain ⟨h3, h4⟩ := dh hk e4.2.1
   have f3 : x.natAbs / 2 ^ k <= x.natAbs := Nat.div_le_self _ _
   have f4 : y.natAbs / 2 ^ k <= y.natAbs := Nat.div_le_self _ _
   have f1 := fe (n := x.natAbs) hk
   have f2 := fe (n := y.natAbs) hk
   have hsx : j4 (x, y) k = (x.tdiv (2 ^ k : Nat), y.tdiv (2 ^ k : Nat)) := rfl
   rw [hsx] at c3
   unfold xe at e2
   dsimp only at e2
   have l1 := I9 e4.1
   have l2 := I9 e4.2.1
   have m1 := I9 h1
   have m2 := I9 h3
   have s1 := e4.1
   have s2 := e4.2.1
   generalize x.tdiv (2 ^ k : Nat) = x' at *
   generalize y.tdiv (2 ^ k : Nat) = y' at *
   generalize x.natAbs / 2 ^ k = nx at *
   generalize y.natAbs / 2 ^ k = ny at *
   have hq : q = (p.1 + x', p.2 + y') := by
    rw [c3]
    unfold qv
    show (yo p.1 x', yo p.2 y') = _
    rw [Bv (by omega) (by omega), Bv (by omega) (by omega)]
   have e6 : qf (oneW b (mk u p n0 0)) (mk u p n0 0) = oneW b (mk u q (own : Nat) 0) := by
    rw [tick p n0 0 hp hf hn]
    refine S1 (b := b) (x := mk u p n0 0) (u := mk u p (own : Nat) 0) rfl (k := k) (q := q) ?_
    show qs (oneW b (mk u p (own : Nat) 0)) (mk u p (own : Nat) 0) (qi (jo p (zg b.G ((own : Nat) : Int).toNat) (ym u.kind))) 5 0 = _
    rw [Int.toNat_natCast]
    exact htr
   rw [show i + 1 + 8 = (i + 8) + 1 by omega]
   refine .inr ⟨hgm, ?_⟩
   rw [At e6]
   have hfq := (P8 b (mk u p (own : Nat) 0) q).1 c1
   refine ih q (own : Nat) ?_ hfq (.inr rfl) ?_
   ·rw [cO] at h1 h3
    dsimp only at h1 h3
    rw [show p.1 - (p.1 / 65536 * 65536 + 32768) + x' = p.1 + x' - (p.1 / 65536 * 65536 + 32768) by omega] at h1
    rw [show p.2 - (p.2 / 65536 * 65536 + 32768) + y' = p.2 + y' - (p.2 / 65536 * 65536 + 32768) by omega] at h3
    rw [He hg oO (by rw [hq]; exact Va h1 rfl) (by rw [hq]; exact Va h3 rfl), etO]
   ·rw [hq]
    unfold jj at hM e5 hcor ⊢
    dsimp only at e5 ⊢
    rw [show p.1 + x' - (zg b.G own).1 = p.1 - (zg b.G own).1 + x' by omega, show p.2 + y' - (zg b.G own).2 = p.2 - (zg b.G own).2 + y' by omega]
    rw [show p.1 + x - (zg b.G own).1 = p.1 - (zg b.G own).1 + x by omega, show p.2 + y - (zg b.G own).2 = p.2 - (zg b.G own).2 + y by omega] at e5
    have e7 : (p.1 - (zg b.G own).1 + x = 0 /\ p.2 - (zg b.G own).2 + y = 0) \/ ((max (p.1 - (zg b.G own).1 + x).natAbs (p.2 - (zg b.G own).2 + y).natAbs : Nat) : Int) + 2 * 8192 / 3 <= ((max (p.1 - (zg b.G own).1).natAbs (p.2 - (zg b.G own).2).natAbs : Nat) : Int) :=
     e5.imp (fun e5 => by
      have q1 := congrArg Prod.fst e5
      have q2 := congrArg Prod.snd e5
      dsimp only at q1 q2
      omega) id
    exact ztr s1 s2 h1 h3 (by omega) (by omega) (by omega) hcor e7
/-- Where there is no way it is lost, or dm up, in its own tile. -/
theorem zri {b : Wld} (hg : zi b.G) {u : Unt} {goal : Nat} (hgoal : u.goal = (goal : Nat)) (hgl : goal < b.G.T.length) {p : Vc} (hf : qw b.G b.B (zm u.kind) p (zk u.kind))
  (hd : yl b.G (okU b u) (zm u.kind) goal (zq b.G p) < 0) : EndsU b (fun v => zq b.G v.pos = zq b.G p /\ (v.state = 3 \/ (v.state = 2 /\ goal = zq b.G p) \/ (v.state = 4 /\ okU b u (zq b.G p) = false))) ((b.G.T.length + 2) * y8 u.kind) (mk u p (-1) 0) := by
 have hb := we hg hf
 have hin : (0 <= p.1 /\ p.1 < b.G.W * 65536) /\ (0 <= p.2 /\ p.2 < b.G.H * 65536) := by omega
 obtain ⟨t1, t2, t3, t4⟩ := wq hg hin
 have hgt : u.goal.toNat = goal := by omega
 have hgn : u.goal ≠ -1 := by omega
 by_cases hok : okU b u (zq b.G p) = true
 ·refine EndsU.more (n := 1 + y8 u.kind) ?_ ?_
  refine Wv hg hgn hf hok (fun q n s hq h => ?_) fun n0 hn => ?_
  ·rw [hgt] at h
   rw [h] at hq
   exact ⟨(by show zq b.G q = _; rw [h]; exact hq), .inr (.inl ⟨rfl, by rw [<- hq]; exact (Ae hg hgl).1.symm⟩)⟩
  ·refine .inr ⟨hgn, ?_⟩
   by_cases hcg : zg b.G (zq b.G p) = zg b.G goal
   ·rw [At (I0 (b := b) (u := mk u (zg b.G (zq b.G p)) n0 0) hgn (by show _ = zg b.G u.goal.toNat; rw [hgt]; exact hcg))]
    exact ⟨rfl, (Ae hg t2).1, .inr (.inl ⟨rfl, (gi hg t2 hgl hcg).symm⟩)⟩
   ·have e := Iz (b := b) (u := u) (p := zg b.G (zq b.G p)) (n0 := n0) (s0 := 0) hgn (by rw [hgt]; exact hcg) (hn.imp id fun h => .inl (by rw [h, Int.toNat_natCast]))
    rw [(Ae hg t2).1] at e
    have hnx : qz (oneW b (mk u (zg b.G (zq b.G p)) n0 0)) (mk u (zg b.G (zq b.G p)) n0 0) (zq b.G p) = -1 := by
     unfold qz
     rw [if_neg (show ¬ (mk u (zg b.G (zq b.G p)) n0 0).pos ≠ zg (oneW b (mk u (zg b.G (zq b.G p)) n0 0)).G (zq b.G p) from fun h => h rfl)]
     show (let way := qb b.G (okU b u) (zm u.kind) (yl b.G (okU b u) (zm u.kind) u.goal.toNat) (zq b.G p); if way < 0 then -1 else zo b.G (zq b.G p) way.toNat) = _
     dsimp only
     have : qb b.G (okU b u) (zm u.kind) (yl b.G (okU b u) (zm u.kind) u.goal.toNat) (zq b.G p) = -1 := by
      unfold qb
      rw [hgt, if_pos (by omega)]
     rw [this, if_pos (by decide)]
    rw [hnx, if_pos (by decide)] at e
    rw [At e]
    exact ⟨rfl, (Ae hg t2).1, .inl rfl⟩
  ·have := cu u.kind
   have h2 : 2 * y8 u.kind <= (b.G.T.length + 2) * y8 u.kind := Nat.mul_le_mul_right _ (by omega)
   omega
 ·have hok2 : okU b u (zq b.G p) = false := by simpa using hok
  obtain ⟨hs1, hcor, h3⟩ := Lu hg (k := u.kind) hf hok2
  have hk : y8 u.kind = 14 := by
   unfold zx at hs1
   split at hs1
   ·rename_i h2; rw [h2]; decide
   ·omega
  have cO := Fb b.G (zq b.G p)
  rw [t3, t4] at cO
  refine EndsU.more (dm hg ⟨by omega, by omega⟩ (own := zq b.G p) (fun q n s hq => ⟨hq, .inr (.inr ⟨rfl, hok2⟩)⟩) hok2 55 p (-1) rfl hf (.inl rfl) ?_) ?_
  ·rw [cO]
   unfold jj
   dsimp only
   omega
  ·rw [hk]
   omega
theorem EndsU.imp {b : Wld} {P Q : Unt -> Prop} (h : ∀ v, P v -> Q v) : ∀ {n : Nat} {u : Unt}, EndsU b P n u -> EndsU b Q n u
 | 0, u, ⟨h1, h2⟩ => ⟨h1, h u h2⟩
 | n + 1, u, .inl ⟨h1, h2⟩ => .inl ⟨h1, h u h2⟩
 | n + 1, u, .inr ⟨h1, h2⟩ => .inr ⟨h1, EndsU.imp h h2⟩
theorem Wz {b : Wld} {u : Unt} (hm : yg (oneW b u)) : u.inn = 0 := by
 refine Decidable.byContradiction fun hn => ?_
 obtain ⟨x, hx, _, ⟨h0, _⟩, _⟩ := hm.2.2 u (List.mem_singleton.2 rfl) hn
 have : x = u := List.mem_singleton.1 hx
 exact hn (this ▸ h0)
theorem zp8 {w : Wld} (hm : yg w) {u : Unt} (hu : u ∈ w.U) (h0 : u.inn = 0) {goal : Nat} (hg : goal < w.G.T.length) : yg (oneW w { u with goal := (goal : Nat), next := -1, stuck := 0, state := 1 }) := by
 obtain ⟨⟨hh, hr, hk⟩, hc, _⟩ := hm
 obtain ⟨hk1, hk2⟩ := hk u hu
 have hga := yw hh.2.1.1
 refine ⟨⟨⟨hh.1, ⟨hh.2.1.1, hh.2.1.2.1, (show 1 <= 4096 by decide)⟩, hh.2.2⟩, fun j hj h1 => ?_, fun x hx => ?_⟩, fun x hx _ => ?_, fun x hx hn => ?_⟩
 ·have : j < 1 := hj
  omega
 ·rw [List.mem_singleton.1 hx]
  refine ⟨⟨hk1.1, ⟨.inr ⟨by show (0 : Int) <= (goal : Nat); omega, by show ((goal : Nat) : Int) < _; show ((goal : Nat) : Int) < w.G.W * w.G.H; omega⟩, .inl rfl, by show (0 : Int) <= 0 /\ (0 : Int) < 8; omega⟩, ⟨by show (0 : Int) <= 1 /\ (1 : Int) <= 4; omega, ?_⟩, fun e => ?_⟩, hk2⟩
  ·show (1 : Int) = 1 ↔ ((goal : Nat) : Int) ≠ -1
   omega
  ·exact absurd (show ((goal : Nat) : Int) = -1 from e) (by omega)
 ·rw [List.mem_singleton.1 hx]
  exact (P8 w { u with goal := (goal : Nat), next := -1, stuck := 0, state := 1 } u.pos).2 (hc u hu h0).1
 ·rw [List.mem_singleton.1 hx] at hn
  exact absurd h0 hn
theorem ow (k : Int) : (98304 : Int).tdiv (ym k) + 2 = (y8 k : Nat) /\ y8 k <= 14 := by
 unfold y8 ym
 by_cases h0 : k = 0
 ·rw [if_pos h0]; decide
 ·rw [if_neg h0]
  by_cases h1 : k = 1
  ·rw [if_pos h1]; decide
  ·rw [if_neg h1]
   by_cases h2 : k = 2
   ·rw [if_pos h2]; decide
   ·rw [if_neg h2]; decide
def atD (d : List Int) (u : Nat) : Int := d.getD u (-1)
def Ll (g : Gnd) (ok : Nat -> Bool) (c : Int) (goal : Nat) (d : List Int) : Bool :=
 decide (d.length = g.T.length) && d.all (fun x => decide (x = -1 \/ 0 <= x)) && decide (atD d goal = 0) &&
 (List.range g.T.length).all (fun u => decide (u = goal) || decide (atD d u < 0) || (ok u && (List.range g.T.length).any fun t => ok t && decide (0 <= atD d t) && (List.range 8).any fun way =>
  decide (zo g t way = u) && decide (0 < yb g ok c t way) && decide (atD d t + yb g ok c t way <= atD d u))) &&
 (List.range g.T.length).all (fun t => decide (atD d t < 0) || !ok t || (List.range 8).all fun way => decide (yb g ok c t way <= 0) ||
  (decide (0 <= atD d (zo g t way).toNat) && decide (atD d (zo g t way).toNat <= atD d t + yb g ok c t way)))
theorem zur {g : Gnd} {ok : Nat -> Bool} {c : Int} {goal : Nat} {d : List Int} (h : Ll g ok c goal d = true) : FarOK (y4 g ok c) goal (atD d) := by
 unfold Ll at h
 simp only [Bool.and_eq_true, decide_eq_true_eq, List.all_eq_true, List.any_eq_true, Bool.or_eq_true, Bool.not_eq_true', List.mem_range] at h
 obtain ⟨⟨⟨⟨h1, h2⟩, h3⟩, h4⟩, h5⟩ := h
 have out : ∀ u, g.T.length <= u -> atD d u = -1 := fun u hu => by
  unfold atD
  rw [List.getD_eq_getElem?_getD, List.getElem?_eq_none (by omega)]
  rfl
 refine ⟨fun u => ?_, h3, fun u hu hl => ?_, fun t u k ht hE => ?_⟩
 ·by_cases hu : u < g.T.length
  ·have hd : u < d.length := by omega
   have : atD d u = d[u] := by unfold atD; rw [List.getD_eq_getElem?_getD, List.getElem?_eq_getElem hd]; rfl
   rw [this]
   exact h2 _ (List.getElem_mem hd)
  ·exact .inl (out u (by omega))
 ·have hun : u < g.T.length := by
   apply Decidable.byContradiction
   intro hx
   rw [out u (by omega)] at hl
   omega
  rcases h4 u hun with (h6 | h6) | ⟨h6, t, htn, ⟨h7, h8⟩, way, hw, ⟨h9, h10⟩, h11⟩
  ·exact absurd h6 hu
  ·omega
  ·exact ⟨t, yb g ok c t way, h8, ⟨h7, htn, way, hw, h9, h6, rfl, h10⟩, h11⟩
 ·obtain ⟨hok, htn, way, hw, hb, hok2, hk, hp⟩ := hE
  rcases h5 t htn with (h6 | h6) | h6
  ·omega
  ·rw [hok] at h6; cases h6
  ·rcases h6 way hw with h7 | ⟨h7, h8⟩
   ·omega
   ·rw [hb, Int.toNat_natCast] at h7 h8
    rw [hk]
    exact ⟨h7, h8⟩
theorem zuq {g : Gnd} {ok : Nat -> Bool} {c : Int} {goal : Nat} (hok : ok goal = true) {d : List Int} (h : Ll g ok c goal d = true) : yl g ok c goal = atD d := Pq hok (zur h)
/-- The next tile, as its costs are told. -/
def bd (w : Wld) (u : Unt) (own : Nat) (d : Nat -> Int) : Int :=
 if u.pos ≠ zg w.G own then own else
  (let way := if d own <= 0 then -1 else match (List.range 8).find? fun way => decide (0 < yb w.G (okU w u) (zm u.kind) own way /\ 0 <= d (zo w.G own way).toNat /\ yb w.G (okU w u) (zm u.kind) own way + d (zo w.G own way).toNat = d own) with
   | some way => (way : Int)
   | none => -1
   if way < 0 then -1 else zo w.G own way.toNat)
def ztp (w : Wld) (u : Unt) (d : Nat -> Int) : Wld :=
 if u.pos = zg w.G u.goal.toNat then z8 w (qu 2 u)
 else if ko w u (zq w.G u.pos) then
  (if bd w u (zq w.G u.pos) d < 0 then z8 w (qu 3 u) else xk w { u with next := bd w u (zq w.G u.pos) d })
 else xk w u
def Sf (w : Wld) (u : Unt) (d : Nat -> Int) : Wld := if u.goal = -1 then w9 w u else ztp w u d
theorem nf {w : Wld} {u : Unt} {d : Nat -> Int} (h : yl w.G (okU w u) (zm u.kind) u.goal.toNat = d) : qf w u = Sf w u d := by
 subst h
 rfl
def wkG : Gnd := ⟨2, 1, [0, 0]⟩
def lu : Wld := { tick := 0, players := 1, next := 2, G := wkG, B := [], U := [{ id := 1, owner := 1, kind := 0, pos := (32768, 32768), goal := 1, next := -1, stuck := 0, inn := 0, state := 1 }] }
def wkD : List Int := [20, 0]
def m8 : Unt := { id := 0, owner := 0, kind := 0, pos := (0, 0), goal := 0, next := 0, stuck := 0, inn := 0, state := 0 }
def vi (w : Wld) : Unt := w.U.headD m8
def wkS : Nat -> Wld
 | 0 => lu
 | n + 1 => Sf (wkS n) (vi (wkS n)) (atD wkD)
theorem Ir : ∀ n, n < 6 -> yg (wkS n) := by decide +kernel
theorem Ca : ∀ n, n < 6 -> (wkS n).U = [vi (wkS n)] /\ (vi (wkS n)).id = 1 /\ (vi (wkS n)).inn = 0 /\ (wkS n).G = wkG /\ (wkS n).B = [] := by decide +kernel
theorem ln : ∀ n, n < 5 -> okU (wkS n) (vi (wkS n)) (vi (wkS n)).goal.toNat = true /\ Ll (wkS n).G (okU (wkS n) (vi (wkS n))) (zm (vi (wkS n)).kind) (vi (wkS n)).goal.toNat wkD = true := by decide +kernel
theorem lp : (vi (wkS 5)).pos = zg wkG 1 /\ (vi (wkS 5)).state = 2 := by decide +kernel
theorem lr : zg wkG 0 = (32768, 32768) := by decide +kernel
theorem lk {n : Nat} (hn : n < 5) : qf (wkS n) (vi (wkS n)) = wkS (n + 1) := by
 obtain ⟨h1, h2⟩ := ln n hn
 exact nf (zuq h1 h2)
theorem Ru : zi wkG := by decide +kernel
/-- An object that is done with is a plain list in a box. -/
theorem AWp.freezeBx {P : Program} {c : Cfg} {code : Code} {Q : Exit -> Fr -> Store -> Prop} {A : Fr} {st : Store} {d j b n cap k : Nat} {l : List AV} {rows : List (List AV)} {pad : List AV}
    (hA : A.bx d = some l) (hl : l[j]? = some (.s (.slice (some ⟨b, 0, none⟩) n cap))) (ho : st.obj b = some (.cells (rows.flatten ++ pad))) (ht : st.tok b = none) (hn : rows.length = n) (hcap : n <= cap)
    (hk : ∀ row ∈ rows, row.length = k) (hall : ∀ row ∈ rows, ∀ x ∈ row, ∃ v, x = AV.s v /\ qg v = true)
    (h : AWp P c code Q (A.setBx d (l.set j (.lst k rows none))) (st.delObj b)) : AWp P c code Q A st := by
  refine ⟨fun Oth M a w ⟨β, sim⟩ => ?_⟩
  have hs : ∀ b' o, ((M b' o /\ b' ≠ b) \/ Oth b' o) -> (M b' o \/ Oth b' o) := fun _ _ h => h.imp (·.1) id
  have hbd : β d ≠ b := sim.sep d b (fun e => by rw [hA] at e; cases e) (.inl (by rw [ho]; simp))
  obtain ⟨hcell, hM⟩ := sim.sto.obj b _ ho
  have sim' : SimB c.N Oth β (A.setBx d (l.set j (.lst k rows none))) (st.delObj b) (fun b' o => M b' o /\ b' ≠ b) a w := by
    refine { tsz := sim.tsz, dfr := sim.dfr.sub fun _ _ h => h.1, tm := fun i => ?_, bx := fun q l' hq => ?_, inj := fun q q' h1 h2 => ?_, sep := fun q b' hq hb' => ?_, sto := ?_ }
    · have h1 := sim.tm i
      show LRel w _ β (A.t i) _
      generalize A.t i = x at h1
      cases x with
      | any => trivial
      | und => exact h1
      | av x => exact VRel.mono hs h1
      | bx k off => exact h1
    · have hq2 : (bif Nat.beq q d then some (l.set j (.lst k rows none)) else A.bx q) = some l' := hq
      clear hq
      cases hb : Nat.beq q d with
      | true =>
        rw [hb] at hq2
        have hqd := (xc _ _).1 hb
        subst hqd
        have hq3 : l.set j (.lst k rows none) = l' := Option.some.inj hq2
        subst hq3
        obtain ⟨⟨cs, e, fr, h1, h2, h3, h4⟩, h5⟩ := sim.bx q l hA
        refine ⟨⟨cs, e, fr, h1, h2, by rw [List.length_set]; exact h3, fun i x y hx hy => ?_⟩, fun o => ⟨h5 o, hbd⟩⟩
        rw [List.getElem?_set] at hx
        by_cases e9 : j = i
        · subst e9
          rw [if_pos rfl] at hx
          have hjl := (List.getElem?_eq_some_iff.1 hl).1
          rw [if_pos hjl] at hx
          have hx := Option.some.inj hx
          subst hx
          have h6 := h4 j _ y hl hy
          cases h6
          exact g7 hcell (fun o hT => hT.elim (fun q => q.2 rfl) (fun q => sim.sto.dis _ _ q (hM o))) hn hcap hk hall
        · rw [if_neg e9] at hx
          exact (h4 i x y hx hy).mono hs
      | false =>
        rw [hb] at hq2
        have hqb : β q ≠ b := sim.sep q b (fun e => by rw [show A.bx q = some l' from hq2] at e; cases e) (.inl (by rw [ho]; simp))
        obtain ⟨⟨cs, e, fr, h1, h2, h3, h4⟩, h5⟩ := sim.bx q l' hq2
        exact ⟨⟨cs, e, fr, h1, h2, h3, fun i x y hx hy => (h4 i x y hx hy).mono hs⟩, fun o => ⟨h5 o, hqb⟩⟩
    · refine sim.inj q q' (fun e => ?_) (fun e => ?_)
      · refine h1 ?_
        show (bif Nat.beq q d then some (l.set j (.lst k rows none)) else A.bx q) = none
        cases hb : Nat.beq q d with
        | true =>
          have := (xc _ _).1 hb
          subst this
          rw [hA] at e; cases e
        | false => exact e
      · refine h2 ?_
        show (bif Nat.beq q' d then some (l.set j (.lst k rows none)) else A.bx q') = none
        cases hb : Nat.beq q' d with
        | true =>
          have := (xc _ _).1 hb
          subst this
          rw [hA] at e; cases e
        | false => exact e
    · refine sim.sep q b' (fun e => ?_) ?_
      · refine hq ?_
        show (bif Nat.beq q d then some (l.set j (.lst k rows none)) else A.bx q) = none
        cases hb : Nat.beq q d with
        | true =>
          have := (xc _ _).1 hb
          subst this
          rw [hA] at e; cases e
        | false => exact e
      · rcases hb' with hb' | hb'
        · cases hx : (st.delObj b).obj b' with
          | none => exact absurd hx hb'
          | some y => exact .inl (by rw [(C9 hx).2]; simp)
        · exact .inr hb'
    · exact { obj := fun b' y hy => ⟨(sim.sto.obj b' y (C9 hy).2).1.mono hs, fun o => ⟨(sim.sto.obj b' y (C9 hy).2).2 o, (C9 hy).1⟩⟩
              tok := fun b' top htk => by
                obtain ⟨c, e, fr, h1, h2, h3, h4⟩ := sim.sto.tok b' top htk
                exact ⟨c, e, fr, h1, h2, h3, fun o ho => ⟨h4 o ho, fun e => by subst e; rw [show st.tok b' = some top from htk] at ht; cases ht⟩⟩
              mlt := fun b' o hm => sim.sto.mlt b' o hm.1, olt := sim.sto.olt, dis := fun b' o ho hm => sim.sto.dis b' o ho hm.1 }
  refine Code.wpF_mono ?_ (h.out Oth _ a w ⟨β, sim'⟩)
  rintro e a' w' ⟨A', st', M', h1, h2, h3⟩
  exact ⟨A', st', M', h1, h2, { size := h3.size, keep := fun b' o hb hm => h3.keep b' o hb fun h => hm h.1, blk := fun b' hb hm => h3.blk b' hb fun o h => hm o h.1, shp := h3.shp, sub := fun b' o hm hb => (h3.sub b' o hm hb).1, tape := h3.tape, os := h3.os, output := h3.output }⟩
end Go.V
