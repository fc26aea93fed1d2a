/- Ground of laws of thronglaw24: contracts and plain lemmas; no condition beyond the row's own. -/
import Derived.Orders
import Derived.Deep.LoopGhost
import Derived.Below
import Derived.Scope
import Derived.Sort.LoopGhostIn
import Derived.OrdersIn
import Derived.TacticsIn
import Derived.Laws.StructEq
import Derived.Laws.Wrap64
import Derived.IntWalk
set_option linter.unusedSimpArgs false
set_option linter.unusedVariables false
set_option linter.defProp false
namespace Go.V
/-- What waits: a key, a value; the order of a queue. -/
def qlt (a b : Int × Int) : Prop := a.1 < b.1 \/ a.1 = b.1 /\ a.2 < b.2
instance (a b : Int × Int) : Decidable (qlt a b) := by unfold qlt; exact inferInstance
theorem Ob (a : Int × Int) : ¬ qlt a a := by unfold qlt; omega
theorem Kh {a b c : Int × Int} (h : ¬ qlt b a) (k : ¬ qlt c b) : ¬ qlt c a := by unfold qlt at *; omega
theorem Ki {a b : Int × Int} (h : qlt a b) : ¬ qlt b a := by unfold qlt at *; omega
theorem Wj {a b : Int × Int} (h : ¬ qlt b a) : a.1 <= b.1 := by unfold qlt at *; omega
def par (j : Nat) : Nat := (j - 1) / 2
def Cj (f : Nat -> Int × Int) (i k : Nat) : Nat -> Int × Int := fun j => if j = k then f i else if j = i then f k else f j
def Fg (f : Nat -> Int × Int) (n : Nat) : Prop := ∀ j, 0 < j -> j < n -> ¬ qlt (f j) (f (par j))
/-- A heap, but maybe i is too little. -/
def UpF (f : Nat -> Int × Int) (n i : Nat) : Prop := (∀ j, 0 < j -> j < n -> j ≠ i -> ¬ qlt (f j) (f (par j))) /\ ∀ j, 0 < j -> j < n -> par j = i -> 0 < i -> ¬ qlt (f j) (f (par i))
/-- A heap, but maybe i is too great. -/
def Bz (f : Nat -> Int × Int) (n i : Nat) : Prop := (∀ j, 0 < j -> j < n -> par j ≠ i -> ¬ qlt (f j) (f (par j))) /\ ∀ j, 0 < j -> j < n -> par j = i -> 0 < i -> ¬ qlt (f j) (f (par i))
theorem vh {j : Nat} (h : 0 < j) : par j < j := by unfold par; omega
theorem m3 {f : Nat -> Int × Int} {n i : Nat} (h : UpF f n i) (hi : i = 0 \/ ¬ qlt (f i) (f (par i))) : Fg f n := by
 intro j h0 hj
 by_cases e : j = i
 ·grind
 ·exact h.1 j h0 hj e
theorem mz {f : Nat -> Int × Int} {n : Nat} (h : Fg f n) : UpF f (n + 1) n :=
 ⟨fun j h0 hj hn => h j h0 (by omega), fun j h0 hj hp h1 => by have := vh h0; omega⟩
theorem my {f : Nat -> Int × Int} {n i : Nat} (h : UpF f n i) (h0 : 0 < i) (hi : i < n) (hl : qlt (f i) (f (par i))) : UpF (Cj f i (par i)) n (par i) := by
 have hp := vh h0
 refine ⟨fun j j0 jn jp => ?_, fun j j0 jn jp p0 => ?_⟩
 ·unfold Cj
  rw [if_neg jp]
  by_cases e : j = i
  ·simp_all[Ki]
  ·rw [if_neg e]
   by_cases e2 : par j = par i
   ·rw [if_pos e2]
    have h1 := h.1 j j0 jn e
    grind[Kh,Ki]
   ·rw [if_neg e2]
    by_cases e3 : par j = i
    ·rw [if_pos e3]
     exact h.2 j j0 jn e3 h0
    ·rw [if_neg e3]
     exact h.1 j j0 jn e
 ·have hpp := vh p0
  unfold Cj
  rw [if_neg (show ¬ par (par i) = par i by omega), if_neg (show ¬ par (par i) = i by omega)]
  have h1 := h.1 (par i) p0 (by omega) (by omega)
  by_cases e : j = i
  ·grind
  ·have hjp : j ≠ par i := by grind
   rw [if_neg hjp, if_neg e]
   have h2 := h.1 j j0 jn e
   grind[Kh]
theorem fb {f : Nat -> Int × Int} {n i : Nat} (h : Bz f n i) (hc : ∀ j, 0 < j -> j < n -> par j = i -> ¬ qlt (f j) (f i)) : Fg f n := by
 intro j h0 hj
 by_cases e : par j = i
 ·grind
 ·exact h.1 j h0 hj e
theorem zu0 {f : Nat -> Int × Int} {n i k : Nat} (h : Bz f n i) (hk0 : 0 < k) (hk : k < n) (hki : par k = i) (hmin : ∀ j, 0 < j -> j < n -> par j = i -> ¬ qlt (f j) (f k)) (hl : qlt (f k) (f i)) : Bz (Cj f i k) n k := by
 have hik : i < k := hki ▸ vh hk0
 refine ⟨fun j j0 jn jp => ?_, fun j j0 jn jp _ => ?_⟩
 ·unfold Cj
  rw [if_neg jp]
  by_cases e : j = k
  ·simp_all[Ki]
  ·rw [if_neg e]
   by_cases e2 : j = i
   ·subst e2
    have hpj : par j ≠ j := by have := vh j0; omega
    rw [if_pos rfl, if_neg hpj]
    exact h.2 k hk0 hk hki j0
   ·rw [if_neg e2]
    by_cases e3 : par j = i
    ·grind
    ·rw [if_neg e3]
     exact h.1 j j0 jn e3
 ·have hjk : k < j := jp ▸ vh j0
  unfold Cj
  rw [if_neg (show ¬ j = k by omega), if_neg (show ¬ j = i by omega), hki, if_neg (show ¬ i = k by omega), if_pos rfl]
  have h1 := h.1 j j0 jn (by omega)
  grind
theorem zsk {f : Nat -> Int × Int} {n : Nat} (h : Fg f n) : ∀ j, j < n -> ¬ qlt (f j) (f 0) := by
 intro j
 induction j using Nat.strongRecOn with
 | _ j ih =>
  intro hj
  by_cases e : j = 0
  ·subst e; exact Ob _
  ·have hp := vh (Nat.pos_of_ne_zero e)
   exact Kh (ih _ hp (by omega)) (h j (by omega) hj)
/-- The children. -/
theorem Ht {i j : Nat} (h : 0 < j) : par j = i ↔ j = 2 * i + 1 \/ j = 2 * i + 2 := by unfold par; omega
/-- Lists. -/
def qat (l : List (Int × Int)) (j : Nat) : Int × Int := l.getD j (0, 0)
def x9 (l : List (Int × Int)) : Prop := Fg (qat l) l.length
def xz (l : List (Int × Int)) (i k : Nat) : List (Int × Int) := (l.set i (qat l k)).set k (qat l i)
theorem Fq (l : List (Int × Int)) (i k : Nat) : (xz l i k).length = l.length := by simp [xz]
theorem Kj {l : List (Int × Int)} {j : Nat} (h : j < l.length) : qat l j = l[j] := by grind[qat]
theorem zpa {l : List (Int × Int)} {i : Nat} (h : i < l.length) (x : Int × Int) (j : Nat) : qat (l.set i x) j = if j = i then x else qat l j := by
 unfold qat
 grind
theorem Wk {l : List (Int × Int)} {i k : Nat} (hi : i < l.length) (hk : k < l.length) : qat (xz l i k) = Cj (qat l) i k := by grind[xz,Cj,zpa]
theorem Sy {l : List (Int × Int)} {i k : Nat} (hi : i < l.length) (hk : k < l.length) : (xz l i k).Perm l := by grind[xz,Kj]
theorem Wl (l : List (Int × Int)) (x : Int × Int) (j : Nat) (h : j < l.length) : qat (l ++ [x]) j = qat l j := by grind[qat]
/-- What each node costs: E t u c: a step from t to u costs c. -/
structure FarOK (E : Nat -> Nat -> Int -> Prop) (goal : Nat) (d : Nat -> Int) : Prop where
 lab : ∀ u, d u = -1 \/ 0 <= d u
 gl : d goal = 0
 pre : ∀ u, u ≠ goal -> 0 <= d u -> ∃ t c, 0 <= d t /\ E t u c /\ d t + c <= d u
 rel : ∀ t u c, 0 <= d t -> E t u c -> 0 <= d u /\ d u <= d t + c
theorem Lk {E : Nat -> Nat -> Int -> Prop} {goal : Nat} (hE : ∀ t u c, E t u c -> 0 < c) {d e : Nat -> Int} (h : FarOK E goal d) (k : FarOK E goal e) : ∀ (n : Nat) (u : Nat), 0 <= e u -> (e u).toNat = n -> 0 <= d u /\ d u <= e u := by
 intro n
 induction n using Nat.strongRecOn with
 | _ n ih =>
  intro u hu hn
  by_cases hg : u = goal
  ·subst hg
   have h1 := h.gl
   omega
  ·obtain ⟨t, c, ht, hE1, hc⟩ := k.pre u hg hu
   have hp := hE _ _ _ hE1
   obtain ⟨h1, h2⟩ := ih (e t).toNat (by omega) t ht rfl
   obtain ⟨h3, h4⟩ := h.rel t u c h1 hE1
   omega
/-- There is one answer. -/
theorem zun {E : Nat -> Nat -> Int -> Prop} {goal : Nat} (hE : ∀ t u c, E t u c -> 0 < c) {d e : Nat -> Int} (h : FarOK E goal d) (k : FarOK E goal e) : d = e := by
 funext u
 rcases h.lab u with h1 | h1
 ·rcases k.lab u with h2 | h2
  ·omega
  ·have := Lk hE h k _ u h2 rfl
   omega
 ·rcases k.lab u with h2 | h2
  ·have := Lk hE k h _ u h1 rfl
   omega
  ·have h3 := Lk hE h k _ u h2 rfl
   have h4 := Lk hE k h _ u h1 rfl
   omega
def zt {α : Type} (d : Nat -> α) (u : Nat) (x : α) : Nat -> α := fun j => if j = u then x else d j
theorem xj {α : Type} (d : Nat -> α) (u : Nat) (x : α) : zt d u x u = x := by simp [zt]
theorem qn {α : Type} {d : Nat -> α} {u j : Nat} {x : α} (h : j ≠ u) : zt d u x j = d j := by simp [zt, h]
/-- The least one first: O: the steps of the one at hand that are not looked at yet. -/
structure DJ (E : Nat -> Nat -> Int -> Prop) (n goal : Nat) (d : Nat -> Int) (dn : Nat -> Bool) (q : List (Int × Int)) (cur : Int) (O : Nat -> Nat -> Int -> Prop) : Prop where
 lab : ∀ u, d u = -1 \/ 0 <= d u
 gl : d goal = 0
 pre : ∀ u, u ≠ goal -> 0 <= d u -> ∃ t c, dn t = true /\ 0 <= d t /\ E t u c /\ d t + c <= d u
 rel : ∀ t u c, dn t = true -> E t u c -> ¬ O t u c -> 0 <= d u /\ d u <= d t + c
 mono : ∀ t, dn t = true -> 0 <= d t /\ d t <= cur
 ent : ∀ e ∈ q, ∃ u : Nat, e.2 = (u : Int) /\ u < n /\ 0 <= d u /\ d u <= e.1 /\ cur <= e.1
 wait : ∀ u, 0 <= d u -> dn u = false -> (d u, (u : Int)) ∈ q
def vz : Nat -> Nat -> Int -> Prop := fun _ _ _ => False
theorem zu4 (E : Nat -> Nat -> Int -> Prop) {n goal : Nat} (hg : goal < n) {d : Nat -> Int} (hd : ∀ u, d u = if u = goal then 0 else -1) : DJ E n goal d (fun _ => false) [(0, (goal : Int))] 0 vz := by
 refine ⟨fun u => ?_, by simp [hd], fun u hu h => ?_, fun t u c h => ?_, fun t h => ?_, fun e he => ?_, fun u h _ => ?_⟩
 ·grind
 ·grind
 ·cases h
 ·cases h
 ·grind
 grind
/-- One that is done already is taken out. -/
theorem zu2 {E : Nat -> Nat -> Int -> Prop} {n goal : Nat} {d : Nat -> Int} {dn : Nat -> Bool} {q q' : List (Int × Int)} {cur : Int} (h : DJ E n goal d dn q cur vz) {x : Int × Int} {t : Nat} (ht : x.2 = (t : Int)) (hp : q.Perm (x :: q')) (hd : dn t = true) : DJ E n goal d dn q' cur vz := by
 refine ⟨h.lab, h.gl, h.pre, h.rel, h.mono, fun e he => h.ent e (hp.mem_iff.2 (List.mem_cons_of_mem _ he)), fun u hu hn => ?_⟩
 rcases List.mem_cons.1 (hp.mem_iff.1 (h.wait u hu hn)) with he | he
 ·grind
 omega
/-- One is taken out that is not done: its key is its cost. -/
theorem zu1 {E : Nat -> Nat -> Int -> Prop} {n goal : Nat} {d : Nat -> Int} {dn : Nat -> Bool} {q q' : List (Int × Int)} {cur : Int} (h : DJ E n goal d dn q cur vz) {x : Int × Int} {t : Nat} (ht : x.2 = (t : Int)) (hp : q.Perm (x :: q')) (hm : ∀ e ∈ q, ¬ qlt e x) (hd : dn t = false) :
  x.1 = d t /\ DJ E n goal d (zt dn t true) q' x.1 (fun a _ _ => a = t) := by
 have hx : x ∈ q := hp.mem_iff.2 List.mem_cons_self
 obtain ⟨u, hu, hun, hu0, hux, huc⟩ := h.ent x hx
 have : u = t := by omega
 subst this
 have hk : x.1 = d u := by
  have := Wj (hm _ (h.wait u hu0 hd))
  omega
 refine ⟨hk, h.lab, h.gl, fun v hv hl => ?_, fun a b c ha hE hO => ?_, fun a ha => ?_, fun e he => ?_, fun v hv hn => ?_⟩
 ·obtain ⟨a, c, h1, h2, h3, h4⟩ := h.pre v hv hl
  grind[zt]
 ·rw [qn hO] at ha
  exact h.rel a b c ha hE (fun h => h)
 ·unfold zt at ha
  split at ha
  ·grind
  ·have := h.mono a ha
   omega
 ·have he2 := hp.mem_iff.2 (List.mem_cons_of_mem x he)
  obtain ⟨v, h1, h2, h3, h4, h5⟩ := h.ent e he2
  exact ⟨v, h1, h2, h3, h4, Wj (hm e he2)⟩
 ·unfold zt at hn
  split at hn
  ·cases hn
  ·rename_i hne
   rcases List.mem_cons.1 (hp.mem_iff.1 (h.wait v hv hn)) with he | he
   ·grind
   omega
/-- A step that need not be noted. -/
theorem Px {E : Nat -> Nat -> Int -> Prop} {n goal : Nat} {d : Nat -> Int} {dn : Nat -> Bool} {q : List (Int × Int)} {cur : Int} {O O' : Nat -> Nat -> Int -> Prop} (h : DJ E n goal d dn q cur O)
  (ho : ∀ t u c, O t u c -> ¬ O' t u c -> E t u c -> 0 <= d u /\ d u <= d t + c) : DJ E n goal d dn q cur O' :=
 ⟨h.lab, h.gl, h.pre, fun t u c ht hE hO => by
  by_cases e : O t u c
  ·grind
  ·exact h.rel t u c ht hE e, h.mono, h.ent, h.wait⟩
/-- A step that is noted. -/
theorem fc {E : Nat -> Nat -> Int -> Prop} (hE : ∀ t u c, E t u c -> 0 < c) {n goal : Nat} {d : Nat -> Int} {dn : Nat -> Bool} {q q' : List (Int × Int)} {cur : Int} {O : Nat -> Nat -> Int -> Prop} (h : DJ E n goal d dn q cur O) {t u : Nat} {c : Int} (ht : dn t = true) (htc : d t = cur) (hu : u < n) (hEu : E t u c) (hd : dn u = false) (hl : d u < 0 \/ cur + c < d u)
  (hq : q'.Perm ((cur + c, (u : Int)) :: q)) : DJ E n goal (zt d u (cur + c)) dn q' cur O := by
 have hc := hE _ _ _ hEu
 have hcur : 0 <= cur := by have := h.mono t ht; omega
 have htu : t ≠ u := fun e => by grind
 have hdn : ∀ a, dn a = true -> a ≠ u := fun a ha e => by grind
 have hgu : goal ≠ u := fun e => by subst e; have := h.gl; omega
 refine ⟨fun v => ?_, by rw [qn hgu]; exact h.gl, fun v hv hl2 => ?_, fun a b k ha hE2 hO => ?_, fun a ha => ?_, fun e he => ?_, fun v hv hn => ?_⟩
 ·unfold zt; split
  ·omega
  ·exact h.lab v
 ·by_cases e : v = u
  ·grind[qn,xj]
  ·rw [qn e] at hl2 ⊢
   obtain ⟨a, k, h1, h2, h3, h4⟩ := h.pre v hv hl2
   grind[qn]
 ·rw [qn (hdn a ha)]
  obtain ⟨h1, h2⟩ := h.rel a b k ha hE2 hO
  grind[xj,qn]
 ·rw [qn (hdn a ha)]; exact h.mono a ha
 ·rcases List.mem_cons.1 (hq.mem_iff.1 he) with e1 | e1
  ·subst e1
   exact ⟨u, rfl, hu, by rw [xj]; omega, by rw [xj]; simp, by omega⟩
  ·obtain ⟨v, h1, h2, h3, h4, h5⟩ := h.ent e e1
   grind[xj,qn]
 ·by_cases e : v = u
  ·grind[xj]
  ·rw [qn e] at hv ⊢
   exact hq.mem_iff.2 (List.mem_cons_of_mem _ (h.wait v hv hn))
/-- Nobody waits: that is the answer. -/
theorem zu5 {E : Nat -> Nat -> Int -> Prop} {n goal : Nat} {d : Nat -> Int} {dn : Nat -> Bool} {cur : Int} (h : DJ E n goal d dn [] cur vz) : FarOK E goal d := by
 have hdn : ∀ u, 0 <= d u -> dn u = true := fun u hu => by
  cases hb : dn u with
  | true => rfl
  | false => exact absurd (h.wait u hu hb) (by simp)
 exact ⟨h.lab, h.gl, fun u hu hl => by obtain ⟨t, c, _, h2, h3, h4⟩ := h.pre u hu hl; grind, fun t u c ht hE => h.rel t u c (hdn t ht) hE (fun h => h)⟩
/-- One behind the other: W: who waits. -/
structure SP (E : Nat -> Nat -> Int -> Prop) (goal : Nat) (d : Nat -> Int) (W : Nat -> Bool) (O : Nat -> Nat -> Int -> Prop) : Prop where
 lab : ∀ u, d u = -1 \/ 0 <= d u
 gl : d goal = 0
 pre : ∀ u, u ≠ goal -> 0 <= d u -> ∃ t c, 0 <= d t /\ E t u c /\ d t + c <= d u
 rel : ∀ t u c, 0 <= d t -> W t = false -> E t u c -> ¬ O t u c -> 0 <= d u /\ d u <= d t + c
 wl : ∀ t, W t = true -> 0 <= d t
theorem zki (E : Nat -> Nat -> Int -> Prop) {goal : Nat} {d : Nat -> Int} (hd : ∀ u, d u = if u = goal then 0 else -1) {W : Nat -> Bool} (hW : ∀ u, W u = decide (u = goal)) : SP E goal d W vz := by
 refine ⟨fun u => ?_, by simp [hd], fun u hu h => ?_, fun t u c h hw => ?_, fun t h => ?_⟩
 ·grind
 ·grind
 ·grind
 grind
/-- One is taken. -/
theorem zkg {E : Nat -> Nat -> Int -> Prop} {goal : Nat} {d : Nat -> Int} {W : Nat -> Bool} (h : SP E goal d W vz) (t : Nat) : SP E goal d (zt W t false) (fun a _ _ => a = t) :=
 ⟨h.lab, h.gl, h.pre, fun a u c ha hw hE hO => by
  rw [qn hO] at hw
  exact h.rel a u c ha hw hE (fun h => h), fun a ha => by
  unfold zt at ha
  split at ha
  ·cases ha
  ·exact h.wl a ha⟩
theorem Nq {E : Nat -> Nat -> Int -> Prop} {goal : Nat} {d : Nat -> Int} {W : Nat -> Bool} {O O' : Nat -> Nat -> Int -> Prop} (h : SP E goal d W O) (ho : ∀ t u c, O t u c -> ¬ O' t u c -> E t u c -> 0 <= d u /\ d u <= d t + c) : SP E goal d W O' :=
 ⟨h.lab, h.gl, h.pre, fun t u c ht hw hE hO => by
  by_cases e : O t u c
  ·grind
  ·exact h.rel t u c ht hw hE e, h.wl⟩
theorem zkh {E : Nat -> Nat -> Int -> Prop} (hE : ∀ t u c, E t u c -> 0 < c) {goal : Nat} {d : Nat -> Int} {W : Nat -> Bool} {O : Nat -> Nat -> Int -> Prop} (h : SP E goal d W O) {t u : Nat} {c : Int} (ht : 0 <= d t) (htu : t ≠ u) (hEu : E t u c) (hl : d u < 0 \/ d t + c < d u) : SP E goal (zt d u (d t + c)) (zt W u true) O := by
 have hc := hE _ _ _ hEu
 have hgu : goal ≠ u := fun e => by subst e; have := h.gl; omega
 have low : ∀ v, 0 <= d v -> 0 <= zt d u (d t + c) v /\ zt d u (d t + c) v <= d v := fun v hv => by grind[zt]
 refine ⟨fun v => ?_, by rw [qn hgu]; exact h.gl, fun v hv hl2 => ?_, fun a b k ha hw hE2 hO => ?_, fun a ha => ?_⟩
 ·unfold zt; split
  ·omega
  ·exact h.lab v
 ·by_cases e : v = u
  ·subst e
   exact ⟨t, c, by grind, hEu, by simp_all[xj]⟩
  ·rw [qn e] at hl2 ⊢
   obtain ⟨a, k, h2, h3, h4⟩ := h.pre v hv hl2
   grind
 ·by_cases e : a = u
  ·subst e; rw [xj] at hw; cases hw
  ·rw [qn e] at ha hw ⊢
   obtain ⟨h1, h2⟩ := h.rel a b k ha hw hE2 hO
   grind
 ·by_cases e : a = u
  ·subst e; rw [xj]; omega
  ·rw [qn e] at ha ⊢; exact h.wl a ha
theorem zkj {E : Nat -> Nat -> Int -> Prop} {goal : Nat} {d : Nat -> Int} {W : Nat -> Bool} (h : SP E goal d W vz) (hw : ∀ u, W u = false) : FarOK E goal d :=
 ⟨h.lab, h.gl, h.pre, fun t u c ht hE => h.rel t u c ht (hw t) hE (fun h => h)⟩
theorem Tv : True := trivial
/-- Abstract values: what a value says, lists for slices. -/
inductive AV where
  | any
  | s (v : Value)
  | agg (cs : List AV)
  | tup (vs : List AV)
  | lst (k : Nat) (rows : List (List AV)) (tok : Option Nat)
  | cp (cells : List AV)
  | emp
  | clos (f : FuncId) (cap : List AV)
  deriving Inhabited
/-- A value that one cell holds. -/
def qg : Value -> Bool
  | .agg _ => false
  | .tuple _ => false
  | _ => true
/-- 'v' reads as 'x' in the world 'w', by cells that are not in 'T'. -/
inductive VRel (w : World) (T : Nat -> Nat -> Prop) : AV -> Value -> Prop
  | any (v : Value) : VRel w T .any v
  | s (v : Value) : VRel w T (.s v) v
  | agg (cs : List AV) (c : Array Value) (hl : cs.length = c.size) (h : ∀ (i : Nat) (x : AV) (y : Value), cs[i]? = some x -> c[i]? = some y -> VRel w T x y) : VRel w T (.agg cs) (.agg c)
  | tup (cs : List AV) (c : Array Value) (hl : cs.length = c.size) (h : ∀ (i : Nat) (x : AV) (y : Value), cs[i]? = some x -> c[i]? = some y -> VRel w T x y) : VRel w T (.tup cs) (.tuple c)
  | emp (a : Option Addr) (h : ∀ x, a = some x -> x.spot = none) : VRel w T .emp (.slice a 0 0)
  | nil (k : Nat) (a : Option Addr) : VRel w T (.lst k [] none) (.slice a 0 0)
  | lst (rows : List (List AV)) (tok : Option Nat) (b off cap k : Nat) (c : Nat -> Value) (hcap : rows.length <= cap)
      (hk : ∀ (i : Nat) (row : List AV), rows[i]? = some row -> row.length = k)
      (htok : ∀ t, tok = some t -> t = b /\ off = 0 /\ rows ≠ [] /\ ∃ c e fr, w.heap[b]? = some (.cells c e fr) /\ cap * k <= c.size)
      (hc : ∀ (i : Nat) (row : List AV) (j : Nat) (x : AV), rows[i]? = some row -> row[j]? = some x -> w.cell? ⟨b, off + (i * k + j), none⟩ = some (c (i * k + j)) /\ ¬ T b (off + (i * k + j)))
      (h1 : ∀ (i : Nat) (row : List AV) (j : Nat) (x : AV), rows[i]? = some row -> row[j]? = some x -> qg (c (i * k + j)) = true)
      (hx : ∀ (i : Nat) (row : List AV) (j : Nat) (x : AV), rows[i]? = some row -> row[j]? = some x -> VRel w T x (c (i * k + j))) :
      VRel w T (.lst k rows tok) (.slice (some ⟨b, off, none⟩) rows.length cap)
  | cp (cells : List AV) (b off : Nat) (c : Nat -> Value)
      (hc : ∀ (j : Nat) (x : AV), cells[j]? = some x -> w.cell? ⟨b, off + j, none⟩ = some (c j) /\ ¬ T b (off + j))
      (hx : ∀ (j : Nat) (x : AV), cells[j]? = some x -> VRel w T x (c j)) :
      VRel w T (.cp cells) (.pointer (some ⟨b, off, none⟩))
  | clos (f : FuncId) (cs : List AV) (c : Array Value) (hl : cs.length = c.size) (h : ∀ (i : Nat) (x : AV) (y : Value), cs[i]? = some x -> c[i]? = some y -> VRel w T x y) : VRel w T (.clos f cs) (.func (.func f) #[] c)
/-- What was there and is not in 'T' reads as before. -/
structure Keeps (w : World) (T : Nat -> Nat -> Prop) (w' : World) (T' : Nat -> Nat -> Prop) : Prop where
  cell : ∀ b o c, w.cell? ⟨b, o, none⟩ = some c -> ¬ T b o -> w'.cell? ⟨b, o, none⟩ = some c
  out : ∀ b o c, w.cell? ⟨b, o, none⟩ = some c -> ¬ T b o -> ¬ T' b o
  shp : ∀ (b : Nat) c e fr, w.heap[b]? = some (.cells c e fr) -> ∃ c' fr', w'.heap[b]? = some (.cells c' e fr') /\ c'.size = c.size
theorem VRel.keep {w w' : World} {T T' : Nat -> Nat -> Prop} (hk : Keeps w T w' T') {x : AV} {v : Value} (h : VRel w T x v) : VRel w' T' x v := by
  induction h with
  | any v => exact .any v
  | s v => exact .s v
  | agg cs c hl _ ih => exact .agg cs c hl ih
  | tup cs c hl _ ih => exact .tup cs c hl ih
  | emp a h => exact .emp a h
  | nil k a => exact .nil k a
  | lst rows tok b off cap k c hcap hkk htok hc h1 _ ih =>
    refine .lst rows tok b off cap k c hcap hkk (fun t ht => ?_) (fun i row j x h1 h2 => ?_) h1 ih
    · obtain ⟨h1, h2, h3, c, e, fr, h4, h5⟩ := htok t ht
      obtain ⟨c', fr', h6, h7⟩ := hk.shp _ _ _ _ h4
      grind
    · obtain ⟨h3, h4⟩ := hc i row j x h1 h2
      exact ⟨hk.cell _ _ _ h3 h4, hk.out _ _ _ h3 h4⟩
  | cp cells b off c hc _ ih =>
    refine .cp cells b off c (fun j x h1 => ?_) ih
    obtain ⟨h3, h4⟩ := hc j x h1
    exact ⟨hk.cell _ _ _ h3 h4, hk.out _ _ _ h3 h4⟩
  | clos f cs c hl _ ih => exact .clos f cs c hl ih
theorem VRel.mono {w : World} {T T' : Nat -> Nat -> Prop} (hs : ∀ b o, T' b o -> T b o) {x : AV} {v : Value} (h : VRel w T x v) : VRel w T' x v :=
  h.keep ⟨fun _ _ _ h _ => h, fun _ _ _ _ h h' => h (hs _ _ h'), fun _ _ _ _ h => ⟨_, _, h, rfl⟩⟩
/-- One abstract value says less than another one. -/
def AV.le (x y : AV) : Prop := ∀ w T v, VRel w T x v -> VRel w T y v
theorem AV.le_refl (x : AV) : AV.le x x := fun _ _ _ h => h
theorem AV.le_trans {x y z : AV} (h : AV.le x y) (h' : AV.le y z) : AV.le x z := fun w T v k => h' w T v (h w T v k)
theorem AV.le_any (x : AV) : AV.le x .any := fun _ _ v _ => .any v
theorem AV.le_tok (k : Nat) (rows : List (List AV)) (tok : Option Nat) : AV.le (.lst k rows tok) (.lst k rows none) := by
  intro w T v h
  cases h with
  | nil _ a => exact .nil k a
  | lst _ _ b off cap _ c hcap hk htok hc h1 hx => exact .lst rows none b off cap k c hcap hk (fun _ h => by cases h) hc h1 hx
theorem AV.le_nil (k : Nat) : AV.le (.s (.slice none 0 0)) (.lst k [] none) := by
  intro w T v h
  cases h
  exact .nil k none
theorem AV.le_agg {cs ds : List AV} (hl : cs.length = ds.length) (h : ∀ (i : Nat) (x y : AV), cs[i]? = some x -> ds[i]? = some y -> AV.le x y) : AV.le (.agg cs) (.agg ds) := by
  intro w T v hv
  cases hv with
  | agg _ c hl' hc =>
    refine .agg ds c (by omega) fun i x y hx hy => ?_
    have hi : i < cs.length := by grind
    exact h i cs[i] x (List.getElem?_eq_getElem hi) hx w T y (hc i _ _ (List.getElem?_eq_getElem hi) hy)
inductive AObj where
  | cells (l : List AV)
  | map (es : List (AV × AV)) (bs : List Nat) (clock : Nat)
  | iter (m : Nat) (since : Nat) (seen : List Nat) (last : Nat)
  | ghost (o : Obj) (gh : List (AV × Value))
structure Store where
  obj : Nat -> Option AObj
  tok : Nat -> Option Nat
def Store.empty : Store := ⟨fun _ => none, fun _ => none⟩
def Store.setObj (st : Store) (b : Nat) (x : AObj) : Store := { st with obj := fun i => bif Nat.beq i b then some x else st.obj i }
def Store.setTok (st : Store) (b : Nat) (x : Option Nat) : Store := { st with tok := fun i => bif Nat.beq i b then x else st.tok i }
/-- 'st' has all that 'st'' has. -/
structure Store.Has (st st' : Store) : Prop where
  obj : ∀ b x, st'.obj b = some x -> st.obj b = some x
  tok : ∀ b x, st'.tok b = some x -> st.tok b = some x
theorem Store.Has.refl (st : Store) : st.Has st := ⟨fun _ _ h => h, fun _ _ h => h⟩
theorem Store.Has.trans {a b c : Store} (h : a.Has b) (h' : b.Has c) : a.Has c := ⟨fun _ _ k => h.obj _ _ (h'.obj _ _ k), fun _ _ k => h.tok _ _ (h'.tok _ _ k)⟩
/-- A frozen range that no cell of a block of 'n' cells lies in. -/
def wj (fr : Nat × Nat) (n : Nat) : Prop := fr.2 = fr.1 \/ n <= fr.1
/-- A block of cells that read as 'l'. -/
def CellsRel (w : World) (T : Nat -> Nat -> Prop) (l : List AV) (b : Nat) : Prop :=
  ∃ c e fr, w.heap[b]? = some (.cells c e fr) /\ fr.2 = fr.1 /\ l.length = c.size ∧
    ∀ (i : Nat) (x : AV) (y : Value), l[i]? = some x -> c[i]? = some y -> VRel w T x y
/-- The entries, their stamps (they rise), the map's clock. -/
def zx0 (w : World) (T : Nat -> Nat -> Prop) (es : List (AV × AV)) (bs : List Nat) (clock : Nat) (b : Nat) : Prop :=
  ∃ ms : Array MapEntry, w.heap[b]? = some (.map ms clock) /\ es.length = ms.size ∧
    (∀ (i : Nat) (x : AV × AV) (y : MapEntry), es[i]? = some x -> ms[i]? = some y -> VRel w T x.1 y.key /\ VRel w T x.2 y.val) ∧
    bs = ms.toList.map (·.born) /\ (∀ t ∈ bs, t < clock) /\ bs.Pairwise (· < ·)
def zqi : Obj -> Bool
  | .cells .. => false
  | _ => true
def ObjRel (w : World) (T : Nat -> Nat -> Prop) : AObj -> Nat -> Prop
  | .cells l, b => CellsRel w T l b
  | .map es bs clock, b => zx0 w T es bs clock b
  | .iter m since seen last, b => w.heap[b]? = some (.mapIter (some m) since seen.toArray last)
  | .ghost o gh, b => (w.heap[b]? = some o /\ zqi o = true) /\ ∀ p ∈ gh, VRel w T p.1 p.2
/-- The store holds in the world: its objects, its tokens (the cells behind 'top' are free); all of it may be written ('M'); 'Oth': what others may write. -/
structure StoreOK (st : Store) (Oth M : Nat -> Nat -> Prop) (w : World) : Prop where
  obj : ∀ b x, st.obj b = some x -> ObjRel w (fun b o => M b o \/ Oth b o) x b /\ ∀ o, M b o
  tok : ∀ b top, st.tok b = some top -> ∃ c e fr, w.heap[b]? = some (.cells c e fr) /\ wj fr c.size /\ top <= c.size /\ ∀ o, top <= o -> M b o
  mlt : ∀ b o, M b o -> b < w.heap.size
  olt : ∀ b o, Oth b o -> b < w.heap.size
  dis : ∀ b o, Oth b o -> ¬ M b o
theorem StoreOK.weaken {st st' : Store} {Oth M : Nat -> Nat -> Prop} {w : World} (h : StoreOK st Oth M w) (hh : st.Has st') : StoreOK st' Oth M w :=
  ⟨fun b x k => h.obj b x (hh.obj b x k), fun b x k => h.tok b x (hh.tok b x k), h.mlt, h.olt, h.dis⟩
/-- What a piece of code that may write 'M' has changed. -/
structure Chg (M : Nat -> Nat -> Prop) (w : World) (M' : Nat -> Nat -> Prop) (w' : World) : Prop where
  size : w.heap.size <= w'.heap.size
  keep : ∀ b o, b < w.heap.size -> ¬ M b o -> w'.cell? ⟨b, o, none⟩ = w.cell? ⟨b, o, none⟩
  blk : ∀ b, b < w.heap.size -> (∀ o, ¬ M b o) -> w'.heap[b]? = w.heap[b]?
  shp : ∀ (b : Nat) c e fr, w.heap[b]? = some (.cells c e fr) -> ∃ c' fr', w'.heap[b]? = some (.cells c' e fr') /\ c'.size = c.size
  sub : ∀ b o, M' b o -> b < w.heap.size -> M b o
  tape : w'.tape = w.tape
  os : w'.os = w.os
  output : w'.output = w.output
theorem Chg.refl (M : Nat -> Nat -> Prop) (w : World) : Chg M w M w :=
  ⟨Nat.le_refl _, fun _ _ _ _ => rfl, fun _ _ _ => rfl, fun _ _ _ _ h => ⟨_, _, h, rfl⟩, fun _ _ h _ => h, rfl, rfl, rfl⟩
theorem Dx {w : World} {b : Nat} {x : Obj} (h : w.heap[b]? = some x) : b < w.heap.size := (Array.getElem?_eq_some_iff.1 h).1
theorem Chg.trans {M M₁ M₂ : Nat -> Nat -> Prop} {w w₁ w₂ : World} (h : Chg M w M₁ w₁) (k : Chg M₁ w₁ M₂ w₂) : Chg M w M₂ w₂ where
  size := Nat.le_trans h.size k.size
  keep b o hb hm := by
    rw [k.keep b o (Nat.lt_of_lt_of_le hb h.size) (fun hm' => hm (h.sub b o hm' hb)), h.keep b o hb hm]
  blk b hb hm := by
    rw [k.blk b (Nat.lt_of_lt_of_le hb h.size) (fun o hm' => hm o (h.sub b o hm' hb)), h.blk b hb hm]
  shp b c e fr hw := by
    obtain ⟨c', fr', h1, h2⟩ := h.shp b c e fr hw
    obtain ⟨c'', fr'', h3, h4⟩ := k.shp b c' e fr' h1
    grind
  sub b o hm hb := h.sub b o (k.sub b o hm (Nat.lt_of_lt_of_le hb h.size)) hb
  tape := k.tape.trans h.tape
  os := k.os.trans h.os
  output := k.output.trans h.output
theorem Gx {w : World} {b o : Nat} {c : Value} (h : w.cell? ⟨b, o, none⟩ = some c) : b < w.heap.size := World.block_lt_of_cell? _ _ h
/-- Whatever reads by cells outside M and Oth reads on. -/
theorem Chg.keeps {M M' Oth : Nat -> Nat -> Prop} {w w' : World} (h : Chg M w M' w') :
    Keeps w (fun b o => M b o \/ Oth b o) w' (fun b o => M' b o \/ Oth b o) where
  cell b o c hc hT := by rw [h.keep b o (Gx hc) fun hm => hT (.inl hm)]; exact hc
  out b o c hc hT hT' := hT (hT'.imp (fun hm => h.sub b o hm (Gx hc)) id)
  shp := h.shp
/-- What a temporary holds. 'bx k off': a pointer to cell 'off' of the call's own box 'k'. -/
inductive LV where
  | any
  | und
  | av (x : AV)
  | bx (k off : Nat)
  deriving Inhabited
structure Fr where
  t : Nat -> LV
  bx : Nat -> Option (List AV)
def LV.kill (k : Nat) : LV -> LV
  | .bx k' o => bif Nat.beq k' k then .any else .bx k' o
  | x => x
def Fr.put (A : Fr) (d : Nat) (x : LV) : Fr := { A with t := fun i => bif Nat.beq i d then x else A.t i }
def Fr.setBx (A : Fr) (k : Nat) (l : List AV) : Fr := { A with bx := fun i => bif Nat.beq i k then some l else A.bx i }
/-- A new box, named by the temporary that its pointer goes to. -/
def Fr.newBx (A : Fr) (d : Nat) (l : List AV) : Fr :=
  { t := fun i => bif Nat.beq i d then .bx d 0 else (A.t i).kill d, bx := fun i => bif Nat.beq i d then some l else A.bx i }
def zvj (v : Value) : AV := .s v
def cst : Value -> AV
  | .agg cs => .agg (cs.toList.map zvj)
  | v => .s v
def Fr.ev (A : Fr) : Operand -> LV
  | .tmp t => A.t t
  | .const v => .av (cst v)
  | .global g => .av (.s (.pointer (some ⟨g, 0, none⟩)))
  | .func f => .av (.clos f [])
def LRel (w : World) (T : Nat -> Nat -> Prop) (β : Nat -> Nat) : LV -> Value -> Prop
  | .any, _ => True
  | .und, v => v = undef
  | .av x, v => VRel w T x v
  | .bx k off, v => v = .pointer (some ⟨β k, off, none⟩)
theorem LRel.keep {w w' : World} {T T' : Nat -> Nat -> Prop} {β : Nat -> Nat} (hk : Keeps w T w' T') {x : LV} {v : Value} (h : LRel w T β x v) : LRel w' T' β x v := by
  cases x with
  | any => trivial
  | und => exact h
  | av x => exact VRel.keep hk h
  | bx k off => exact h
def LV.le (x y : LV) : Prop := ∀ w T β v, LRel w T β x v -> LRel w T β y v
theorem LV.le_refl (x : LV) : LV.le x x := fun _ _ _ _ h => h
theorem LV.le_any (x : LV) : LV.le x .any := fun _ _ _ _ _ => trivial
/-- The marks of loops that range over functions. -/
structure Marks (Oth M : Nat -> Nat -> Prop) (w : World) (ds : List Deferred) : Prop where
  nd : ds.Pairwise fun x y => x.target ≠ y.target
  all : ∀ d ∈ ds, ∃ D, d = { target := .collected D, args := #[] } /\ w.heap[D]? = some (.deferred (some [])) /\ ∀ o, ¬ M D o /\ ¬ Oth D o
theorem Marks.nil {Oth M : Nat -> Nat -> Prop} {w : World} : Marks Oth M w [] := ⟨List.Pairwise.nil, fun d h => by cases h⟩
theorem Marks.step {Oth M M' : Nat -> Nat -> Prop} {w w' : World} {ds : List Deferred} (h : Marks Oth M w ds)
    (hs : ∀ D, w.heap[D]? = some (.deferred (some [])) -> D < w.heap.size -> (∀ o, ¬ M D o /\ ¬ Oth D o) -> w'.heap[D]? = w.heap[D]? /\ ∀ o, ¬ M' D o) : Marks Oth M' w' ds :=
  ⟨h.nd, fun d hd => by
    obtain ⟨D, e, h1, h2⟩ := h.all d hd
    grind⟩
theorem Marks.sub {Oth M M' : Nat -> Nat -> Prop} {w : World} {ds : List Deferred} (h : Marks Oth M w ds) (hs : ∀ b o, M' b o -> M b o) : Marks Oth M' w ds :=
  h.step fun D _ _ h2 => ⟨rfl, fun o hm => (h2 o).1 (hs D o hm)⟩
theorem Marks.chg {Oth M M' : Nat -> Nat -> Prop} {w w' : World} {ds : List Deferred} (h : Marks Oth M w ds) (hc : Chg M w M' w') : Marks Oth M' w' ds :=
  h.step fun D _ hl h2 => ⟨hc.blk D hl fun o => (h2 o).1, fun o hm => (h2 o).1 (hc.sub D o hm hl)⟩
/-- The slots of a frame, and the deferred calls that it is known to have. -/
structure SN where
  sz : Nat
  D0 : List Deferred := []
  /-- it has no marks -/
  nm : Bool := false
/-- Marks, ahead of deferred calls that are known. -/
structure MarksD (Oth M : Nat -> Nat -> Prop) (w : World) (n : SN) (ds : List Deferred) : Prop where
  ex : ∃ ms, ds = ms ++ n.D0 /\ (n.nm = true -> ms = []) /\ Marks Oth M w ms
theorem MarksD.nil {Oth M : Nat -> Nat -> Prop} {w : World} {n : SN} (h : n.D0 = []) : MarksD Oth M w n [] := ⟨[], by grind, fun _ => rfl, Marks.nil⟩
theorem MarksD.step {Oth M M' : Nat -> Nat -> Prop} {w w' : World} {n : SN} {ds : List Deferred} (h : MarksD Oth M w n ds)
    (hs : ∀ D, w.heap[D]? = some (.deferred (some [])) -> D < w.heap.size -> (∀ o, ¬ M D o /\ ¬ Oth D o) -> w'.heap[D]? = w.heap[D]? /\ ∀ o, ¬ M' D o) : MarksD Oth M' w' n ds := by
  obtain ⟨ms, e, h0, hm⟩ := h.ex
  exact ⟨ms, e, h0, hm.step hs⟩
theorem MarksD.sub {Oth M M' : Nat -> Nat -> Prop} {w : World} {n : SN} {ds : List Deferred} (h : MarksD Oth M w n ds) (hs : ∀ b o, M' b o -> M b o) : MarksD Oth M' w n ds := by
  obtain ⟨ms, e, h0, hm⟩ := h.ex
  exact ⟨ms, e, h0, hm.sub hs⟩
theorem MarksD.out {Oth M : Nat -> Nat -> Prop} {w : World} {n : SN} {ds : List Deferred} (h : MarksD Oth M w n ds) (h0 : n.D0 = []) : Marks Oth M w ds := by
  obtain ⟨ms, e, _, hm⟩ := h.ex
  grind
theorem MarksD.known {Oth M : Nat -> Nat -> Prop} {w : World} {n : SN} {ds : List Deferred} (h : MarksD Oth M w n ds) (h0 : n.nm = true) : ds = n.D0 := by
  obtain ⟨ms, e, h1, _⟩ := h.ex
  grind
theorem MarksD.of {Oth M : Nat -> Nat -> Prop} {w : World} {n : SN} {ds : List Deferred} (h : Marks Oth M w ds) (h0 : n.D0 = []) (h1 : n.nm = false) : MarksD Oth M w n ds := ⟨ds, by grind, fun e => (by grind), h⟩
structure SimB (n : SN) (Oth : Nat -> Nat -> Prop) (β : Nat -> Nat) (A : Fr) (st : Store) (M : Nat -> Nat -> Prop) (a : Act) (w : World) : Prop where
  tsz : a.tmps.size = n.sz
  dfr : MarksD Oth M w n a.defers
  tm : ∀ i, LRel w (fun b o => M b o \/ Oth b o) β (A.t i) (a.tmps.getD i undef)
  bx : ∀ k l, A.bx k = some l -> CellsRel w (fun b o => M b o \/ Oth b o) l (β k) /\ ∀ o, M (β k) o
  inj : ∀ k k', A.bx k ≠ none -> A.bx k' ≠ none -> β k = β k' -> k = k'
  sep : ∀ k b, A.bx k ≠ none -> (st.obj b ≠ none \/ st.tok b ≠ none) -> β k ≠ b
  sto : StoreOK st Oth M w
def Sim (n : SN) (Oth : Nat -> Nat -> Prop) (A : Fr) (st : Store) (M : Nat -> Nat -> Prop) (a : Act) (w : World) : Prop := ∃ β, SimB n Oth β A st M a w
theorem VRel.cst (w : World) (T : Nat -> Nat -> Prop) (v : Value) : VRel w T (cst v) v := by
  cases v <;> simp only [V.cst] <;> first
    | exact .s _
    | (refine .agg _ _ (by simp) fun i x y hx hy => ?_
       simp only [List.getElem?_map] at hx
       rw [Array.getElem?_toList, hy] at hx
       simp only [Option.map_some, Option.some.injEq] at hx
       subst hx
       exact .s _)
theorem SimB.ev {n : SN} {Oth M : Nat -> Nat -> Prop} {β : Nat -> Nat} {A : Fr} {st : Store} {a : Act} {w : World} (h : SimB n Oth β A st M a w) (x : Operand) :
    LRel w (fun b o => M b o \/ Oth b o) β (A.ev x) (a.eval x) := by
  cases x with
  | tmp t => exact h.tm t
  | const v => exact VRel.cst _ _ _
  | global g => exact VRel.s _
  | func f => exact VRel.clos f [] #[] rfl (by simp)
theorem xc (i d : Nat) : Nat.beq i d = true ↔ i = d := by simp
theorem SimB.put {n : SN} {Oth M : Nat -> Nat -> Prop} {β : Nat -> Nat} {A : Fr} {st : Store} {a : Act} {w : World} (h : SimB n Oth β A st M a w)
    {d : Nat} (hd : d < n.sz) {x : LV} {v : Value} (hx : LRel w (fun b o => M b o \/ Oth b o) β x v) : SimB n Oth β (A.put d x) st M (a.put (some d) v) w where
  tsz := by simp [Act.put, h.tsz]
  dfr := h.dfr
  tm i := by
    simp only [Fr.put, Act.put, Array.getD_eq_getD_getElem?]
    by_cases hi : i = d
    · subst hi
      have : i < a.tmps.size := by rw [h.tsz]; exact hd
      simp_all
    · have hb : Nat.beq i d = false := by grind[xc]
      simp only [hb, cond_false]
      rw [Array.getElem?_setIfInBounds_ne (Ne.symm hi)]
      have := h.tm i
      simp_all
  bx := h.bx
  inj := h.inj
  sep := h.sep
  sto := h.sto
/-- Nothing that was there has turned; there may be more. -/
structure Grow (w w' : World) : Prop where
  size : w.heap.size <= w'.heap.size
  blk : ∀ b, b < w.heap.size -> w'.heap[b]? = w.heap[b]?
  tape : w'.tape = w.tape
  os : w'.os = w.os
  output : w'.output = w.output
theorem Aa (w : World) (o : Obj) (k : Nat) (h : k < w.heap.size) : (w.alloc o).heap[k]? = w.heap[k]? := by
  show (w.heap.push o)[k]? = _
  grind
theorem Grow.refl (w : World) : Grow w w := ⟨Nat.le_refl _, fun _ _ => rfl, rfl, rfl, rfl⟩
theorem Grow.trans {a b c : World} (h : Grow a b) (k : Grow b c) : Grow a c :=
  ⟨Nat.le_trans h.size k.size, fun i hi => (k.blk i (Nat.lt_of_lt_of_le hi h.size)).trans (h.blk i hi), k.tape.trans h.tape, k.os.trans h.os, k.output.trans h.output⟩
theorem Grow.alloc (w : World) (o : Obj) : Grow w (w.alloc o) := ⟨by simp, fun b hb => Aa w o b hb, rfl, rfl, rfl⟩
theorem Grow.drew (w : World) : Grow w w.drew := ⟨Nat.le_refl _, fun _ _ => rfl, rfl, rfl, rfl⟩
theorem Be {w w' : World} {b : Nat} (h : w'.heap[b]? = w.heap[b]?) (o : Nat) : w'.cell? ⟨b, o, none⟩ = w.cell? ⟨b, o, none⟩ := by
  simp only [World.cell?, h]
theorem Grow.chg {w w' : World} (h : Grow w w') (M : Nat -> Nat -> Prop) : Chg M w M w' where
  size := h.size
  keep b o hb _ := Be (h.blk b hb) o
  blk b hb _ := h.blk b hb
  shp b c e fr hw := ⟨c, fr, by rw [h.blk b (Dx hw)]; exact hw, rfl⟩
  sub _ _ hm _ := hm
  tape := h.tape
  os := h.os
  output := h.output
theorem Grow.keeps {w w' : World} (h : Grow w w') (T : Nat -> Nat -> Prop) : Keeps w T w' T where
  cell b o c hc _ := by rw [Be (h.blk b (Gx hc))]; exact hc
  out _ _ _ _ hT := hT
  shp b c e fr hw := ⟨c, fr, by rw [h.blk b (Dx hw)]; exact hw, rfl⟩
theorem CellsRel.same {w w' : World} {T T' : Nat -> Nat -> Prop} {l : List AV} {b : Nat} (h : CellsRel w T l b) (hk : Keeps w T w' T') (hb : w'.heap[b]? = w.heap[b]?) : CellsRel w' T' l b := by
  obtain ⟨c, e, fr, h1, h2, h3, h4⟩ := h
  exact ⟨c, e, fr, by grind, h2, h3, fun i x y hx hy => (h4 i x y hx hy).keep hk⟩
theorem ObjRel.same {w w' : World} {T T' : Nat -> Nat -> Prop} {l : AObj} {b : Nat} (h : ObjRel w T l b) (hk : Keeps w T w' T') (hb : w'.heap[b]? = w.heap[b]?) : ObjRel w' T' l b := by
  cases l with
  | cells l => exact CellsRel.same h hk hb
  | iter m since seen last =>
    show _ = _
    rw [hb]; exact h
  | ghost o gh => exact ⟨⟨by rw [hb]; exact h.1.1, h.1.2⟩, fun p hp => (h.2 p hp).keep hk⟩
  | map es bs clock =>
    obtain ⟨ms, h1, h2, h3, h4⟩ := h
    exact ⟨ms, by grind, h2, fun i x y hx hy => ⟨(h3 i x y hx hy).1.keep hk, (h3 i x y hx hy).2.keep hk⟩, h4⟩
theorem CellsRel.lt {w : World} {T : Nat -> Nat -> Prop} {l : List AV} {b : Nat} (h : CellsRel w T l b) : b < w.heap.size := by
  obtain ⟨c, e, fr, h1, _⟩ := h
  grind
theorem ObjRel.lt {w : World} {T : Nat -> Nat -> Prop} {l : AObj} {b : Nat} (h : ObjRel w T l b) : b < w.heap.size := by
  cases l with
  | cells l => exact CellsRel.lt h
  | iter m since seen last => exact Dx h
  | ghost o gh => exact Dx h.1.1
  | map es bs clock =>
    obtain ⟨ms, h1, _⟩ := h
    grind
theorem StoreOK.grow {st : Store} {Oth M : Nat -> Nat -> Prop} {w w' : World} (h : StoreOK st Oth M w) (g : Grow w w') : StoreOK st Oth M w' where
  obj b x hx := ⟨ObjRel.same (h.obj b x hx).1 (g.keeps _) (g.blk b (h.obj b x hx).1.lt), (h.obj b x hx).2⟩
  tok b top ht := by
    obtain ⟨c, e, fr, h1, h2⟩ := h.tok b top ht
    exact ⟨c, e, fr, by rw [g.blk b (Dx h1)]; exact h1, h2⟩
  mlt b o hm := Nat.lt_of_lt_of_le (h.mlt b o hm) g.size
  olt b o hm := Nat.lt_of_lt_of_le (h.olt b o hm) g.size
  dis := h.dis
theorem SimB.grow {n : SN} {Oth M : Nat -> Nat -> Prop} {β : Nat -> Nat} {A : Fr} {st : Store} {a : Act} {w w' : World} (h : SimB n Oth β A st M a w) (g : Grow w w') : SimB n Oth β A st M a w' where
  tsz := h.tsz
  dfr := h.dfr.step fun D _ hl h2 => ⟨g.blk D hl, fun o => (h2 o).1⟩
  tm i := (h.tm i).keep (g.keeps _)
  bx k l hk := ⟨(h.bx k l hk).1.same (g.keeps _) (g.blk _ (h.bx k l hk).1.lt), (h.bx k l hk).2⟩
  inj := h.inj
  sep := h.sep
  sto := h.sto.grow g
theorem Tq {x : LV} : LV.le x x := LV.le_refl x
theorem Tt {x : AV} : AV.le x x := AV.le_refl x
inductive Ty where
  | int (k : IntKind)
  | bool
  | str
  | slice (e : TypeId)
  | ptr (e : TypeId)
  | struct (fs : List (Nat × TypeId))
  | array (n : Nat) (e : TypeId)
  | map (k e : TypeId)
  | func
  | other
  deriving Inhabited, DecidableEq
structure TI where
  ty : Ty
  size : Nat
  bytes : Nat
  zero : List Value
  /-- values of it may be held against one another -/
  eq : Bool := false
  deriving Inhabited
abbrev Info := Nat -> Option TI
def kx : TypeDesc -> Ty
  | .int k => .int k
  | .bool => .bool
  | .string => .str
  | .slice e => .slice e
  | .pointer e => .ptr e
  | .struct fs => .struct (fs.toList.map fun f => (f.offset, f.type))
  | .array n e => .array n e
  | .map k e => .map k e
  | .func .. => .func
  | _ => .other
def k6 : Ty -> Bool
  | .struct _ => true
  | .array _ _ => true
  | _ => false
structure TIok (P : Program) (t : TypeId) (i : TI) : Prop where
  info : ∃ inf, P.info? t = some inf /\ inf.size = i.size /\ inf.bytes = i.bytes /\ ∃ z, inf.zero = some z /\ z.cells.toList = i.zero
  und : ∃ d, P.underlying t = some d /\ kx d = i.ty
  zsz : i.zero.length = i.size
  zag : ∀ inf z, P.info? t = some inf -> inf.zero = some z -> (k6 i.ty = true /\ ∃ cs, z = .agg cs) \/ (k6 i.ty = false /\ i.zero = [z])
  eqs : i.eq = true -> P.stoodInHeld t = false /\ P.eqGuardType P.depth t = false /\ ∀ fs, P.underlying t = some (.struct fs) -> ∀ f ∈ fs.toList, f.name ≠ "_"
def yk (P : Program) (I : Info) : Prop := ∀ t i, I t = some i -> TIok P t i
structure Cfg where
  n : Nat
  I : Info
  /-- temporaries whose 'alloc', 'box', 'buildSlice' make an object (a token) -/
  G : List Nat := []
  /-- temporaries whose sums may wrap -/
  W : List Nat := []
  /-- the loop whose round this is -/
  round : Option Nat := none
  /-- deferred calls that are known -/
  D0 : List Deferred := []
  /-- it ranges over no function -/
  nm : Bool := false
def Cfg.F (c : Cfg) : Fence := { Fence.wide with round := c.round }
def optK {α : Type} (o : Option α) (K : α -> Prop) : Prop := match o with | some x => K x | none => False
theorem za {α : Type} {o : Option α} {K : α -> Prop} (x : α) (h : o = some x) (hk : K x) : optK o K := by subst h; exact hk
theorem zj {α : Type} {o : Option α} {K : α -> Prop} (h : optK o K) : ∃ x, o = some x /\ K x := by
  cases o with
  | none => exact h.elim
  | some x => exact ⟨x, rfl, h⟩
def vl (b : Bool) (p q : Prop) : Prop := match b with | true => p | false => q
theorem zh {b : Bool} {p q : Prop} (h : b = true -> p) (h' : b = false -> q) : vl b p q := by
  cases b with
  | true => exact h rfl
  | false => exact h' rfl
def ye (v : Int) : Prop := -9223372036854775808 <= v /\ v <= 9223372036854775807
def qr (k : IntKind) (a : Int) : LV := .av (.s (.int k a))
def qx (b : Bool) : LV := .av (.s (.bool b))
/-- The result of integer arithmetic. -/
def arK (wr : Bool) (k : IntKind) (v : Int) (K : LV -> Prop) : Prop :=
  match wr, k with
  | false, .i64 => ye v /\ K (qr .i64 v)
  | _, k => K (qr k (k.wrap v))
def j5 (op : BinOp) (k : IntKind) (x y : Int) : Int :=
  let a := BitVec.ofInt k.bits x
  let b := BitVec.ofInt k.bits y
  match op with
  | .and => k.wrap (a &&& b).toNat
  | .or => k.wrap (a ||| b).toNat
  | .xor => k.wrap (a ^^^ b).toNat
  | _ => k.wrap (a &&& ~~~b).toNat
def D3 (wr : Bool) (op : BinOp) (k : IntKind) (a b : Int) (K : LV -> Prop) : Prop :=
  match op with
  | .add => arK wr k (a + b) K
  | .sub => arK wr k (a - b) K
  | .mul => arK wr k (a * b) K
  | .quo => b ≠ 0 /\ arK wr k (a.tdiv b) K
  | .rem => b ≠ 0 /\ K (qr k (a.tmod b))
  | .and => K (qr k (j5 .and k a b))
  | .or => K (qr k (j5 .or k a b))
  | .xor => K (qr k (j5 .xor k a b))
  | .andNot => K (qr k (j5 .andNot k a b))
  | .eql => K (qx (a == b))
  | .neq => K (qx (a != b))
  | .lss => K (qx (decide (a < b)))
  | .leq => K (qx (decide (a <= b)))
  | .gtr => K (qx (decide (a > b)))
  | .geq => K (qx (decide (a >= b)))
  | .shl => 0 <= b /\ K (qr k (k.wrap (a * 2 ^ (min b.toNat k.bits))))
  | .shr => 0 <= b /\ K (qr k (a.fdiv (2 ^ (min b.toNat k.bits))))
theorem lb {v : Int} (h : ye v) : IntKind.i64.wrap v = v := by
  obtain ⟨h1, h2⟩ := h
  grind[IntKind.wrap,IntKind.bits,IntKind.signed]
/-- A list, worked out. -/
def Bb : List AV -> (List AV -> Prop) -> Prop
  | [], K => K []
  | x :: l, K => Bb l fun l' => K (x :: l')
theorem Ba (l : List AV) (K : List AV -> Prop) : Bb l K = K l := by
  induction l generalizing K with
  | nil => rfl
  | cons x l ih => simp only [Bb]; rw [ih]
theorem D6 {l : List AV} {K : List AV -> Prop} (h : K l) : Bb l K := by rw [Ba]; exact h
/-- What stands in the cells from an address on, as a value of a type. -/
def partK (i : TI) (cells : List AV) (K : LV -> Prop) : Prop :=
  bif k6 i.ty then (bif Nat.ble i.size cells.length then Bb (cells.take i.size) fun l => K (.av (.agg l)) else False)
  else optK cells.head? fun x => K (.av x)
def vr (i : TI) (cells : List AV) : Option AV :=
  bif k6 i.ty then (bif Nat.ble i.size cells.length then some (.agg (cells.take i.size)) else none)
  else cells.head?
/-- Are two values of a type the same? -/
def Ab (I : Info) : Nat -> TypeId -> AV -> AV -> Option Bool
  | 0, _, _, _ => none
  | d + 1, t, x, y =>
    match I t with
    | none => none
    | some i =>
      match i.ty, x, y with
      | .int _, .s (.int k a), .s (.int k' b) => bif decide (k = k') then some (a == b) else none
      | .bool, .s (.bool a), .s (.bool b) => some (a == b)
      | .str, .s (.string a), .s (.string b) => some (a == b)
      | .struct fs, .agg xs, .agg ys =>
        bif i.eq then
          fs.foldr (fun f acc => match I f.2 with
            | none => none
            | some j => match vr j (xs.drop f.1), vr j (ys.drop f.1) with
              | some u, some v => match Ab I d f.2 u v, acc with
                | some p, some q => some (p && q)
                | _, _ => none
              | _, _ => none) (some true)
        else none
      | .slice _, .s (.slice none 0 0), .s (.slice none 0 0) => some true
      | .func, .s .nilFunc, .s .nilFunc => some true
      | .func, .clos _ _, .s .nilFunc => some false
      | .func, .s .nilFunc, .clos _ _ => some false
      | .ptr _, .s (.pointer none), .s (.pointer none) => some true
      | .ptr _, .s (.pointer (some _)), .s (.pointer none) => some false
      | .ptr _, .s (.pointer none), .s (.pointer (some _)) => some false
      | .slice _, .s (.slice (some _) _ _), .s (.slice none 0 0) => some false
      | _, _, _ => none
def LV.toAV : LV -> Option AV
  | .av x => some x
  | _ => none
def LV.toV : LV -> Option Value
  | .av (.s v) => some v
  | _ => none
theorem ol {x : LV} {v : Value} (h : x.toV = some v) : x = .av (.s v) := by
  unfold LV.toV at h
  grind
theorem Hd {x : LV} {y : AV} (h : x.toAV = some y) : x = .av y := by
  cases x <;> simp [LV.toAV] at h
  rw [h]
def Ap (ev : Operand -> LV) : Option Operand -> Option (Option Int)
  | none => some none
  | some x => match ev x with
    | .av (.s (.int _ i)) => some (some i)
    | _ => none
/-- The cells that a value takes. -/
def cellsOf : AV -> Option (List AV)
  | .agg cs => some cs
  | .any => none
  | .tup _ => none
  | .s v => match v with
    | .agg _ => none
    | .tuple _ => none
    | v => some [.s v]
  | x => some [x]
def z7 (l : List AV) (off : Nat) (vs : List AV) : List AV := l.take off ++ vs ++ l.drop (off + vs.length)
/-- A struct's or an array's parts, one by one. -/
def C7 (place : Nat -> Option (Nat × Nat)) (cells : List AV) : List (Nat × LV) -> Option (List AV)
  | [] => some cells
  | (i, v) :: rest =>
    match place i, v with
    | some (off, size), .av x => match cellsOf x with
      | some xs => bif Nat.beq xs.length size && Nat.ble (off + size) cells.length then C7 place (z7 cells off xs) rest else none
      | none => none
    | _, _ => none
def ej (I : Info) (fs : List (Nat × TypeId)) : Option (List (Nat × Nat)) :=
  fs.mapM fun f => (I f.2).map fun j => (f.1, j.size)
def Ip (x : LV) (d : Nat) (K : LV -> Prop) : Prop :=
  match x with
  | .bx k o => K (.bx k (o + d))
  | .av (.cp cells) => K (.av (.cp (cells.drop d)))
  | .av (.s (.pointer (some ⟨b, o, none⟩))) => K (.av (.s (.pointer (some ⟨b, o + d, none⟩))))
  | _ => False
/-- The cells from an address on. -/
def Ih (bx : Nat -> Option (List AV)) (st : Store) (x : LV) (K : List AV -> Prop) : Prop :=
  match x with
  | .bx k o => optK (bx k) fun l => K (l.drop o)
  | .av (.cp cells) => K cells
  | .av (.s (.pointer (some ⟨b, o, none⟩))) => optK (st.obj b) fun x => match x with | .cells l => K (l.drop o) | _ => False
  | _ => False
def O5 (x : LV) (st : Store) (ty : Ty) (K : LV -> Prop) : Prop :=
  match ty, x with
  | .slice _, .av (.lst _ rows _) => K (qr .i64 rows.length)
  | .slice _, .av (.s (.slice _ n _)) => K (qr .i64 n)
  | .slice _, .av .emp => K (qr .i64 (0 : Nat))
  | .str, .av (.s (.string s)) => K (qr .i64 s.size)
  | .map _ _, .av (.s (.map none)) => K (qr .i64 0)
  | .map _ _, .av (.s (.map (some r))) => optK (st.obj r) fun x => match x with | .map es _ _ => K (qr .i64 es.length) | _ => False
  | .array n _, _ => K (qr .i64 n)
  | _, _ => False
def min2 (a b : Int) : Int := bif decide (b < a) then b else a
def max2 (a b : Int) : Int := bif decide (b > a) then b else a
def Gb (f : Int -> Int -> Int) (xs : List LV) (K : LV -> Prop) : Prop :=
  match xs with
  | [.av (.s (.int k a)), .av (.s (.int _ b))] => K (qr k (f a b))
  | [.av (.s (.int k a)), .av (.s (.int _ b)), .av (.s (.int _ c))] => K (qr k (f (f a b) c))
  | [.av (.s (.int k a)), .av (.s (.int _ b)), .av (.s (.int _ c)), .av (.s (.int _ d))] => K (qr k (f (f (f a b) c) d))
  | _ => False
/-- The builtins that only look. -/
def Cc (c : Cfg) (ev : Operand -> LV) (st : Store) (cl : Call) (K : LV -> Prop) : Prop :=
  match cl.callee with
  | .builtin b => match b with
    | .len => optK cl.argTypes[0]? fun t => optK (c.I t) fun i => optK cl.args[0]? fun x => O5 (ev x) st i.ty K
    | .cap => optK cl.argTypes[0]? fun t => optK (c.I t) fun i => optK cl.args[0]? fun x => match i.ty, ev x with
      | .slice _, .av (.s (.slice _ _ n)) => K (qr .i64 n)
      | _, _ => False
    | .min => Gb min2 (cl.args.toList.map ev) K
    | .max => Gb max2 (cl.args.toList.map ev) K
    | _ => False
  | _ => False
/-- The value, worked out. -/
def Lc (x : LV) (K : LV -> Prop) : Prop :=
  match x with
  | .any => K .any
  | .und => K .und
  | .av y => K (.av y)
  | .bx k o => K (.bx k o)
theorem Gn (x : LV) (K : LV -> Prop) : Lc x K = K x := by cases x <;> rfl
/-- The operations that yield a value and turn nothing that is there. -/
def vcV (c : Cfg) (ev : Operand -> LV) (bx : Nat -> Option (List AV)) (st : Store) (d : Nat) (op : Op) (K : LV -> Prop) : Prop :=
  match op with
  | .move x | .assign x => Lc (ev x) K
  | .pick b x y => match ev b with
    | .av (.s (.bool b)) => vl b (Lc (ev x) K) (Lc (ev y) K)
    | _ => False
  | .nilCheck x => match ev x with
    | .bx k o => K (.bx k o)
    | .av (.cp l) => K (.av (.cp l))
    | .av (.clos f l) => K (.av (.clos f l))
    | .av (.s (.pointer (some a))) => K (.av (.s (.pointer (some a))))
    | .av (.s (.iface t v)) => K (.av (.s (.iface t v)))
    | _ => False
  | .binOp op t x y _ => match ev x, ev y with
    | .av (.s (.int k a)), .av (.s (.int k' b)) => match op with
      | .shl | .shr => D3 false op k a b K
      | _ => bif decide (k = k') then D3 (c.W.contains d) op k a b K else False
    | .av x, .av y => match op with
      | .eql => optK (Ab c.I 5 t x y) fun b => K (qx b)
      | .neq => optK (Ab c.I 5 t x y) fun b => K (qx (!b))
      | _ => False
    | _, _ => False
  | .unOp op _ x => match op, ev x with
    | .neg, .av (.s (.int k a)) => arK (c.W.contains d) k (0 - a) K
    | .not, .av (.s (.bool b)) => K (qx (!b))
    | _, _ => False
  | .convert s t x => optK (c.I s) fun i => optK (c.I t) fun j => match i.ty, j.ty, ev x with
    | .int _, .int k, .av (.s (.int _ n)) => arK (c.W.contains d) k n K
    | _, _, _ => False
  | .load t a => optK (c.I t) fun i => Ih bx st (ev a) fun l => partK i l K
  | .fieldAddr s x f => optK (c.I s) fun i => match i.ty with
    | .struct fs => optK fs[f]? fun g => optK (c.I g.2) fun j => bif Nat.blt 0 j.size then Ip (ev x) g.1 K else False
    | _ => False
  | .field s x f => optK (c.I s) fun i => match i.ty, ev x with
    | .struct fs, .av (.agg cs) => optK fs[f]? fun g => optK (c.I g.2) fun j => partK j (cs.drop g.1) K
    | _, _ => False
  | .indexAddr t x ix => optK (c.I t) fun i => match i.ty, ev x, ev ix with
    | .slice e, .av (.lst k rows _), .av (.s (.int _ j)) => optK (c.I e) fun ie => bif Nat.beq k ie.size then ∃ m : Nat, j = (m : Int) /\ optK rows[m]? fun row => K (.av (.cp row)) else False
    | .slice e, .av (.s (.slice (some ⟨b, o, none⟩) len _)), .av (.s (.int _ j)) => optK (c.I e) fun ie => ∃ m : Nat, j = (m : Int) /\ m < len /\ K (.av (.s (.pointer (some ⟨b, o + m * ie.size, none⟩))))
    | .array n e, p, .av (.s (.int _ j)) => optK (c.I e) fun ie => ∃ m : Nat, j = (m : Int) /\ m < n /\ Ip p (m * ie.size) K
    | _, _, _ => False
  | .index t x ix => optK (c.I t) fun i => match i.ty, ev x, ev ix with
    | .array n e, .av (.agg cs), .av (.s (.int _ j)) => optK (c.I e) fun ie => ∃ m : Nat, j = (m : Int) /\ m < n /\ partK ie (cs.drop (m * ie.size)) K
    | .str, .av (.s (.string s)), .av (.s (.int _ j)) => ∃ m : Nat, j = (m : Int) /\ optK s[m]? fun b => K (qr .u8 b.toNat)
    | _, _, _ => False
  | .slice t x lo hi mx => bif mx.isSome then False else optK (c.I t) fun i => match i.ty, ev x, Ap ev lo, Ap ev hi with
    | .slice e, .av (.lst k rows _), some l, some h => optK (c.I e) fun ie => bif Nat.beq k ie.size then ∃ p q : Nat, l.getD 0 = (p : Int) /\ h.getD (rows.length : Int) = (q : Int) /\ p <= q /\ q <= rows.length /\ (K (.av (.lst k ((rows.take q).drop p) none))) else False
    | .slice e, .av (.s (.slice (some ⟨b, o, none⟩) len cap)), some l, some h => optK (c.I e) fun ie => ∃ p q : Nat, l.getD 0 = (p : Int) /\ h.getD (len : Int) = (q : Int) /\ p <= q /\ q <= cap /\ ((p < cap /\ K (.av (.s (.slice (some ⟨b, o + p * ie.size, none⟩) (q - p) (cap - p))))) \/ (p = cap /\ K (.av (.s (.slice (some ⟨b, o, none⟩) 0 0)))))
    | .slice e, .av (.s (.slice none 0 0)), some l, some h => optK (c.I e) fun _ => l.getD 0 = 0 /\ h.getD 0 = 0 /\ K (.av (.s (.slice none 0 0)))
    | .array n e, .av (.s (.pointer (some ⟨b, o, none⟩))), some none, some none => optK (c.I e) fun _ => K (.av (.s (.slice (some ⟨b, o, none⟩) n n)))
    | _, _, _, _ => False
  | .extract x ix => match ev x with
    | .av (.tup vs) => optK vs[ix]? fun x => K (.av x)
    | _ => False
  | .build t parts => optK (c.I t) fun i => match i.ty with
    | .struct fs => optK (ej c.I fs) fun pl => optK (C7 (fun i => pl[i]?) (i.zero.map AV.s) (parts.toList.map fun p => (p.1, ev p.2))) fun cs => Bb cs fun cs => K (.av (.agg cs))
    | .array _ e => optK (c.I e) fun ie => optK (C7 (fun j => some (j * ie.size, ie.size)) (i.zero.map AV.s) (parts.toList.map fun p => (p.1, ev p.2))) fun cs => Bb cs fun cs => K (.av (.agg cs))
    | _ => False
  | .makeFunc fn first cap => match fn with
    | .func f => bif first.isEmpty then optK (cap.toList.mapM fun x => (ev x).toAV) fun l => K (.av (.clos f l)) else optK (first.toList.mapM fun x => (ev x).toV) fun l => bif cap.isEmpty then K (.av (.s (.func (.func f) l.toArray #[]))) else False
    | _ => False
  | .call cl => Cc c ev st cl K
  | _ => False
structure Env (w : World) (T : Nat -> Nat -> Prop) (β : Nat -> Nat) (ev : Operand -> LV) (bx : Nat -> Option (List AV)) (st : Store) (ρ : Operand -> Value) : Prop where
  ev : ∀ x, LRel w T β (ev x) (ρ x)
  bx : ∀ k l, bx k = some l -> CellsRel w T l (β k)
  obj : ∀ b x, st.obj b = some x -> ObjRel w T x b
def jy (P : Program) (c : Cfg) (ev : Operand -> LV) (bx : Nat -> Option (List AV)) (st : Store) (d : Nat) (op : Op) (K : LV -> Prop) : Prop :=
  ∃ x, K x /\ (∀ K' : LV -> Prop, K' x -> vcV c ev bx st d op K') ∧
    ∀ w T β ρ (o : Oper), o.op = op -> Env w T β ev bx st ρ -> ∃ v, (execOp ρ o).run P w = .ok (.value v) w /\ LRel w T β x v
section
variable {P : Program} {c : Cfg} {ev : Operand -> LV} {bx : Nat -> Option (List AV)} {st : Store} {d : Nat} {K : LV -> Prop}
variable {w : World} {T : Nat -> Nat -> Prop} {β : Nat -> Nat} {ρ : Operand -> Value}
theorem VRel.eq_s {v u : Value} (h : VRel w T (.s v) u) : u = v := by
  generalize hx : AV.s v = x at h
  cases h <;> cases hx
  rfl
theorem Env.s (he : Env w T β ev bx st ρ) {x : Operand} {v : Value} (h : ev x = .av (.s v)) : ρ x = v := by
  have := he.ev x
  rw [h] at this
  exact VRel.eq_s this
theorem zta (x : Operand) (h : vcV c ev bx st d (.move x) K) : jy P c ev bx st d (.move x) K :=
  ⟨ev x, by simpa only [vcV, Gn] using h, fun _ h => by simpa only [vcV, Gn] using h, fun w T β ρ o ho he => ⟨ρ x, by simp [execOp, ho], he.ev x⟩⟩
theorem ztm (x : Operand) (h : vcV c ev bx st d (.assign x) K) : jy P c ev bx st d (.assign x) K :=
  ⟨ev x, by simpa only [vcV, Gn] using h, fun _ h => by simpa only [vcV, Gn] using h, fun w T β ρ o ho he => ⟨ρ x, by simp [execOp, ho], he.ev x⟩⟩
theorem zs8 (b x y : Operand) (h : vcV c ev bx st d (.pick b x y) K) : jy P c ev bx st d (.pick b x y) K := by
  simp only [vcV] at h
  split at h
  · rename_i t hb
    refine ⟨bif t then ev x else ev y, ?_, fun K' h' => ?_, fun w T β ρ o ho he => ⟨if t then ρ x else ρ y, ?_, ?_⟩⟩
    · simp only [Gn] at h
      cases t <;> exact h
    · simp only [vcV, hb, Gn]
      cases t <;> exact h'
    · have := he.s hb
      simp [execOp, ho, this, asBool]
    · cases t <;> simp [he.ev]
  grind
theorem G4 {wr : Bool} {k : IntKind} {v : Int} (h : arK wr k v K) : K (qr k (k.wrap v)) /\ ∀ K' : LV -> Prop, K' (qr k (k.wrap v)) -> arK wr k v K' := by grind[arK,lb]
theorem zr2 {wr : Bool} {op : BinOp} {k k' : IntKind} {a b : Int} (h : D3 wr op k a b K) (hk : op ≠ .shl -> op ≠ .shr -> k = k') :
    ∃ z : Value, K (.av (.s z)) /\ (∀ K' : LV -> Prop, K' (.av (.s z)) -> D3 wr op k a b K') /\ ∀ t w, (binOp op t (.int k a) (.int k' b)).run P w = .ok z w := by
  cases op <;> simp only [D3] at h
  case add =>
    obtain ⟨h1, h2⟩ := G4 h
    obtain rfl := hk (by simp) (by simp)
    exact ⟨_, h1, h2, fun t w => by simp [binOp, Op.intArith]⟩
  case sub =>
    obtain ⟨h1, h2⟩ := G4 h
    obtain rfl := hk (by simp) (by simp)
    exact ⟨_, h1, h2, fun t w => by simp [binOp, Op.intArith]⟩
  case mul =>
    obtain ⟨h1, h2⟩ := G4 h
    obtain rfl := hk (by simp) (by simp)
    exact ⟨_, h1, h2, fun t w => by simp [binOp, Op.intArith]⟩
  case quo =>
    obtain ⟨hb, h⟩ := h
    obtain ⟨h1, h2⟩ := G4 h
    obtain rfl := hk (by simp) (by simp)
    exact ⟨_, h1, fun K' h' => ⟨hb, h2 K' h'⟩, fun t w => by simp [binOp, Op.intDiv, hb]⟩
  case rem =>
    obtain ⟨hb, h⟩ := h
    obtain rfl := hk (by simp) (by simp)
    exact ⟨_, h, fun K' h' => ⟨hb, h'⟩, fun t w => by simp [binOp, Op.intDiv, hb]⟩
  case shl =>
    obtain ⟨hb, h⟩ := h
    exact ⟨_, h, fun K' h' => ⟨hb, h'⟩, fun t w => by simp [binOp, Op.shift, Int.not_lt.2 hb]⟩
  case shr =>
    obtain ⟨hb, h⟩ := h
    exact ⟨_, h, fun K' h' => ⟨hb, h'⟩, fun t w => by simp [binOp, Op.shift, Int.not_lt.2 hb]⟩
  all_goals
    obtain rfl := hk (by simp) (by simp)
    exact ⟨_, h, fun _ h' => h', fun t w => by simp [binOp, Op.intBits, Op.intCmp, j5]⟩
theorem zut (op : BinOp) (t : TypeId) (x y : Operand) (k k' : IntKind) (a b : Int) (w : World) : (eqGuard op t x y (.int k a) (.int k' b)).run P w = .ok () w := by
  cases op <;> rfl
end
section
variable {P : Program} {I : Info} {w : World} {T : Nat -> Nat -> Prop}
theorem Fm {t : TypeId} {i : TI} {k : IntKind} (h : TIok P t i) (hy : i.ty = .int k) : P.underlying t = some (.int k) := by
  obtain ⟨d, h1, h2⟩ := h.und
  rw [hy] at h2
  cases d <;> simp [kx] at h2
  grind
theorem Sk {t : TypeId} {i : TI} (h : TIok P t i) (hy : i.ty = .bool) : P.underlying t = some .bool := by
  obtain ⟨d, h1, h2⟩ := h.und
  rw [hy] at h2
  cases d <;> simp [kx] at h2
  exact h1
theorem Mz {t : TypeId} {i : TI} (h : TIok P t i) (hy : i.ty = .str) : P.underlying t = some .string := by
  obtain ⟨d, h1, h2⟩ := h.und
  rw [hy] at h2
  cases d <;> simp [kx] at h2
  exact h1
theorem qy {t : TypeId} {i : TI} {e : TypeId} (h : TIok P t i) (hy : i.ty = .slice e) : P.underlying t = some (.slice e) := by
  obtain ⟨d, h1, h2⟩ := h.und
  rw [hy] at h2
  cases d <;> simp [kx] at h2
  grind
theorem M3 {t : TypeId} {i : TI} {e : TypeId} (h : TIok P t i) (hy : i.ty = .ptr e) : P.underlying t = some (.pointer e) := by
  obtain ⟨d, h1, h2⟩ := h.und
  rw [hy] at h2
  cases d <;> simp [kx] at h2
  grind
theorem Hc {t : TypeId} {i : TI} {n : Nat} {e : TypeId} (h : TIok P t i) (hy : i.ty = .array n e) : P.underlying t = some (.array n e) := by
  obtain ⟨d, h1, h2⟩ := h.und
  rw [hy] at h2
  cases d <;> simp [kx] at h2
  grind
theorem Fl {t : TypeId} {i : TI} {k e : TypeId} (h : TIok P t i) (hy : i.ty = .map k e) : P.underlying t = some (.map k e) := by
  obtain ⟨d, h1, h2⟩ := h.und
  rw [hy] at h2
  cases d <;> simp [kx] at h2
  grind
theorem M4 {t : TypeId} {i : TI} (h : TIok P t i) (hy : i.ty = .func) : ∃ a b c, P.underlying t = some (.func a b c) := by
  obtain ⟨d, h1, h2⟩ := h.und
  rw [hy] at h2
  cases d <;> simp [kx] at h2
  grind
theorem Fk {t : TypeId} {i : TI} {fs : List (Nat × TypeId)} (h : TIok P t i) (hy : i.ty = .struct fs) :
    ∃ a : Array Field, P.underlying t = some (.struct a) /\ (a.toList.map fun f => (f.offset, f.type)) = fs := by
  obtain ⟨d, h1, h2⟩ := h.und
  rw [hy] at h2
  cases d <;> simp [kx] at h2
  grind
theorem xl {t : TypeId} {i : TI} (h : TIok P t i) (w : World) : (sizeOf t).run P w = .ok i.size w := by
  obtain ⟨inf, h1, h2, _⟩ := h.info
  simp_all[sizeOf,typeInfo]
theorem Kf {t : TypeId} {i : TI} (h : TIok P t i) (w : World) : (isAgg t).run P w = .ok (k6 i.ty) w := by
  obtain ⟨d, h1, h2⟩ := h.und
  cases d <;> simp [kx] at h2 <;> rw [<- h2] <;> simp_all[isAgg,underlying,k6]
theorem ya {t : TypeId} {d : TypeDesc} (h : P.underlying t = some d) (w : World) : (underlying t).run P w = .ok d w := by
  simp [underlying, run_program, h]
theorem Hj {t : TypeId} {i : TI} (h : TIok P t i) (w : World) : ∃ z, (zeroValue t).run P w = .ok z w /\ z.cells.toList = i.zero := by
  obtain ⟨inf, h1, _, _, z, h3, h4⟩ := h.info
  simp_all[zeroValue,typeInfo]
/-- Cells that read as 'l'. -/
def Reads (w : World) (T : Nat -> Nat -> Prop) (l : List AV) (c : List Value) : Prop := l.length = c.length /\ ∀ (i : Nat) (x : AV) (y : Value), l[i]? = some x -> c[i]? = some y -> VRel w T x y
theorem Reads.drop {l : List AV} {c : List Value} (h : Reads w T l c) (n : Nat) : Reads w T (l.drop n) (c.drop n) :=
  ⟨by simp [h.1], fun i x y hx hy => h.2 (n + i) x y (by grind) (by grind)⟩
theorem Reads.take {l : List AV} {c : List Value} (h : Reads w T l c) (n : Nat) : Reads w T (l.take n) (c.take n) :=
  ⟨by simp [h.1], fun i x y hx hy => by
    rw [List.getElem?_take] at hx hy
    split at hx
    · rename_i hi; simp only [hi, if_true] at hy; exact h.2 i x y hx hy
    grind⟩
theorem Reads.nil : Reads w T [] [] := ⟨rfl, fun _ _ _ h _ => by simp at h⟩
theorem Reads.cons {x : AV} {v : Value} {l : List AV} {c : List Value} (h : VRel w T x v) (hl : Reads w T l c) : Reads w T (x :: l) (v :: c) :=
  ⟨by simp [hl.1], fun i a b ha hb => by
    cases i with
    | zero => grind
    | succ i => exact hl.2 i a b (by grind) (by grind)⟩
theorem Reads.append {l l' : List AV} {c c' : List Value} (h : Reads w T l c) (h' : Reads w T l' c') : Reads w T (l ++ l') (c ++ c') :=
  ⟨by simp [h.1, h'.1], fun i x y hx hy => by
    rcases Nat.lt_or_ge i l.length with hi | hi
    · rw [List.getElem?_append_left hi] at hx
      rw [List.getElem?_append_left (by rw [<- h.1]; exact hi)] at hy
      exact h.2 i x y hx hy
    · rw [List.getElem?_append_right hi] at hx
      rw [List.getElem?_append_right (by rw [<- h.1]; exact hi)] at hy
      rw [<- h.1] at hy
      exact h'.2 _ x y hx hy⟩
theorem Reads.keep {w' : World} {T' : Nat -> Nat -> Prop} {l : List AV} {c : List Value} (h : Reads w T l c) (hk : Keeps w T w' T') : Reads w' T' l c :=
  ⟨h.1, fun i x y hx hy => (h.2 i x y hx hy).keep hk⟩
theorem Reads.map_s (c : List Value) : Reads w T (c.map AV.s) c :=
  ⟨by simp, fun i x y hx hy => by
    rw [List.getElem?_map, hy] at hx
    simp at hx
    subst hx
    exact .s _⟩
theorem Reads.getElem? {l : List AV} {c : List Value} (h : Reads w T l c) {i : Nat} {x : AV} (hx : l[i]? = some x) : ∃ v, c[i]? = some v /\ VRel w T x v := by
  have hi := (List.getElem?_eq_some_iff.1 hx).1
  have hi' : i < c.length := by rw [<- h.1]; exact hi
  exact ⟨_, List.getElem?_eq_getElem hi', h.2 i x _ hx (List.getElem?_eq_getElem hi')⟩
theorem Aj {l : List AV} {v : Value} (h : VRel w T (.agg l) v) : ∃ c, v = .agg c /\ Reads w T l c.toList := by
  cases h with
  | agg _ c hl h => exact ⟨c, rfl, by simp [hl], fun i x y hx hy => h i x y hx (by grind)⟩
theorem mh {l : List AV} {v : Value} (h : VRel w T (.tup l) v) : ∃ c, v = .tuple c /\ Reads w T l c.toList := by
  cases h with
  | tup _ c hl h => exact ⟨c, rfl, by simp [hl], fun i x y hx hy => h i x y hx (by grind)⟩
theorem Hb {l : List AV} {c : Array Value} (h : Reads w T l c.toList) : VRel w T (.agg l) (.agg c) :=
  .agg l c (by simpa using h.1) fun i x y hx hy => h.2 i x y hx (by grind)
theorem k9 {l : List AV} {c : Array Value} (h : Reads w T l c.toList) : VRel w T (.tup l) (.tuple c) :=
  .tup l c (by simpa using h.1) fun i x y hx hy => h.2 i x y hx (by grind)
theorem F7 (i : TI) (l : List AV) (K : LV -> Prop) : partK i l K = optK (vr i l) fun x => K (.av x) := by
  unfold partK vr
  cases k6 i.ty <;> simp only [cond_true, cond_false, Ba]
  cases Nat.ble i.size l.length <;> rfl
theorem Hs {t : TypeId} {i : TI} (hi : TIok P t i) {l : List AV} {cs : Array Value} (h : Reads w T l cs.toList) {off : Nat} {x : AV} (hx : vr i (l.drop off) = some x) :
    ∃ v, (part t cs off).run P w = .ok v w /\ VRel w T x v := by
  unfold vr at hx
  cases ha : k6 i.ty with
  | true =>
    simp only [ha, cond_true] at hx
    cases hb : Nat.ble i.size (l.drop off).length with
    | false => grind
    | true =>
      simp only [hb, cond_true, Option.some.injEq] at hx
      subst hx
      refine ⟨.agg (cs.extract off (off + i.size)), by simp [part, Kf hi, ha, xl hi], Hb ?_⟩
      have : (cs.extract off (off + i.size)).toList = (cs.toList.drop off).take i.size := by simp
      rw [this]
      exact (h.drop off).take i.size
  | false =>
    simp only [ha, cond_false] at hx
    have hx' : l[off]? = some x := by simp_all
    obtain ⟨v, hv, hr⟩ := h.getElem? hx'
    refine ⟨v, ?_, hr⟩
    have : cs[off]? = some v := by grind
    simp [part, Kf hi, ha, this]
theorem er (hI : yk P I) : ∀ (d : Nat) (t : TypeId) (x y : AV) (b : Bool), Ab I d t x y = some b -> ∀ (D : Nat), d <= D -> ∀ u v, VRel w T x u -> VRel w T y v ->
    (Op.equalIn D t u v).run P w = .ok b w := by
  intro d
  induction d with
  | zero => intro t x y b h; trivial
  | succ d ih =>
    intro t x y b h D hD u v hu hv
    obtain ⟨D, rfl⟩ : ∃ D', D = D' + 1 := ⟨D - 1, by omega⟩
    rw [Ab] at h
    cases hi : I t with
    | none => grind
    | some i =>
      rw [hi] at h
      have ht := hI t i hi
      simp only at h
      split at h
      · rename_i k k1 a k2 a' hy
        by_cases hk : k1 = k2
        · subst hk
          simp at h
          subst h
          rw [VRel.eq_s hu, VRel.eq_s hv]
          simp [Op.equalIn, ya (Fm ht hy)]
        grind
      · rename_i a a' hy
        simp at h
        subst h
        rw [VRel.eq_s hu, VRel.eq_s hv]
        simp [Op.equalIn, ya (Sk ht hy)]
      · rename_i a a' hy
        simp at h
        subst h
        rw [VRel.eq_s hu, VRel.eq_s hv]
        simp [Op.equalIn, ya (Mz ht hy)]
      · rename_i fs xs ys hy
        cases he : i.eq with
        | false => grind
        | true =>
          simp only [he, cond_true] at h
          obtain ⟨c1, rfl, h1⟩ := Aj hu
          obtain ⟨c2, rfl, h2⟩ := Aj hv
          obtain ⟨a, ha1, ha2⟩ := Fk ht hy
          obtain ⟨e1, _, e3⟩ := ht.eqs he
          have hf : P.fieldsOf t = a := by simp [Program.fieldsOf, ha1]
          rw [run_equalIn_struct w D t c1 c2 (by grind) e1, hf]
          have hn := e3 a ha1
          subst ha2
          clear hf e3 ha1 e1 he hy ht hi hu hv
          generalize a.toList = fl at *
          induction fl generalizing b with
          | nil => simp at h; subst h; rfl
          | cons f fl ihf =>
            simp only [List.map_cons, List.foldr_cons] at h
            cases hj : I f.type with
            | none => grind
            | some j =>
              simp only [hj] at h
              cases hp : vr j (xs.drop f.offset) with
              | none => grind
              | some u' =>
                cases hq : vr j (ys.drop f.offset) with
                | none => grind
                | some v' =>
                  simp only [hp, hq] at h
                  split at h
                  · rename_i p q hpp hqq
                    simp at h
                    subst h
                    obtain ⟨vu, r1, r2⟩ := Hs (hI _ _ hj) h1 hp
                    obtain ⟨vv, r3, r4⟩ := Hs (hI _ _ hj) h2 hq
                    have r5 := ih f.type u' v' p hpp D (by omega) vu vv r2 r4
                    have r6 := ihf q (fun g hg => hn g (List.mem_cons_of_mem _ hg)) hqq
                    have hne : f.name ≠ "_" := hn f (by simp)
                    rw [Op.eqFields, if_pos hne]
                    simp only [Sem.run_bind, r1, r3, r5, Result.andThen_ok]
                    cases p with
                    | true => grind
                    | false => simp
                  · cases h
      · rename_i e hy
        simp at h
        subst h
        rw [VRel.eq_s hu, VRel.eq_s hv]
        simp [Op.equalIn, ya (qy ht hy)]
      · rename_i hy
        obtain ⟨_, _, _, hy⟩ := M4 ht hy
        simp at h
        subst h
        rw [VRel.eq_s hu, VRel.eq_s hv]
        simp [Op.equalIn, ya hy]
      · rename_i hy
        obtain ⟨_, _, _, hy⟩ := M4 ht hy
        simp at h
        subst h
        rw [VRel.eq_s hv]
        cases hu
        simp [Op.equalIn, ya hy]
      · rename_i hy
        obtain ⟨_, _, _, hy⟩ := M4 ht hy
        simp at h
        subst h
        rw [VRel.eq_s hu]
        cases hv
        simp [Op.equalIn, ya hy]
      · rename_i hy
        simp at h
        subst h
        rw [VRel.eq_s hu, VRel.eq_s hv]
        simp [Op.equalIn, ya (M3 ht hy)]
      · rename_i hy
        simp at h
        subst h
        rw [VRel.eq_s hu, VRel.eq_s hv]
        simp [Op.equalIn, ya (M3 ht hy)]
      · rename_i hy
        simp at h
        subst h
        rw [VRel.eq_s hu, VRel.eq_s hv]
        simp [Op.equalIn, ya (M3 ht hy)]
      · rename_i hy
        simp at h
        subst h
        rw [VRel.eq_s hu, VRel.eq_s hv]
        simp [Op.equalIn, ya (qy ht hy)]
      · cases h
end
section
variable {P : Program} {c : Cfg} {ev : Operand -> LV} {bx : Nat -> Option (List AV)} {st : Store} {d : Nat} {K : LV -> Prop}
theorem yv {w : World} {T : Nat -> Nat -> Prop} {β : Nat -> Nat} {ρ : Operand -> Value} (he : Env w T β ev bx st ρ) {x : Operand} {a : AV} (h : ev x = .av a) : VRel w T a (ρ x) := by
  have := he.ev x
  rw [h] at this
  exact this
theorem zj3 (a b : ByteArray) : (a == b) = (a.data.toList == b.data.toList) := by
  obtain ⟨⟨a⟩⟩ := a
  obtain ⟨⟨b⟩⟩ := b
  rw [Bool.eq_iff_iff]
  show (Array.mk a == Array.mk b) = true ↔ _
  simp
theorem eo (hI : yk P c.I) {op : BinOp} (hop : op = .eql \/ op = .neq) {t : TypeId} {x y : AV} {b : Bool} {w : World} {T : Nat -> Nat -> Prop} {u v : Value} (hx : VRel w T x u) (hy : VRel w T y v)
    (h : Ab c.I 5 t x y = some b) (hn : ∀ k p k' q, x = .s (.int k p) -> y = .s (.int k' q) -> False) (ox oy : Operand) :
    (eqGuard op t ox oy u v).run P w = .ok () w /\ (binOp op t u v).run P w = .ok (.bool (if op = .eql then b else !b)) w := by
  have r := er (P := P) hI 5 t x y b h 10000 (by omega) u v hx hy
  rw [Ab] at h
  cases hi : c.I t with
  | none => grind
  | some i =>
    rw [hi] at h
    have ht := hI t i hi
    simp only at h
    split at h
    · grind
    · rw [VRel.eq_s hx, VRel.eq_s hy] at r ⊢
      rcases hop with rfl | rfl <;> simp [eqGuard, binOp, Op.equal, Op.maxDepth, r]
    · rename_i a1 b1 hty
      rw [VRel.eq_s hx, VRel.eq_s hy] at r ⊢
      have hb : (a1.toList == b1.toList) = b := by grind[Go.ByteArray.toList_eq,zj3]
      rcases hop with rfl | rfl <;> simp_all[eqGuard,binOp,Op.stringOp]
    · rename_i fs xs ys hty
      cases he : i.eq with
      | false => grind
      | true =>
        obtain ⟨c1, rfl, h1⟩ := Aj hx
        obtain ⟨c2, rfl, h2⟩ := Aj hy
        obtain ⟨_, e2, _⟩ := ht.eqs he
        refine ⟨run_eqGuard_agg w op t ox oy c1 c2 e2, ?_⟩
        rcases hop with rfl | rfl <;> simp [binOp, Op.equal, Op.maxDepth, r]
    · rw [VRel.eq_s hx, VRel.eq_s hy] at r ⊢
      rcases hop with rfl | rfl <;> simp [eqGuard, binOp, Op.equal, Op.maxDepth, r]
    · rw [VRel.eq_s hx, VRel.eq_s hy] at r ⊢
      rcases hop with rfl | rfl <;> simp [eqGuard, binOp, Op.equal, Op.maxDepth, r]
    · rw [VRel.eq_s hy] at r ⊢
      cases hx
      rcases hop with rfl | rfl <;> simp [eqGuard, binOp, Op.equal, Op.maxDepth, r]
    · rw [VRel.eq_s hx] at r ⊢
      cases hy
      rcases hop with rfl | rfl <;> simp [eqGuard, binOp, Op.equal, Op.maxDepth, r]
    · rw [VRel.eq_s hx, VRel.eq_s hy] at r ⊢
      rcases hop with rfl | rfl <;> simp [eqGuard, binOp, Op.equal, Op.maxDepth, r]
    · rw [VRel.eq_s hx, VRel.eq_s hy] at r ⊢
      rcases hop with rfl | rfl <;> simp [eqGuard, binOp, Op.equal, Op.maxDepth, r]
    · rw [VRel.eq_s hx, VRel.eq_s hy] at r ⊢
      rcases hop with rfl | rfl <;> simp [eqGuard, binOp, Op.equal, Op.maxDepth, r]
    · rw [VRel.eq_s hx, VRel.eq_s hy] at r ⊢
      rcases hop with rfl | rfl <;> simp [eqGuard, binOp, Op.equal, Op.maxDepth, r]
    · cases h
theorem ztl (hI : yk P c.I) (op : BinOp) (t : TypeId) (x y : Operand) (yt : TypeId) (h : vcV c ev bx st d (.binOp op t x y yt) K) : jy P c ev bx st d (.binOp op t x y yt) K := by
  simp only [vcV] at h
  split at h
  · rename_i k a k' b hx hy
    have key : (∃ wr, D3 wr op k a b K /\ (op ≠ .shl -> op ≠ .shr -> k = k') /\ ∀ K', D3 wr op k a b K' -> vcV c ev bx st d (.binOp op t x y yt) K') := by
      split at h
      · simp_all[vcV]
      · simp_all[vcV]
      · rename_i h1 h2
        by_cases hk : k = k'
        · refine ⟨c.W.contains d, by grind, fun _ _ => hk, fun K' h' => ?_⟩
          simp_all[vcV]
        grind
    obtain ⟨wr, h1, h2, h3⟩ := key
    obtain ⟨z, k1, k2, k3⟩ := zr2 (P := P) h1 h2
    refine ⟨_, k1, fun K' h' => h3 K' (k2 K' h'), fun w T β ρ o ho he => ⟨z, ?_, VRel.s _⟩⟩
    simp [execOp, ho, he.s hx, he.s hy, zut, k3]
  · rename_i u v hn hx hy
    have hn' : ∀ k p k' q, u = .s (.int k p) -> v = .s (.int k' q) -> False := fun k p k' q h1 h2 => hn k p k' q (by rw [h1]) (by rw [h2])
    split at h
    · obtain ⟨b, hb, hk⟩ := zj h
      refine ⟨_, hk, fun K' h' => ?_, fun w T β ρ o ho he => ⟨.bool b, ?_, VRel.s _⟩⟩
      · simp_all[vcV,za]
      · obtain ⟨h1, h2⟩ := eo hI (op := .eql) (.inl rfl) (yv he hx) (yv he hy) hb hn' x y
        simp [execOp, ho, h1, h2]
    · obtain ⟨b, hb, hk⟩ := zj h
      refine ⟨_, hk, fun K' h' => ?_, fun w T β ρ o ho he => ⟨.bool !b, ?_, VRel.s _⟩⟩
      · simp_all[vcV,za]
      · obtain ⟨h1, h2⟩ := eo hI (op := .neq) (.inr rfl) (yv he hx) (yv he hy) hb hn' x y
        simp [execOp, ho, h1, h2]
    grind
  grind
theorem zs9 (x : Operand) (h : vcV c ev bx st d (.nilCheck x) K) : jy P c ev bx st d (.nilCheck x) K := by
  simp only [vcV] at h
  split at h
  · rename_i k o hx
    refine ⟨_, h, fun K' h' => by simp only [vcV, hx]; exact h', fun w T β ρ o ho he => ?_⟩
    have := he.ev x
    rw [hx] at this
    exact ⟨ρ x, by rw [show ρ x = _ from this]; simp [execOp, ho, show ρ x = _ from this], this⟩
  · rename_i l hx
    refine ⟨_, h, fun K' h' => by simp only [vcV, hx]; exact h', fun w T β ρ o ho he => ⟨ρ x, ?_, yv he hx⟩⟩
    have := yv he hx
    generalize hv : ρ x = v at *
    cases this
    simp [execOp, ho, hv]
  · rename_i f l hx
    refine ⟨_, h, fun K' h' => by simp only [vcV, hx]; exact h', fun w T β ρ o ho he => ⟨ρ x, ?_, yv he hx⟩⟩
    have := yv he hx
    generalize hv : ρ x = v at *
    cases this
    simp [execOp, ho, hv]
  · rename_i a hx
    refine ⟨_, h, fun K' h' => by simp only [vcV, hx]; exact h', fun w T β ρ o ho he => ⟨ρ x, ?_, yv he hx⟩⟩
    simp [execOp, ho, he.s hx]
  · rename_i t0 v0 hx
    refine ⟨_, h, fun K' h' => by simp only [vcV, hx]; exact h', fun w T β ρ o ho he => ⟨ρ x, ?_, yv he hx⟩⟩
    simp [execOp, ho, he.s hx]
  grind
theorem zs5 (op : UnOp) (t : TypeId) (x : Operand) (h : vcV c ev bx st d (.unOp op t x) K) : jy P c ev bx st d (.unOp op t x) K := by
  simp only [vcV] at h
  split at h
  · rename_i k a hx
    obtain ⟨h1, h2⟩ := G4 h
    refine ⟨_, h1, fun K' h' => by simp only [vcV, hx]; grind, fun w T β ρ o ho he => ⟨_, ?_, VRel.s _⟩⟩
    simp [execOp, ho, he.s hx, Op.unary, Op.intArith]
  · rename_i b hx
    refine ⟨_, h, fun K' h' => by simp only [vcV, hx]; exact h', fun w T β ρ o ho he => ⟨_, ?_, VRel.s _⟩⟩
    simp [execOp, ho, he.s hx, Op.unary]
  grind
theorem zti (hI : yk P c.I) (s t : TypeId) (x : Operand) (h : vcV c ev bx st d (.convert s t x) K) : jy P c ev bx st d (.convert s t x) K := by
  simp only [vcV] at h
  obtain ⟨i, hi, h⟩ := zj h
  obtain ⟨j, hj, h⟩ := zj h
  split at h
  · rename_i k1 k k2 n hy1 hy2 hx
    obtain ⟨h1, h2⟩ := G4 h
    refine ⟨_, h1, fun K' h' => ?_, fun w T β ρ o ho he => ⟨_, ?_, VRel.s _⟩⟩
    · simp only [vcV]
      grind[za]
    · simp [execOp, ho, he.s hx, convert, ya (Fm (hI _ _ hi) hy1), ya (Fm (hI _ _ hj) hy2), Conv.intToInt]
  grind
theorem zth (x : Operand) (ix : Nat) (h : vcV c ev bx st d (.extract x ix) K) : jy P c ev bx st d (.extract x ix) K := by
  simp only [vcV] at h
  split at h
  · rename_i vs hx
    obtain ⟨y, hy, h⟩ := zj h
    refine ⟨_, h, fun K' h' => by simp_all[vcV,za], fun w T β ρ o ho he => ?_⟩
    obtain ⟨cs, hc, hr⟩ := mh (yv he hx)
    obtain ⟨v, hv, hvr⟩ := hr.getElem? hy
    have hv' : cs[ix]? = some v := by grind
    exact ⟨v, by simp_all[execOp,Instr.extract], hvr⟩
  grind
theorem Ge {α β : Type} {f : α -> Option β} : ∀ {l : List α} {m : List β}, l.mapM f = some m -> m.length = l.length /\ ∀ (i : Nat) (x : β), m[i]? = some x -> ∃ a, l[i]? = some a /\ f a = some x := by
  intro l
  induction l with
  | nil => simp
  | cons a l ih =>
    intro m h
    rw [List.mapM_cons] at h
    cases hf : f a with
    | none => grind
    | some b =>
      cases hl : l.mapM f with
      | none => grind
      | some m' =>
        grind
theorem ztb (fn : Fn) (first cap : Array Operand) (h : vcV c ev bx st d (.makeFunc fn first cap) K) : jy P c ev bx st d (.makeFunc fn first cap) K := by
  cases fn <;> simp only [vcV] at h <;> try exact h.elim
  rename_i f
  cases hf : first.isEmpty with
  | false =>
    rw [hf] at h
    simp only [cond_false] at h
    obtain ⟨l, hl, h⟩ := zj h
    cases hc : cap.isEmpty with
    | false => grind
    | true =>
      have hcap : cap = #[] := by grind
      subst hcap
      replace h : K (.av (.s (.func (.func f) l.toArray #[]))) := h
      refine ⟨_, h, fun K' h' => by simp_all[vcV,za], fun w T β ρ o ho he => ⟨.func (.func f) (first.map ρ) #[], ?_, ?_⟩⟩
      · simp [execOp, ho, Instr.makeFunc]
      · obtain ⟨h1, h2⟩ := Ge hl
        have e : l.toArray = first.map ρ := by
          apply Array.ext'
          apply List.ext_getElem?
          intro i
          rw [Array.toList_map, List.getElem?_map]
          cases hi : l[i]? with
          | none =>
            grind
          | some x =>
            obtain ⟨a, ha, hfa⟩ := h2 i x hi
            have := VRel.eq_s (yv he (ol hfa))
            grind
        rw [e]; exact .s _
  | true =>
    rw [hf] at h
    simp only [cond_true] at h
    obtain ⟨l, hl, h⟩ := zj h
    refine ⟨_, h, fun K' h' => by simp_all[vcV,za], fun w T β ρ o ho he => ⟨.func (.func f) #[] (cap.map ρ), ?_, ?_⟩⟩
    · simp_all[execOp,Instr.makeFunc]
    · obtain ⟨h1, h2⟩ := Ge hl
      refine VRel.clos f l _ (by grind) fun i x y hx hy => ?_
      obtain ⟨a, ha, hfa⟩ := h2 i x hx
      have ha' : cap[i]? = some a := by grind
      rw [Array.getElem?_map, ha'] at hy
      simp at hy
      subst hy
      exact yv he (Hd hfa)
theorem Dq (a : Addr) (w : World) (f : Nat -> Value) : ∀ (n i : Nat) (acc : Array Value), (∀ j, i <= j -> j < i + n -> w.cell? (a.add j) = some (f j)) ->
    (loadCellsFrom a i n acc).run P w = .ok (acc ++ ((List.range' i n).map f).toArray) w := by
  intro n
  induction n with
  | zero => intro i acc _; rfl
  | succ n ih =>
    intro i acc h
    have h0 := h i (Nat.le_refl _) (by omega)
    have : (load (a.add i)).run P w = .ok (f i) w := by simp_all
    simp only [loadCellsFrom, Sem.run_bind, this, Result.andThen_ok]
    rw [ih (i + 1) (acc.push (f i)) (fun j h1 h2 => h j (by omega) (by omega))]
    simp [List.range'_succ]
theorem x8 (b off n : Nat) : (Addr.add ⟨b, off, none⟩ n) = ⟨b, off + n, none⟩ := by grind[Addr.add]
/-- From cell 'off' of block 'b' on the cells read as 'l'. -/
def Rp (w : World) (T : Nat -> Nat -> Prop) (l : List AV) (b off : Nat) : Prop := ∃ f : Nat -> Value, ∀ j x, l[j]? = some x -> w.cell? ⟨b, off + j, none⟩ = some (f j) /\ VRel w T x (f j)
theorem cm {w : World} {T : Nat -> Nat -> Prop} {t : TypeId} {i : TI} (hi : TIok P t i) {l : List AV} {b off : Nat} (h : Rp w T l b off) {x : AV} (hx : vr i l = some x) :
    ∃ v, (loadVar t ⟨b, off, none⟩).run P w = .ok v w /\ VRel w T x v := by
  obtain ⟨f, h⟩ := h
  unfold vr at hx
  cases ha : k6 i.ty with
  | true =>
    simp only [ha, cond_true] at hx
    cases hb : Nat.ble i.size l.length with
    | false => grind
    | true =>
      simp only [hb, cond_true, Option.some.injEq] at hx
      subst hx
      have hle : i.size <= l.length := Nat.le_of_ble_eq_true hb
      have hr : (loadCells ⟨b, off, none⟩ i.size).run P w = .ok (#[] ++ ((List.range' 0 i.size).map f).toArray) w := by
        refine Dq _ w f i.size 0 #[] fun j _ hj => ?_
        rw [x8]
        exact (h j _ (List.getElem?_eq_getElem (by omega))).1
      refine ⟨.agg (#[] ++ ((List.range' 0 i.size).map f).toArray), by simp only [loadVar, Sem.run_bind, Kf hi, ha, Result.andThen_ok, if_true, xl hi, hr, Sem.run_pure], Hb ?_⟩
      refine ⟨by grind, fun j y v hy hv => ?_⟩
      grind
  | false =>
    simp only [ha, cond_false] at hx
    have hx' : l[0]? = some x := by grind[List.head?_eq_getElem?]
    obtain ⟨h1, h2⟩ := h 0 x hx'
    refine ⟨f 0, ?_, h2⟩
    simp only [loadVar, Sem.run_bind, Kf hi, ha, Result.andThen_ok]
    simp_all
theorem CellsRel.avail {w : World} {T : Nat -> Nat -> Prop} {l : List AV} {b : Nat} (h : CellsRel w T l b) (o : Nat) : Rp w T (l.drop o) b o := by
  obtain ⟨c, e, fr, h1, _, h3, h4⟩ := h
  refine ⟨fun j => c.getD (o + j) undef, fun j x hx => ?_⟩
  have hx' : l[o + j]? = some x := by grind
  have hlt : o + j < c.size := by grind
  have hc : c[o + j]? = some (c.getD (o + j) undef) := by simp [hlt]
  grind[World.cell?]
theorem gm {x : LV} {K : List AV -> Prop} (h : Ih bx st x K) :
    ∃ l, K l /\ (∀ K' : List AV -> Prop, K' l -> Ih bx st x K') /\ ∀ w T β ρ, Env w T β ev bx st ρ -> ∀ v, LRel w T β x v -> ∃ b off, v = .pointer (some ⟨b, off, none⟩) /\ Rp w T l b off := by
  unfold Ih at h
  split at h
  · rename_i k o
    obtain ⟨l, hl, h⟩ := zj h
    exact ⟨_, h, fun K' h' => za l hl h', fun w T β ρ he v hv => ⟨β k, o, hv, (he.bx k l hl).avail o⟩⟩
  · rename_i cells
    refine ⟨_, h, fun K' h' => h', fun w T β ρ he v hv => ?_⟩
    cases hv with
    | cp _ b off f hc hx => exact ⟨b, off, rfl, f, fun j x hj => ⟨(hc j x hj).1, hx j x hj⟩⟩
  · rename_i b o
    obtain ⟨y, hy, h⟩ := zj h
    cases y with
    | cells l => exact ⟨_, h, fun K' h' => za _ hy h', fun w T β ρ he v hv => ⟨b, o, VRel.eq_s hv, CellsRel.avail (he.obj b _ hy) o⟩⟩
    | map es bs clock => grind
    | iter m since seen last => grind
    | ghost o gh => grind
  grind
theorem ztc (hI : yk P c.I) (t : TypeId) (a : Operand) (h : vcV c ev bx st d (.load t a) K) : jy P c ev bx st d (.load t a) K := by
  simp only [vcV] at h
  obtain ⟨i, hi, h⟩ := zj h
  obtain ⟨l, hl, hl', hs⟩ := gm (ev := ev) h
  rw [F7] at hl
  obtain ⟨x, hx, hk⟩ := zj hl
  refine ⟨_, hk, fun K' h' => ?_, fun w T β ρ o ho he => ?_⟩
  · simp only [vcV]
    grind[za,F7]
  · obtain ⟨b, off, hv, hav⟩ := hs w T β ρ he _ (he.ev a)
    obtain ⟨v, hr, hvr⟩ := cm (hI _ _ hi) hav hx
    exact ⟨v, by simp_all[execOp,Instr.loadAt,Instr.sureAddr], hvr⟩
theorem i7 {x : LV} {n : Nat} (h : Ip x n K) :
    ∃ y, K y /\ (∀ K' : LV -> Prop, K' y -> Ip x n K') /\ ∀ w T β v, LRel w T β x v -> ∃ b off, v = .pointer (some ⟨b, off, none⟩) /\ LRel w T β y (.pointer (some ⟨b, off + n, none⟩)) := by
  unfold Ip at h
  split at h
  · exact ⟨_, h, fun _ h => h, fun w T β v hv => ⟨_, _, hv, rfl⟩⟩
  · refine ⟨_, h, fun _ h => h, fun w T β v hv => ?_⟩
    rename_i cells
    cases hv with
    | cp _ b off f hc hx =>
      refine ⟨b, off, rfl, VRel.cp _ _ _ (fun j => f (n + j)) (fun j x hj => ?_) (fun j x hj => ?_)⟩
      · grind
      grind
  · exact ⟨_, h, fun _ h => h, fun w T β v hv => ⟨_, _, VRel.eq_s hv, VRel.s _⟩⟩
  grind
theorem ztf (hI : yk P c.I) (s : TypeId) (x : Operand) (f : Nat) (h : vcV c ev bx st d (.fieldAddr s x f) K) : jy P c ev bx st d (.fieldAddr s x f) K := by
  simp only [vcV] at h
  obtain ⟨i, hi, h⟩ := zj h
  split at h
  · rename_i fs hty
    obtain ⟨g, hg, h⟩ := zj h
    obtain ⟨j, hj, h⟩ := zj h
    cases hjb : Nat.blt 0 j.size with
    | false => grind
    | true =>
    rw [hjb] at h
    simp only [cond_true] at h
    obtain ⟨y, hy, hy', hs⟩ := i7 h
    refine ⟨y, hy, fun K' h' => ?_, fun w T β ρ o ho he => ?_⟩
    · simp only [vcV]
      grind[za]
    · obtain ⟨b, off, hv, hr⟩ := hs w T β _ (he.ev x)
      obtain ⟨a, ha1, ha2⟩ := Fk (hI _ _ hi) hty
      refine ⟨_, ?_, hr⟩
      subst ha2
      simp only [List.getElem?_map] at hg
      cases hfa : a.toList[f]? with
      | none => grind
      | some fd =>
        rw [hfa] at hg
        simp at hg
        subst hg
        have hfa' : a[f]? = some fd := by grind
        have hz : 0 < j.size := Nat.le_of_ble_eq_true hjb
        have hz' : ¬ j.size = 0 := by omega
        simp [execOp, ho, hv, Instr.fieldAt, ya ha1, hfa', Instr.sureAddr, fieldPlace, xl (hI _ _ hj), hz', x8]
  grind
theorem ztg (hI : yk P c.I) (s : TypeId) (x : Operand) (f : Nat) (h : vcV c ev bx st d (.field s x f) K) : jy P c ev bx st d (.field s x f) K := by
  simp only [vcV] at h
  obtain ⟨i, hi, h⟩ := zj h
  split at h
  · rename_i fs cs hty hx
    obtain ⟨g, hg, h⟩ := zj h
    obtain ⟨j, hj, h⟩ := zj h
    rw [F7] at h
    obtain ⟨y, hy, h⟩ := zj h
    refine ⟨_, h, fun K' h' => ?_, fun w T β ρ o ho he => ?_⟩
    · simp only [vcV]
      grind[za,F7]
    · obtain ⟨a, ha1, ha2⟩ := Fk (hI _ _ hi) hty
      obtain ⟨us, hu, hr⟩ := Aj (yv he hx)
      obtain ⟨v, hv1, hv2⟩ := Hs (P := P) (hI _ _ hj) hr hy
      refine ⟨v, ?_, hv2⟩
      subst ha2
      simp only [List.getElem?_map] at hg
      cases hfa : a.toList[f]? with
      | none => grind
      | some fd =>
        rw [hfa] at hg
        simp at hg
        subst hg
        simp_all[execOp,Instr.field,ya,asAgg]
  grind
end
end Go.V
