/- The ground on which laws of thronglaw24 are proved: contracts of functions and plain lemmas; no condition beyond the row's own. -/
import Derived.Test.YtbemejeejgpkaaaGreatVG
import Derived.Test.YtbemejeejgpkaaaGreatVC
import Derived.Test.YtbemejeejgpkaaaGreatVE
import Derived.Test.YtbemejeejgpkaaaGreatSC
import Derived.Test.YtbemejeejgpkaaaGreatSD
set_option linter.unusedSimpArgs false
set_option linter.unusedVariables false
namespace Go.Proofs
open Go Go.V
set_option maxRecDepth 4000
theorem zne (l : List Bld) (hl : l.length <= 1000000000000) (st : Store) (R : AV -> Store -> Prop) (h : ∀ z : Bool, (z = true ↔ zlw l) -> R (bool z) st) : ACalls Tryz.prog 195 [lst 6 bldC l] st R := by
 refine ACalls.of_body (c := cfg 22) zc Tryz.func195 (by rfl) (by rfl) (by rfl) (by rfl) ?_
 refine AWp.loop (σ := Nat) ⟨fun i => [(0, .av (lst 6 bldC l)), (3, .av (int (i : Nat)))], fun _ => [],
  fun i st' => 1 <= i /\ (i <= l.length \/ i = 1) /\ st' = st /\ ∀ j, (h : j < l.length) -> j < i -> 0 < j -> (l[j - 1]'(by omega)).id < l[j].id, fun i => l.length - i⟩ zc ?_ ?_
 ·exact ⟨1, Tv, ⟨Nat.le_refl _, .inr rfl, rfl, fun j _ hj => by omega⟩, ⟨Tq, Tq, Tv⟩, Tv⟩
 ·rintro i st' ⟨hi1, hi, rfl, hall⟩
  refine zd (fun h1 => ?_) (fun h1 => ?_)
  ·have hlt : i < l.length := qz h1
   refine ADraw.of_sched zc (by rfl) (by rfl) ygl (by rfl) ?_
   refine in64 (by omega) ?_
   refine ⟨i - 1, by omega, za _ (zh (show i - 1 < l.length by omega)) ?_⟩
   refine ⟨i, rfl, za _ (zh hlt) ?_⟩
   refine bcd (fun h2 => ret (h _ ?_)) (fun h2 => ?_)
   ·simp only [Bool.false_eq_true, false_iff]
    intro h3
    have := h3 i hlt (by omega)
    omega
   ·refine in64 (by omega) ?_
    refine ⟨i + 1, ?_, ⟨by omega, .inl hlt, rfl, fun j hj h0 h00 => ?_⟩, ⟨Tq, Tq, Tv⟩, Tv⟩
    ·show l.length - (i + 1) < l.length - i
     omega
    ·by_cases hji : j = i
     ·subst hji
      omega
     ·exact hall j hj (by omega) h00
  ·have hge : ¬ i < l.length := by
    rw [zi] at h1
    simpa using h1
   refine ret (h _ ?_)
   simp only [true_iff]
   exact fun j hj h0 => hall j hj (by omega) h0
theorem zu6 (l : List Bld) (hl : l.length <= 1000000000000) (st : Store) (R : AV -> Store -> Prop) (h : ∀ z : Bool, (z = true ↔ zlw l) -> R (bool z) st) : ACalls Tryz.prog 151 [lst 6 bldC l] st R := by
 refine ACalls.of_body (c := cfg 22) zc Tryz.func151 (by rfl) (by rfl) (by rfl) (by rfl) ?_
 refine AWp.loop (σ := Nat) ⟨fun i => [(0, .av (lst 6 bldC l)), (3, .av (int (i : Nat)))], fun _ => [],
  fun i st' => 1 <= i /\ (i <= l.length \/ i = 1) /\ st' = st /\ ∀ j, (h : j < l.length) -> j < i -> 0 < j -> (l[j - 1]'(by omega)).id < l[j].id, fun i => l.length - i⟩ zc ?_ ?_
 ·exact ⟨1, Tv, ⟨Nat.le_refl _, .inr rfl, rfl, fun j _ hj => by omega⟩, ⟨Tq, Tq, Tv⟩, Tv⟩
 ·rintro i st' ⟨hi1, hi, rfl, hall⟩
  refine zd (fun h1 => ?_) (fun h1 => ?_)
  ·have hlt : i < l.length := qz h1
   refine ADraw.of_sched zc (by rfl) (by rfl) yg4 (by rfl) ?_
   refine ⟨i, rfl, za _ (zh hlt) ?_⟩
   refine in64 (by omega) ?_
   refine ⟨i - 1, by omega, za _ (zh (show i - 1 < l.length by omega)) ?_⟩
   refine bcd (fun h2 => ret (h _ ?_)) (fun h2 => ?_)
   ·simp only [Bool.false_eq_true, false_iff]
    intro h3
    have := h3 i hlt (by omega)
    omega
   ·refine in64 (by omega) ?_
    refine ⟨i + 1, ?_, ⟨by omega, .inl hlt, rfl, fun j hj h0 h00 => ?_⟩, ⟨Tq, Tq, Tv⟩, Tv⟩
    ·show l.length - (i + 1) < l.length - i
     omega
    ·by_cases hji : j = i
     ·subst hji
      omega
     ·exact hall j hj (by omega) h00
  ·have hge : ¬ i < l.length := by
    rw [zi] at h1
    simpa using h1
   refine ret (h _ ?_)
   simp only [true_iff]
   exact fun j hj h0 => hall j hj (by omega) h0
theorem zwd (g : Gnd) (hg : gndP g) (a b : Bld) (ha : bldP a /\ onP g a) (hb : bldP b /\ onP g b) (st : Store) (R : AV -> Store -> Prop) (h : ∀ z : Bool, (z = true ↔ ze2 a b) -> R (bool z) st) : ACalls Tryz.prog 155 [.agg (bldC a), .agg (bldC b)] st R := by
 unfold bldP onP at ha hb
 unfold ze2 at h
 unfold gndP at hg
 refine ACalls.of_body (c := cfg 43) zc Tryz.func155 (by rfl) (by rfl) (by rfl) (by rfl) ?_
 refine in64 (by omega) ?_
 refine bcd (fun c1 => ?_) (fun c1 => ret (h _ (by simp; omega)))
 refine in64 (by omega) ?_
 refine bcd (fun c2 => ?_) (fun c2 => ret (h _ (by simp; omega)))
 refine in64 (by omega) ?_
 refine bcd (fun c3 => ?_) (fun c3 => ret (h _ (by simp; omega)))
 refine in64 (by omega) ?_
 exact ret (h _ (by rw [decide_eq_true_iff]; omega))
theorem yik (g : Gnd) (hg : gndP g) (b : Bld) (hb : bldP b /\ onP g b) (t : Nat) (ht : (t : Int) < g.W * g.H) (st : Store) (R : AV -> Store -> Prop) (h : ∀ z : Bool, (z = true ↔ hasP g b t) -> R (bool z) st) :
  ACalls Tryz.prog 127 [.agg (gndC g), .agg (bldC b), int t] st R := by
 have htb := za0 hg ht
 have hq := trem (t := t) hg.1.1
 have hq2 := tquo (t := t) hg.1.1
 unfold bldP onP at hb
 unfold hasP at h
 have hg1 := hg.1
 have hg2 := hg.2.1
 refine ACalls.of_body (c := cfg 45) zc Tryz.func127 (by rfl) (by rfl) (by rfl) (by rfl) ?_
 refine ADraw.of_sched zc (by rfl) (by rfl) yhi (by rfl) ?_
 refine ⟨by omega, ?_⟩
 refine ⟨by omega, ?_⟩
 refine in64 (by omega) ?_
 refine ⟨⟨(by repeat (first | exact Tv | refine ⟨rfl, ?_⟩ | refine ⟨optR (optR (optR (za _ (zb _ _ _) rfl))), ?_⟩)), ?_⟩, Tv⟩
 refine ⟨⟨Tv, ?_⟩, Tv⟩
 rw [<- hq, <- hq2] at h
 refine bcd (fun c1 => ?_) (fun c1 => ret (h _ (by simp; omega)))
 refine in64 (by omega) ?_
 refine bcd (fun c2 => ?_) (fun c2 => ret (h _ (by simp; omega)))
 refine bcd (fun c3 => ?_) (fun c3 => ret (h _ (by simp; omega)))
 refine in64 (by omega) ?_
 exact ret (h _ (by rw [decide_eq_true_iff]; omega))
theorem zr3 (g : Gnd) (hg : gndP g) (b : Bld) (hb : bldP b /\ onP g b) (st : Store) (R : AV -> Store -> Prop) (h : ∀ z : Bool, (z = true ↔ zhp g b) -> R (bool z) st) :
  ACalls Tryz.prog 154 [.agg (gndC g), .agg (bldC b)] st R := by
 have hm := zr hg
 refine ACalls.of_body (c := cfg 35) zc Tryz.func154 (by rfl) (by rfl) (by rfl) (by rfl) ?_
 refine AWp.loop (σ := Nat) ⟨fun i => [(2, .bx 2 0), (3, .bx 3 0), (5, .av (int (i : Nat)))], fun _ => [(2, gndC g), (3, bldC b)],
  fun i st' => i <= g.T.length /\ st' = st /\ ∀ t, t < i -> hasP g b t -> (g.T.getD t 0).toNat <= 1, fun i => g.T.length - i⟩ zc ?_ ?_
 ·exact ⟨0, Tv, ⟨Nat.zero_le _, rfl, fun t ht => by omega⟩, ⟨Tq, Tq, Tq, Tv⟩, ⟨rfl, rfl, Tv⟩⟩
 rintro i st' ⟨hi, rfl, hall⟩
 refine in64 (by omega) ?_
 refine bcd (fun h1 => ?_) (fun h1 => ?_)
 rotate_left
 ·refine ret (h _ ?_)
  simp only [true_iff]
  intro t ht
  exact hall t (by omega)
 have hlt : i < g.T.length := by omega
 have hget : g.T.getD i 0 = g.T[i] := by simp [hlt]
 have next : (hasP g b i -> (g.T.getD i 0).toNat <= 1) -> ∀ t, t < i + 1 -> hasP g b t -> (g.T.getD t 0).toNat <= 1 := by
  intro hq t ht hh
  by_cases e : t = i
  ·subst e; exact hq hh
  ·exact hall t (by omega) hh
 refine yik g hg b hb i (by omega) _ _ (fun z hz => ?_)
 cases z with
 | false =>
  refine in64 (by omega) ?_
  refine ⟨i + 1, ?_, ⟨by omega, rfl, next fun hh => by have := hz.2 hh; cases this⟩, ⟨Tq, Tq, Tq, Tv⟩, ⟨rfl, rfl, Tv⟩⟩
  show g.T.length - (i + 1) < g.T.length - i
  omega
 | true =>
  refine ⟨i, rfl, za _ (zh hlt) ?_⟩
  have fin : (g.T[i].toNat <= 1) -> ∃ s : Nat, g.T.length - s < g.T.length - i /\ (s <= g.T.length /\ st' = st' /\ ∀ t, t < s -> hasP g b t -> (g.T.getD t 0).toNat <= 1) /\ s = i + 1 :=
   fun hh => ⟨i + 1, by omega, ⟨by omega, rfl, next fun _ => by rw [hget]; exact hh⟩, rfl⟩
  refine bcne (fun c1 => ?_) (fun c1 => ?_)
  ·refine ⟨i, rfl, za _ (zh hlt) ?_⟩
   refine bcne (fun c2 => ?_) (fun c2 => ?_)
   ·refine ret (h _ ?_)
    simp only [Bool.false_eq_true, false_iff]
    intro hf
    have := hf i hlt (hz.1 rfl)
    rw [hget] at this
    omega
   ·obtain ⟨s, f1, f2, rfl⟩ := fin (by omega)
    refine in64 (by omega) ?_
    exact ⟨i + 1, f1, f2, ⟨Tq, Tq, Tq, Tv⟩, ⟨rfl, rfl, Tv⟩⟩
  ·obtain ⟨s, f1, f2, rfl⟩ := fin (by omega)
   refine in64 (by omega) ?_
   exact ⟨i + 1, f1, f2, ⟨Tq, Tq, Tq, Tv⟩, ⟨rfl, rfl, Tv⟩⟩
theorem zdo (g : Gnd) (hg : gndP g) (b : Bld) (hb : bldP b /\ onP g b) (st : Store) (R : AV -> Store -> Prop) (h : R (ints (j7 g.W b)) st) : ACalls Tryz.prog 199 [.agg (gndC g), .agg (bldC b)] st R := by
 have hb' := hb
 unfold bldP onP at hb'
 have hg1 := hg.1
 have hg2 := hg.2.1
 refine ACalls.of_body (c := cfg 35) zc Tryz.func199 (by rfl) (by rfl) (by rfl) (by rfl) ?_
 refine AWp.loop (σ := Nat × AV) ⟨fun s => [(2, .bx 2 0), (3, .bx 3 0), (4, .av s.2), (8, .av (int b.h)), (9, .av (int (s.1 : Nat)))], fun _ => [(2, gndC g), (3, bldC b)],
  fun s st' => s.1 <= b.h.toNat /\ App 1 st s.2 (rws intC (jh g.W b s.1)) st', fun s => b.h.toNat - s.1⟩ zc ?_ ?_
 ·exact ⟨(0, _), Tv, ⟨Nat.zero_le _, App.start 1 st⟩, ⟨Tq, Tq, Tq, Tq, Tq, Tv⟩, ⟨rfl, rfl, Tv⟩⟩
 rintro ⟨y, v⟩ st' ⟨hy, ha⟩
 dsimp only at hy ha ⊢
 refine bcd (fun h1 => ?_) (fun h1 => ?_)
 rotate_left
 ·have : y = b.h.toNat := by omega
  subst this
  exact ⟨_, st, AV.le_trans ha.le (Tt), ha.has, h⟩
 refine AWp.loop (σ := Nat × AV) ⟨fun s => [(2, .bx 2 0), (3, .bx 3 0), (4, .av s.2), (5, .av (int (y : Nat))), (8, .av (int b.h)), (9, .av (int (y : Nat))), (13, .av (int b.w)), (14, .av (int (s.1 : Nat)))], fun _ => [(2, gndC g), (3, bldC b)],
  fun s st' => s.1 <= b.w.toNat /\ App 1 st s.2 (rws intC (jh g.W b y ++ ja g.W b y s.1)) st', fun s => b.w.toNat - s.1⟩ zc ?_ ?_
 ·refine ⟨(0, v), Tv, ⟨Nat.zero_le _, ?_⟩, ⟨Tq, Tq, Tq, Tq, Tq, Tq, Tq, Tq, Tv⟩, ⟨rfl, rfl, Tv⟩⟩
  dsimp only
  rw [show ja g.W b y 0 = [] from rfl, List.append_nil]
  exact ha
 rintro ⟨x, v2⟩ st2 ⟨hx, ha2⟩
 dsimp only at hx ha2 ⊢
 refine bcd (fun h2 => ?_) (fun h2 => ?_)
 rotate_left
 ·have : x = b.w.toNat := by omega
  subst this
  refine in64 (by omega) ?_
  refine ⟨(y + 1, v2), ?_, ⟨by dsimp only; omega, ?_⟩, ⟨Tq, Tq, Tq, Tq, Tq, Tv⟩, ⟨rfl, rfl, Tv⟩⟩
  ·show b.h.toNat - (y + 1) < b.h.toNat - y
   omega
  ·dsimp only
   rw [zaz]
   exact ha2
 obtain ⟨q1, q2, _⟩ := ji hg (x := b.x + x) (y := b.y + y) (by omega) (by omega)
 have hm := zr hg
 have q3 : 0 <= g.W * (b.y + (y : Int)) := Int.mul_nonneg (by omega) (by omega)
 refine in64 (by omega) ?_
 refine in64 (by omega) ?_
 refine in64 (by omega) ?_
 refine in64 (by omega) ?_
 refine ⟨by decide, ?_⟩
 have hlen : (jh g.W b y ++ ja g.W b y x).length <= 16 := by
  rw [List.length_append, zcd, zfv]
  have : y * b.w.toNat <= 3 * 4 := Nat.mul_le_mul (by omega) (by omega)
  omega
 refine ql (ie := ti3) (rows' := [intC (b.x + (x : Int) + g.W * (b.y + (y : Int)))]) ha2 ?_ ?_ ⟨?_, ?_⟩ (fun v3 st3 ha3 => ?_)
 ·rfl
 ·rfl
 ·simp only [zi, List.length_singleton, ti3]; omega
 ·simp only [zi, List.length_singleton]; omega
 refine in64 (by omega) ?_
 refine ⟨(x + 1, v3), ?_, ⟨by dsimp only; omega, ?_⟩, ⟨Tq, Tq, Tq, Tq, Tq, Tq, Tq, Tq, Tv⟩, ⟨rfl, rfl, Tv⟩⟩
 ·show b.w.toNat - (x + 1) < b.w.toNat - x
  omega
 ·dsimp only
  rw [zle, <- List.append_assoc]
  unfold rws
  rw [List.map_append]
  exact ha3
end Go.Proofs
namespace Go.Proofs
open Go Go.V
set_option maxRecDepth 4000
theorem zj7 (l : List Int) (hl : l.length <= 1000000000000) (fn : FuncId) (cap : List AV) (q : Int -> Bool) (st : Store) (hf : ∀ x ∈ l, ∀ R : AV -> Store -> Prop, R (bool (q x)) st -> ACalls Tryz.prog fn ([int x] ++ cap) st R)
  (R : AV -> Store -> Prop) (h : R (int (idxI (l.findIdx? q))) st) : ACalls Tryz.prog 230 [lst 1 intC l, .clos fn cap] st R := by
 refine ACalls.of_body (c := cfg 19) zc Tryz.func230 (by rfl) (by rfl) (by rfl) (by rfl) ?_
 refine AWp.loop (σ := Nat) ⟨fun i => [(0, .av (lst 1 intC l)), (1, .av (.clos fn cap)), (7, .av (int (l.length : Nat))), (8, .av (int (i : Nat)))], fun _ => [],
  fun i st' => i <= l.length /\ st' = st /\ ∀ j, (hj : j < l.length) -> j < i -> q l[j] = false, fun i => l.length - i⟩ zc ?_ ?_
 ·refine ⟨0, Tv, ⟨Nat.zero_le _, rfl, fun j _ hj => by omega⟩, ⟨Tq, Tq, ?_, Tq, Tv⟩, Tv⟩
  rw [<- zi (f := intC) l]
  exact Tq
 rintro i st' ⟨hi, rfl, hall⟩
 refine bcd (fun h1 => ?_) (fun h1 => ?_)
 rotate_left
 ·have e : l.findIdx? q = none := by
   rw [List.findIdx?_eq_none_iff]
   intro x hx
   obtain ⟨j, hj, rfl⟩ := List.getElem_of_mem hx
   exact hall j hj (by omega)
  rw [e] at h
  exact ret h
 have hlt : i < l.length := by omega
 refine ⟨i, rfl, za _ (zh hlt) ?_⟩
 refine hf l[i] (List.getElem_mem hlt) _ ?_
 refine zd (fun h2 => ?_) (fun h2 => ?_)
 ·have e : l.findIdx? q = some i := by
   rw [List.findIdx?_eq_some_iff_getElem]
   exact ⟨hlt, h2, fun j hj => by rw [hall j (by omega) hj]; decide⟩
  rw [e] at h
  exact ret h
 ·refine in64 (by omega) ?_
  refine ⟨i + 1, ?_, ⟨by omega, rfl, fun j hj hj2 => ?_⟩, ⟨Tq, Tq, Tq, Tq, Tv⟩, Tv⟩
  ·show l.length - (i + 1) < l.length - i
   omega
  ·by_cases e : j = i
   ·subst e; exact h2
   ·exact hall j hj (by omega)
theorem ze3 (l : List Int) (hl : l.length <= 1000000000000) (fn : FuncId) (cap : List AV) (q : Int -> Bool) (st : Store) (hf : ∀ x ∈ l, ∀ R : AV -> Store -> Prop, R (bool (q x)) st -> ACalls Tryz.prog fn ([int x] ++ cap) st R)
  (R : AV -> Store -> Prop) (h : R (bool (l.any q)) st) : ACalls Tryz.prog 223 [lst 1 intC l, .clos fn cap] st R := by
 refine ACalls.of_body (c := cfg 9) zc Tryz.func223 (by rfl) (by rfl) (by rfl) (by rfl) ?_
 refine zj7 l hl fn cap q st hf _ ?_
 have e : decide ((0 : Int) <= idxI (l.findIdx? q)) = l.any q := by
  cases hx : l.findIdx? q with
  | none =>
   rw [List.findIdx?_eq_none_iff] at hx
   rw [show decide ((0 : Int) <= idxI none) = false from by decide]
   symm
   rw [List.any_eq_false]
   intro x hm
   rw [hx x hm]; decide
  | some i =>
   rw [List.findIdx?_eq_some_iff_getElem] at hx
   obtain ⟨hi, h1, _⟩ := hx
   rw [show decide ((0 : Int) <= idxI (some i)) = true from by simp [idxI]]
   symm
   rw [List.any_eq_true]
   exact ⟨l[i], List.getElem_mem hi, h1⟩
 rw [<- e] at h
 exact ret h
theorem zks (l : List Bld) (hl : l.length <= 1000000000000) (fn : FuncId) (cap : List AV) (q : Bld -> Bool) (st : Store) (hf : ∀ x ∈ l, ∀ R : AV -> Store -> Prop, R (bool (q x)) st -> ACalls Tryz.prog fn ([.agg (bldC x)] ++ cap) st R)
  (R : AV -> Store -> Prop) (h : R (int (idxI (l.findIdx? q))) st) : ACalls Tryz.prog 200 [lst 6 bldC l, .clos fn cap] st R := by
 refine ACalls.of_body (c := cfg 19) zc Tryz.func200 (by rfl) (by rfl) (by rfl) (by rfl) ?_
 refine AWp.loop (σ := Nat) ⟨fun i => [(0, .av (lst 6 bldC l)), (1, .av (.clos fn cap)), (7, .av (int (l.length : Nat))), (8, .av (int (i : Nat)))], fun _ => [],
  fun i st' => i <= l.length /\ st' = st /\ ∀ j, (hj : j < l.length) -> j < i -> q l[j] = false, fun i => l.length - i⟩ zc ?_ ?_
 ·refine ⟨0, Tv, ⟨Nat.zero_le _, rfl, fun j _ hj => by omega⟩, ⟨Tq, Tq, ?_, Tq, Tv⟩, Tv⟩
  rw [<- zi (f := bldC) l]
  exact Tq
 rintro i st' ⟨hi, rfl, hall⟩
 refine bcd (fun h1 => ?_) (fun h1 => ?_)
 rotate_left
 ·have e : l.findIdx? q = none := by
   rw [List.findIdx?_eq_none_iff]
   intro x hx
   obtain ⟨j, hj, rfl⟩ := List.getElem_of_mem hx
   exact hall j hj (by omega)
  rw [e] at h
  exact ret h
 have hlt : i < l.length := by omega
 refine ⟨i, rfl, za _ (zh hlt) ?_⟩
 refine hf l[i] (List.getElem_mem hlt) _ ?_
 refine zd (fun h2 => ?_) (fun h2 => ?_)
 ·have e : l.findIdx? q = some i := by
   rw [List.findIdx?_eq_some_iff_getElem]
   exact ⟨hlt, h2, fun j hj => by rw [hall j (by omega) hj]; decide⟩
  rw [e] at h
  exact ret h
 ·refine in64 (by omega) ?_
  refine ⟨i + 1, ?_, ⟨by omega, rfl, fun j hj hj2 => ?_⟩, ⟨Tq, Tq, Tq, Tq, Tv⟩, Tv⟩
  ·show l.length - (i + 1) < l.length - i
   omega
  ·by_cases e : j = i
   ·subst e; exact h2
   ·exact hall j hj (by omega)
theorem ze7 (l : List Bld) (hl : l.length <= 1000000000000) (fn : FuncId) (cap : List AV) (q : Bld -> Bool) (st : Store) (hf : ∀ x ∈ l, ∀ R : AV -> Store -> Prop, R (bool (q x)) st -> ACalls Tryz.prog fn ([.agg (bldC x)] ++ cap) st R)
  (R : AV -> Store -> Prop) (h : R (bool (l.any q)) st) : ACalls Tryz.prog 167 [lst 6 bldC l, .clos fn cap] st R := by
 refine ACalls.of_body (c := cfg 9) zc Tryz.func167 (by rfl) (by rfl) (by rfl) (by rfl) ?_
 refine zks l hl fn cap q st hf _ ?_
 have e : decide ((0 : Int) <= idxI (l.findIdx? q)) = l.any q := by
  cases hx : l.findIdx? q with
  | none =>
   rw [List.findIdx?_eq_none_iff] at hx
   rw [show decide ((0 : Int) <= idxI none) = false from by decide]
   symm
   rw [List.any_eq_false]
   intro x hm
   rw [hx x hm]; decide
  | some i =>
   rw [List.findIdx?_eq_some_iff_getElem] at hx
   obtain ⟨hi, h1, _⟩ := hx
   rw [show decide ((0 : Int) <= idxI (some i)) = true from by simp [idxI]]
   symm
   rw [List.any_eq_true]
   exact ⟨l[i], List.getElem_mem hi, h1⟩
 rw [<- e] at h
 exact ret h
theorem zo1 (g : Gnd) (p : Nat) (t : Nat) (ht : t < g.T.length) (st : Store) (hp : st.obj p = some (.cells (gndC g))) (R : AV -> Store -> Prop) (h : R (bool (decide ((g.T.getD t 0).toNat > 1))) st) :
  ACalls Tryz.prog 224 ([int (t : Nat)] ++ [ptr p]) st R := by
 have hget : g.T.getD t 0 = g.T[t] := by simp [ht]
 rw [hget] at h
 refine ACalls.of_body (c := cfg 10) zc Tryz.func224 (by rfl) (by rfl) (by rfl) (by rfl) ?_
 refine za _ hp ?_
 refine ⟨t, rfl, za _ (zh ht) ?_⟩
 refine ret ?_
 have e : decide ((1 : Int) < (g.T[t].toNat : Int)) = decide (g.T[t].toNat > 1) := by
  rw [Bool.eq_iff_iff, decide_eq_true_iff, decide_eq_true_iff]; omega
 rw [<- e] at h
 exact h
theorem zti (g : Gnd) (hg : gndP g) (b : Bld) (hb : bldP b /\ onP g b) (st : Store) (R : AV -> Store -> Prop) (h : ∀ z : Bool, (z = true ↔ zhp g b) -> R (bool z) st) :
  ACalls Tryz.prog 198 [.agg (gndC g), .agg (bldC b)] st R := by
 have hm := zr hg
 refine ACalls.of_body (c := cfg 11 [2] []) zc Tryz.func198 (by rfl) (by rfl) (by rfl) (by rfl) ?_
 intro p hp
 have ho : (st.setObj p (.cells (gndC g))).obj p = some (.cells (gndC g)) := zb _ _ _
 refine za _ ho ?_
 refine zdo g hg b hb _ _ ?_
 have hl : (j7 g.W b).length <= 1000000000000 := by
  unfold j7
  rw [zcd]
  have hb' := hb.1
  unfold bldP at hb'
  have : b.h.toNat * b.w.toNat <= 4 * 4 := Nat.mul_le_mul (by omega) (by omega)
  omega
 refine ze3 (j7 g.W b) hl _ _ (fun x => decide ((g.T.getD x.toNat 0).toNat > 1)) _ (fun x hx R h => ?_) _ ?_
 ·obtain ⟨n, rfl, hn, hh⟩ := (xx hg hb.1 hb.2 x).1 hx
  exact zo1 g p n (by omega) _ ho R (by rw [Int.toNat_natCast] at h; exact h)
 refine j8 (Tt) (y8 hp.1) (h _ ?_)
 unfold zhp
 rw [Bool.not_eq_true', List.any_eq_false]
 constructor
 ·intro hh t ht hb2
  have := hh (t : Int) ((xx hg hb.1 hb.2 _).2 ⟨t, rfl, by omega, hb2⟩)
  rw [decide_eq_true_iff, Int.toNat_natCast] at this
  omega
 ·intro hh x hx
  obtain ⟨n, rfl, hn, hb2⟩ := (xx hg hb.1 hb.2 x).1 hx
  rw [decide_eq_true_iff, Int.toNat_natCast]
  have := hh n (by omega) hb2
  omega
end Go.Proofs
namespace Go.Proofs
open Go Go.V
set_option maxRecDepth 4000
/-- A slice of yes and no, all its own. -/
def blV (b n : Nat) : AV := .s (.slice (some ⟨b, 0, none⟩) n n)
theorem zte (g : Gnd) (hg : gndP g) (l : List Bld) (hl : l.length <= 1000000000000) (hb : ∀ b ∈ l, bldP b /\ onP g b) (st : Store) (R : AV -> Store -> Prop)
  (h : ∀ b, Fresh st b -> R (blV b g.T.length) (st.setObj b (.cells (bl g.T.length (covB g l))))) : ACalls Tryz.prog 221 [.agg (gndC g), lst 6 bldC l] st R := by
 have ha := zr hg
 have hT : ((rws u8C g.T).length : Int) = (g.T.length : Int) := by rw [zi]
 refine ACalls.of_body (c := cfg 34) zc Tryz.func221 (by rfl) (by rfl) (by rfl) (by rfl) ?_
 refine qa rfl (it := ti60) (ie := ti4) rfl rfl rfl rfl rfl (n := (rws u8C g.T).length) ?_ ?_ (fun b hf => ?_)
 ·rw [zi]; show 1 * _ <= _; omega
 ·rw [zi]; omega
 rw [zi, zbj]
 refine AWp.loop (σ := Nat) ⟨fun i => [(2, .bx 2 0), (5, .av (blV b g.T.length)), (14, .av (lst 6 bldC l)), (15, .av (int (l.length : Nat))), (16, .av (int (i : Nat)))], fun _ => [(2, gndC g)],
  fun i st' => i <= l.length /\ st' = st.setObj b (.cells (bl g.T.length (covB g (l.take i)))), fun i => l.length - i⟩ zc ?_ ?_
 ·refine ⟨0, Tv, ⟨Nat.zero_le _, rfl⟩, ⟨Tq, Tq, Tq, ?_, Tq, Tv⟩, ⟨rfl, Tv⟩⟩
  rw [<- zi (f := bldC) l]
  exact Tq
 rintro i st' ⟨hi, rfl⟩
 refine bcd (fun h1 => ?_) (fun h1 => ?_)
 rotate_left
 ·have : i = l.length := by omega
  subst this
  rw [List.take_length]
  exact ret (h b hf)
 have hlt : i < l.length := by omega
 have hbi := hb l[i] (List.getElem_mem hlt)
 refine ⟨i, rfl, za _ (zh hlt) ?_⟩
 refine zdo g hg l[i] hbi _ _ ?_
 have hcov := fun (t : Nat) (ht : t < g.T.length) => zm5 hg hlt hbi ht
 have hmem := xx hg hbi.1 hbi.2
 have h0 := zm3 g l i (j7 g.W l[i])
 have hts := zh3 g.W hbi.1
 generalize j7 g.W l[i] = ts at *
 refine AWp.loop (σ := Nat) ⟨fun k => [(2, .bx 2 0), (5, .av (blV b g.T.length)), (14, .av (lst 6 bldC l)), (15, .av (int (l.length : Nat))), (16, .av (int (i : Nat))), (22, .av (ints ts)), (23, .av (int (ts.length : Nat))), (24, .av (int (k : Nat)))], fun _ => [(2, gndC g)],
  fun k st' => k <= ts.length /\ st' = st.setObj b (.cells (bl g.T.length (covF g l i ts k))), fun k => ts.length - k⟩ zc ?_ ?_
 ·refine ⟨0, Tv, ⟨Nat.zero_le _, ?_⟩, ⟨Tq, Tq, Tq, Tq, Tq, Tq, ?_, Tq, Tv⟩, ⟨rfl, Tv⟩⟩
  ·rw [show covF g l i ts 0 = covB g (l.take i) from funext h0]
  ·rw [<- zi (f := intC) ts]
   exact Tq
 rintro k st' ⟨hk, rfl⟩
 refine bcd (fun h2 => ?_) (fun h2 => ?_)
 rotate_left
 ·have : k = ts.length := by omega
  subst this
  refine in64 (by omega) ?_
  refine ⟨i + 1, ?_, ⟨by omega, ?_⟩, ⟨Tq, Tq, Tq, Tq, Tq, Tv⟩, ⟨rfl, Tv⟩⟩
  ·show l.length - (i + 1) < l.length - i
   omega
  ·have : bl g.T.length (covF g l i ts ts.length) = bl g.T.length (covB g (l.take (i + 1))) := by
    unfold bl
    exact List.map_congr_left fun t ht => by rw [hcov t (List.mem_range.1 ht)]
   rw [this]
 have hklt : k < ts.length := by omega
 obtain ⟨n, hn, hn2, hn3⟩ := (hmem ts[k]).1 (List.getElem_mem hklt)
 have hnl : n < g.T.length := by omega
 obtain ⟨s1, s2⟩ := zm4 (g := g) (l := l) (i := i) hklt hn
 refine ⟨k, rfl, za _ (zh hklt) ?_⟩
 refine ⟨n, hn, hnl, ?_⟩
 refine zj (i := ti4) (v := bool true) (b := b) (o := 0 + n * 1) (l := bl g.T.length (covF g l i ts k)) (st2 := st.setObj b (.cells (bl g.T.length (covF g l i ts (k + 1))))) rfl rfl rfl (zb _ _ _) (by rw [xg]; omega) ?_ ?_
 ·rw [zg, show 0 + n * 1 = n by omega, <- s1, zbk hnl _ s2]
 refine in64 (by omega) ?_
 refine ⟨k + 1, ?_, ⟨by omega, rfl⟩, ⟨Tq, Tq, Tq, Tq, Tq, Tq, Tq, Tq, Tv⟩, ⟨rfl, Tv⟩⟩
 show ts.length - (k + 1) < ts.length - k
 omega
theorem ky (n : Nat) (f : Nat -> Bool) : (rws vg (blL n f)).flatten ++ [] = bl n f := by rw [List.append_nil, yok]
def opV (g : Gnd) (l : List Bld) (c : Int) : AV := lst 1 vg (blL g.T.length (yc g l c))
/-- Half done: the first tiles are asked for their zn0 as well. -/
def midB (g : Gnd) (l : List Bld) (c : Int) (i t : Nat) : Bool := if t < i then yc g l c t else covB g l t
theorem xt (g : Gnd) (hg : gndP g) (l : List Bld) (hl : l.length <= 1000000000000) (hb : ∀ b ∈ l, bldP b /\ onP g b) (c : Int) (st : Store) (R : AV -> Store -> Prop) (h : R (opV g l c) st) :
  ACalls Tryz.prog 190 [.agg (gndC g), lst 6 bldC l, int c] st R := by
 have ha := zr hg
 refine ACalls.of_awp (c := cfg 37) zc Tryz.func190 (by rfl) (by rfl) (by rfl) (by rfl) ?_
 refine AWp.seq (AWp.of_vc zc ?_)
 refine AWp.seq (AWp.of_vc zc ?_)
 refine zte g hg l hl hb _ _ (fun b hf => ?_)
 have step : ∀ i, i < g.T.length -> midB g l c (i + 1) i = yc g l c i /\ ∀ s, s ≠ i -> midB g l c (i + 1) s = midB g l c i s := fun i hi => by
  unfold midB
  refine ⟨if_pos (by omega), fun s hs => ?_⟩
  by_cases h1 : s < i
  ·rw [if_pos (by omega), if_pos h1]
  ·rw [if_neg (by omega), if_neg h1]
 refine AWp.meetA (σ := Unit) ⟨fun _ => [(7, .av (blV b g.T.length))], fun _ => [], fun _ st' => st' = st.setObj b (.cells (bl g.T.length (yc g l c)))⟩ ?_ ?_
 ·refine AWp.of_vc zc ?_
  refine AWp.loop (σ := Nat) ⟨fun i => [(2, .av (int c)), (3, .bx 3 0), (7, .av (blV b g.T.length)), (13, .av (blV b g.T.length)), (14, .av (int (g.T.length : Nat))), (15, .av (int (i : Nat)))], fun _ => [(3, gndC g)],
   fun i st' => i <= g.T.length /\ st' = st.setObj b (.cells (bl g.T.length (midB g l c i))), fun i => g.T.length - i⟩ zc ?_ ?_
  ·refine ⟨0, Tv, ⟨Nat.zero_le _, ?_⟩, ⟨Tq, Tq, Tq, Tq, Tq, Tq, Tv⟩, ⟨rfl, Tv⟩⟩
   rw [show midB g l c 0 = covB g l from funext fun t => if_neg (Nat.not_lt_zero t)]
  rintro i st' ⟨hi, rfl⟩
  refine bcd (fun h1 => ?_) (fun h1 => ?_)
  rotate_left
  ·have : i = g.T.length := by omega
   subst this
   refine ⟨(), ?_, ⟨Tq, Tv⟩, Tv⟩
   have : bl g.T.length (midB g l c g.T.length) = bl g.T.length (yc g l c) := by
    unfold bl midB
    exact List.map_congr_left fun t ht => by rw [if_pos (List.mem_range.1 ht)]
   rw [this]
  have hlt : i < g.T.length := by omega
  obtain ⟨s1, s2⟩ := step i hlt
  have ho : (st.setObj b (.cells (bl g.T.length (midB g l c i)))).obj b = some (.cells (bl g.T.length (midB g l c i))) := zb _ _ _
  have hmid : midB g l c i i = covB g l i := if_neg (Nat.lt_irrefl i)
  have hhead : ((bl g.T.length (midB g l c i)).drop (0 + i * 1)).head? = some (bool (covB g l i)) := by
   rw [List.head?_drop, show 0 + i * 1 = i by omega, zdm hlt, hmid]
  refine ⟨i, rfl, hlt, ?_⟩
  refine za _ ho (za _ hhead ?_)
  have hti : g.T[i].toNat <= 5 := hg.2.2.2 _ (List.getElem_mem hlt)
  have hget : g.T.getD i 0 = g.T[i] := by simp [hlt]
  refine zd (fun c1 => ?_) (fun c1 => ?_)
  ·have c1 : covB g l i = false := by simpa using c1
   refine ⟨i, rfl, za _ (zh hlt) ?_⟩
   refine zdv c g.T[i] hti _ _ ?_
   have hz : decide (0 < zar c g.T[i].toNat) = yc g l c i := by
    unfold yc
    rw [c1, hget]; rfl
   refine ⟨i, rfl, hlt, ?_⟩
   refine zj (i := ti4) (v := bool (decide (0 < zar c g.T[i].toNat))) (b := b) (o := 0 + i * 1) (l := _) (st2 := st.setObj b (.cells (bl g.T.length (midB g l c (i + 1))))) rfl rfl rfl ho (by rw [xg]; omega) (by rw [zg, show 0 + i * 1 = i by omega, hz, <- s1, zbk hlt _ s2]) ?_
   refine in64 (by omega) ?_
   refine ⟨i + 1, ?_, ⟨by omega, rfl⟩, ⟨Tq, Tq, Tq, Tq, Tq, Tq, Tv⟩, ⟨rfl, Tv⟩⟩
   show g.T.length - (i + 1) < g.T.length - i
   omega
  ·have c1 : covB g l i = true := by simpa using c1
   have hz : false = yc g l c i := by
    unfold yc
    rw [c1]; rfl
   refine ⟨i, rfl, hlt, ?_⟩
   refine zj (i := ti4) (v := bool false) (b := b) (o := 0 + i * 1) (l := _) (st2 := st.setObj b (.cells (bl g.T.length (midB g l c (i + 1))))) rfl rfl rfl ho (by rw [xg]; omega) (by rw [zg, show 0 + i * 1 = i by omega, hz, <- s1, zbk hlt _ s2]) ?_
   refine in64 (by omega) ?_
   refine ⟨i + 1, ?_, ⟨by omega, rfl⟩, ⟨Tq, Tq, Tq, Tq, Tq, Tq, Tv⟩, ⟨rfl, Tv⟩⟩
   show g.T.length - (i + 1) < g.T.length - i
   omega
 ·rintro _ _ rfl
  refine AWp.freeze (d := 7) (b := b) (k := 1) (n := g.T.length) (cap := g.T.length) (rows := rws vg (blL g.T.length (yc g l c))) (pad := []) rfl ?_ ?_ ?_ (Nat.le_refl _) ?_ ?_ ?_
  ·rw [ky]; exact zb _ _ _
  ·exact hf.2
  ·rw [zi, yo]
  ·intro row hr
   obtain ⟨x, _, rfl⟩ := List.mem_map.1 hr
   rfl
  ·intro row hr y hy
   obtain ⟨x, _, rfl⟩ := List.mem_map.1 hr
   simp [vg] at hy
   exact ⟨_, hy, rfl⟩
  rw [xc hf.1]
  refine AWp.of_vc zc ?_
  exact ret h
end Go.Proofs
namespace Go.Proofs
open Go Go.V
set_option maxRecDepth 4000
set_option maxHeartbeats 1000000 in
theorem zkr (g : Gnd) (hg : gndP g) (l : List Bld) (hl : l.length <= 1000000000000) (st : Store) (R : AV -> Store -> Prop)
  (h : ∀ z : Bool, (z = true ↔ znf g l) -> R (bool z) st) : ACalls Tryz.prog 166 [.agg (gndC g), lst 6 bldC l] st R := by
 have ha := zr hg
 have hT : ((rws u8C g.T).length : Int) = (g.T.length : Int) := by rw [zi]
 have hL : ((rws bldC l).length : Int) = (l.length : Int) := by rw [zi]
 have no : ¬ znf g l -> R (bool false) st := fun hn => h false (by simp [hn])
 refine ACalls.of_body (c := cfg 60) zc Tryz.func166 (by rfl) (by rfl) (by rfl) (by rfl) ?_
 refine bcd (fun c1 => ret (no fun q => by have := q.1; omega)) (fun c1 => ?_)
 refine zne l hl _ _ (fun z hz => ?_)
 refine yk ?_
 refine zd (fun c2 => ?_) (fun c2 => ret (no fun q => by have := hz.2 q.2.1; rw [this] at c2; cases c2))
 have hr := hz.1 c2
 refine qa rfl (it := ti60) (ie := ti4) rfl rfl rfl rfl rfl (n := (rws u8C g.T).length) ?_ ?_ (fun b hf => ?_)
 ·rw [zi]; show 1 * _ <= _; omega
 ·rw [zi]; omega
 rw [zi (f := u8C) g.T, zbj]
 have hhas : ∀ f : Nat -> Bool, (st.setObj b (.cells (bl g.T.length f))).Has st := fun f => y8 hf.1
 refine AWp.loop (σ := Nat) ⟨fun i => [(2, .bx 2 0), (5, .av (blV b g.T.length)), (22, .av (lst 6 bldC l)), (23, .av (int (l.length : Nat))), (24, .av (int (i : Nat)))], fun _ => [(2, gndC g)],
  fun i st' => i <= l.length /\ st' = st.setObj b (.cells (bl g.T.length (covB g (l.take i)))) /\ yi5 g l i, fun i => l.length - i⟩ zc ?_ ?_
 ·refine ⟨0, Tv, ⟨Nat.zero_le _, rfl, fun j _ hj => by omega⟩, ⟨Tq, Tq, Tq, ?_, Tq, Tv⟩, ⟨rfl, Tv⟩⟩
  rw [<- zi (f := bldC) l]
  exact Tq
 rintro i st' ⟨hi, rfl, hup⟩
 refine bcd (fun h1 => ?_) (fun h1 => ?_)
 rotate_left
 ·have : i = l.length := by omega
  subst this
  have hall := znd hup
  exact j8 (Tt) (hhas _) (h true (by simp; exact ⟨by omega, hr, hall.1, hall.2⟩))
 have hlt : i < l.length := by omega
 have nof : ¬ znf g l -> ∃ r st', AV.le (bool false) r /\ (st.setObj b (.cells (bl g.T.length (covB g (l.take i))))).Has st' /\ R r st' := fun hn => j8 (Tt) (hhas _) (no hn)
 refine ⟨i, rfl, za _ (zh hlt) ?_⟩
 refine zth l[i] _ _ (fun z1 hz1 => ?_)
 refine yk ?_
 refine zd (fun c3 => ?_) (fun c3 => nof fun q => by have := hz1.2 (q.2.2.1 _ (List.getElem_mem hlt)).1; rw [this] at c3; cases c3)
 have hb1 := hz1.1 c3
 refine yi7 g l[i] hg hb1 _ _ (fun z2 hz2 => ?_)
 refine yk ?_
 refine zd (fun c4 => ?_) (fun c4 => nof fun q => by have := hz2.2 (q.2.2.1 _ (List.getElem_mem hlt)).2.1; rw [this] at c4; cases c4)
 have hb2 := hz2.1 c4
 refine zti g hg l[i] ⟨hb1, hb2⟩ _ _ (fun z3 hz3 => ?_)
 refine yk ?_
 refine zd (fun c5 => ?_) (fun c5 => nof fun q => by have := hz3.2 (q.2.2.1 _ (List.getElem_mem hlt)).2.2; rw [this] at c5; cases c5)
 have hb3 := hz3.1 c5
 have hbi : bldP l[i] /\ onP g l[i] := ⟨hb1, hb2⟩
 refine zdo g hg l[i] hbi _ _ ?_
 have hcov := fun (t : Nat) (ht : t < g.T.length) => zm5 hg hlt hbi ht
 have hmem := xx hg hbi.1 hbi.2
 have h0 := zm3 g l i (j7 g.W l[i])
 have hts := zh3 g.W hbi.1
 have hcm := yi0 hg hlt hbi hup
 have hso := zjh hg hbi
 generalize j7 g.W l[i] = ts at *
 refine AWp.loop (σ := Nat) ⟨fun k => [(2, .bx 2 0), (5, .av (blV b g.T.length)), (22, .av (lst 6 bldC l)), (23, .av (int (l.length : Nat))), (24, .av (int (i : Nat))), (45, .av (ints ts)), (46, .av (int (ts.length : Nat))), (47, .av (int (k : Nat)))], fun _ => [(2, gndC g)],
  fun k st' => k <= ts.length /\ st' = st.setObj b (.cells (bl g.T.length (covF g l i ts k))) /\ ∀ m, (hm : m < ts.length) -> m < k -> covB g (l.take i) ts[m].toNat = false, fun k => ts.length - k⟩ zc ?_ ?_
 ·refine ⟨0, Tv, ⟨Nat.zero_le _, ?_, fun m _ hm => by omega⟩, ⟨Tq, Tq, Tq, Tq, Tq, Tq, ?_, Tq, Tv⟩, ⟨rfl, Tv⟩⟩
  ·rw [show covF g l i ts 0 = covB g (l.take i) from funext h0]
  ·rw [<- zi (f := intC) ts]
   exact Tq
 rintro k st' ⟨hk, rfl, hno⟩
 refine bcd (fun h2 => ?_) (fun h2 => ?_)
 rotate_left
 ·have : k = ts.length := by omega
  subst this
  refine in64 (by omega) ?_
  refine ⟨i + 1, ?_, ⟨by omega, ?_, fun j hj hji => ?_⟩, ⟨Tq, Tq, Tq, Tq, Tq, Tv⟩, ⟨rfl, Tv⟩⟩
  ·show l.length - (i + 1) < l.length - i
   omega
  ·have : bl g.T.length (covF g l i ts ts.length) = bl g.T.length (covB g (l.take (i + 1))) := by
    unfold bl
    exact List.map_congr_left fun t ht => by rw [hcov t (List.mem_range.1 ht)]
   rw [this]
  ·by_cases e : j = i
   ·subst e
    refine ⟨⟨hb1, hb2, hb3⟩, fun m hm hmt => ?_⟩
    obtain ⟨t, ht, hc⟩ := hcm.2 ⟨m, hm, hmt⟩
    obtain ⟨q, hq, rfl⟩ := List.getElem_of_mem ht
    rw [hno q hq hq] at hc
    cases hc
   ·exact hup j hj (by omega)
 have hklt : k < ts.length := by omega
 obtain ⟨n, hn, hn2, hn3⟩ := (hmem ts[k]).1 (List.getElem_mem hklt)
 have hnl : n < g.T.length := by omega
 obtain ⟨s1, s2⟩ := zm4 (g := g) (l := l) (i := i) hklt hn
 have hnk : covF g l i ts k n = covB g (l.take i) n := by
  unfold covF
  have : (ts.take k).contains (n : Int) = false := by
   rw [<- hn]
   have := zl5 hso hklt
   simpa using this
  rw [this, Bool.or_false]
 refine ⟨k, rfl, za _ (zh hklt) ?_⟩
 have ho : (st.setObj b (.cells (bl g.T.length (covF g l i ts k)))).obj b = some (.cells (bl g.T.length (covF g l i ts k))) := zb _ _ _
 have hhead : ((bl g.T.length (covF g l i ts k)).drop (0 + n * 1)).head? = some (V.bool (covB g (l.take i) n)) := by
  rw [List.head?_drop, show 0 + n * 1 = n by omega, zdm hnl, hnk]
 refine ⟨n, hn, hnl, ?_⟩
 refine za _ ho (za _ hhead ?_)
 refine zd (fun c6 => ?_) (fun c6 => ?_)
 ·refine j8 (Tt) (hhas _) (no fun q => ?_)
  obtain ⟨m, hm, hmt⟩ := hcm.1 ⟨ts[k], List.getElem_mem hklt, by rw [hn, Int.toNat_natCast]; exact c6⟩
  exact q.2.2.2 i hlt m hm hmt
 refine ⟨n, hn, hnl, ?_⟩
 refine zj (i := ti4) (v := bool true) (b := b) (o := 0 + n * 1) (l := bl g.T.length (covF g l i ts k)) (st2 := st.setObj b (.cells (bl g.T.length (covF g l i ts (k + 1))))) rfl rfl rfl (zb _ _ _) (by rw [xg]; omega) ?_ ?_
 ·rw [zg, show 0 + n * 1 = n by omega, <- s1, zbk hnl _ s2]
 refine in64 (by omega) ?_
 refine ⟨k + 1, ?_, ⟨by omega, rfl, fun m hm hmk => ?_⟩, ⟨Tq, Tq, Tq, Tq, Tq, Tq, Tq, Tq, Tv⟩, ⟨rfl, Tv⟩⟩
 ·show ts.length - (k + 1) < ts.length - k
  omega
 ·by_cases e : m = k
  ·subst e
   rw [hn, Int.toNat_natCast]; exact c6
  ·exact hno m hm (by omega)
end Go.Proofs
namespace Go.Proofs
open Go Go.V
set_option maxRecDepth 4000
theorem zhk (g : Gnd) (hgf : g.fits) (l : List Bld) (hl : l.length <= 1000000000000) (st : Store) (R : AV -> Store -> Prop)
  (h : ∀ z : Bool, (z = true ↔ gndP g /\ znf g l) -> R (bool z) st) : ACalls Tryz.prog 95 [.agg (gndC g), lst 6 bldC l] st R := by
 have hL : ((rws bldC l).length : Int) = (l.length : Int) := by rw [zi]
 have no : ¬ (gndP g /\ znf g l) -> R (bool false) st := fun hn => h false (by simp only [Bool.false_eq_true, false_iff]; exact hn)
 refine ACalls.of_body (c := cfg 64) zc Tryz.func95 (by rfl) (by rfl) (by rfl) (by rfl) ?_
 refine zmp g hgf _ _ (fun z hz => ?_)
 refine yk ?_
 refine zd (fun c0 => ?_) (fun c0 => ret (no fun q => by have := hz.2 q.1; rw [this] at c0; cases c0))
 have hg := hz.1 c0
 refine bcd (fun c1 => ret (no fun q => by have := q.2.1; omega)) (fun c1 => ?_)
 refine zu6 l hl _ _ (fun z hz => ?_)
 refine yk ?_
 refine zd (fun c2 => ?_) (fun c2 => ret (no fun q => by have := hz.2 q.2.2.1; rw [this] at c2; cases c2))
 have hr := hz.1 c2
 refine AWp.loop (σ := Nat) ⟨fun i => [(1, .av (lst 6 bldC l)), (2, .bx 2 0), (5, .av (int (i : Nat)))], fun _ => [(2, gndC g)],
  fun i st' => i <= l.length /\ st' = st /\ yi5 g l i, fun i => l.length - i⟩ zc ?_ ?_
 ·exact ⟨0, Tv, ⟨Nat.zero_le _, rfl, fun j _ hj => by omega⟩, ⟨Tq, Tq, Tq, Tv⟩, ⟨rfl, Tv⟩⟩
 rintro i st' ⟨hi, rfl, hup⟩
 refine bcd (fun h1 => ?_) (fun h1 => ?_)
 rotate_left
 ·have : i = l.length := by omega
  subst this
  have hall := znd hup
  exact ret (h true (by simp only [true_iff]; exact ⟨hg, by omega, hr, hall.1, hall.2⟩))
 have hlt : i < l.length := by omega
 refine ADraw.of_sched zc (by rfl) (by rfl) ymv (by rfl) ?_
 refine ⟨i, rfl, za _ (zh hlt) ?_⟩
 have nof : ¬ (bldP l[i] /\ onP g l[i] /\ zhp g l[i]) -> R (bool false) st' := fun hn => no fun q => hn (q.2.2.2.1 _ (List.getElem_mem hlt))
 refine ⟨zrl l[i] _ _ (fun z1 hz1 => ⟨Tv, ?_⟩), Tv⟩
 refine yk ?_
 refine zd (fun c3 => ?_) (fun c3 => ⟨⟨Tv, ⟨⟨Tv, ret (nof fun q => by have := hz1.2 q.1; rw [this] at c3; cases c3)⟩, Tv⟩⟩, Tv⟩)
 have hb1 := hz1.1 c3
 refine ⟨i, rfl, za _ (zh hlt) ?_⟩
 refine ⟨yhx g l[i] hg hb1 _ _ (fun z2 hz2 => ⟨Tv, ?_⟩), Tv⟩
 refine yk ?_
 refine zd (fun c4 => ?_) (fun c4 => ⟨⟨Tv, ret (nof fun q => by have := hz2.2 q.2.1; rw [this] at c4; cases c4)⟩, Tv⟩)
 have hb2 := hz2.1 c4
 refine ⟨i, rfl, za _ (zh hlt) ?_⟩
 refine ⟨zr3 g hg l[i] ⟨hb1, hb2⟩ _ _ (fun z3 hz3 => ⟨Tv, ?_⟩), Tv⟩
 refine yk ?_
 refine zd (fun c5 => ?_) (fun c5 => ret (nof fun q => by have := hz3.2 q.2.2; rw [this] at c5; cases c5))
 have hb3 := hz3.1 c5
 refine AWp.loop (σ := Nat) ⟨fun k => [(1, .av (lst 6 bldC l)), (2, .bx 2 0), (5, .av (int (i : Nat))), (6, .av (int (k : Nat)))], fun _ => [(2, gndC g)],
  fun k st2 => k <= i /\ st2 = st' /\ ∀ m, (hm : m < k) -> (hmi : m < i) -> ¬ ze2 l[i] (l[m]'(by omega)), fun k => i - k⟩ zc ?_ ?_
 ·exact ⟨0, Tv, ⟨Nat.zero_le _, rfl, fun m hm => by omega⟩, ⟨Tq, Tq, Tq, Tq, Tv⟩, ⟨rfl, Tv⟩⟩
 rintro k st2 ⟨hk, rfl, hno⟩
 refine bcd (fun h2 => ?_) (fun h2 => ?_)
 rotate_left
 ·refine in64 (by omega) ?_
  refine ⟨i + 1, ?_, ⟨by omega, rfl, fun j hj hji => ?_⟩, ⟨Tq, Tq, Tq, Tv⟩, ⟨rfl, Tv⟩⟩
  ·show l.length - (i + 1) < l.length - i
   omega
  ·by_cases e : j = i
   ·subst e
    exact ⟨⟨hb1, hb2, hb3⟩, fun m hm => hno m (by omega) hm⟩
   ·exact hup j hj (by omega)
 have hki : k < i := by omega
 have hkl : k < l.length := by omega
 have hbk := (hup k hkl hki).1
 refine ADraw.of_sched zc (by rfl) (by rfl) yfy (by rfl) ?_
 refine ⟨i, rfl, za _ (zh hlt) ?_⟩
 refine ⟨k, rfl, za _ (zh hkl) ?_⟩
 refine ⟨zwd g hg l[i] l[k] ⟨hb1, hb2⟩ ⟨hbk.1, hbk.2.1⟩ _ _ (fun z4 hz4 => ⟨Tv, ?_⟩), Tv⟩
 refine zd (fun c6 => ret (no fun q => q.2.2.2.2 i hlt k hki (hz4.1 c6))) (fun c6 => ?_)
 refine in64 (by omega) ?_
 refine ⟨k + 1, ?_, ⟨by omega, rfl, fun m hm hmi => ?_⟩, ⟨Tq, Tq, Tq, Tq, Tv⟩, ⟨rfl, Tv⟩⟩
 ·show i - (k + 1) < i - k
  omega
 ·by_cases e : m = k
  ·subst e
   intro hm2
   have := hz4.2 hm2
   rw [this] at c6; cases c6
  ·exact hno m (by omega) hmi
end Go.Proofs
namespace Go.Proofs
open Go Go.V
set_option maxRecDepth 4000
theorem zjv (g : Gnd) (hg : gndP g) (l : List Bld) (hl : l.length <= 1000000000000) (hb : ∀ b ∈ l, bldP b /\ onP g b) (st : Store) (R : AV -> Store -> Prop)
  (h : ∀ b, Fresh st b -> R (blV b g.T.length) (st.setObj b (.cells (bl g.T.length (covB g l))))) : ACalls Tryz.prog 158 [.agg (gndC g), lst 6 bldC l] st R := by
 have ha := zr hg
 have hg1 := hg.1
 have hg2 := hg.2.1
 refine ACalls.of_body (c := cfg 70) zc Tryz.func158 (by rfl) (by rfl) (by rfl) (by rfl) ?_
 refine in64 (by omega) ?_
 rw [<- ha.2.2]
 refine qa rfl (it := ti60) (ie := ti4) rfl rfl rfl rfl rfl (n := g.T.length) ?_ ?_ (fun b hf => ?_)
 ·show 1 * _ <= _; omega
 ·omega
 rw [zbj]
 refine AWp.loop (σ := Nat) ⟨fun i => [(1, .av (lst 6 bldC l)), (2, .bx 2 0), (5, .av (blV b g.T.length)), (6, .av (int (i : Nat)))], fun _ => [(2, gndC g)],
  fun i st' => i <= l.length /\ st' = st.setObj b (.cells (bl g.T.length (covB g (l.take i)))), fun i => l.length - i⟩ zc ?_ ?_
 ·exact ⟨0, Tv, ⟨Nat.zero_le _, rfl⟩, ⟨Tq, Tq, Tq, Tq, Tv⟩, ⟨rfl, Tv⟩⟩
 rintro i st' ⟨hi, rfl⟩
 refine zd (fun h1 => ?_) (fun h1 => ?_)
 rotate_left
 ·have : i = l.length := x3 h1 hi
  subst this
  rw [List.take_length]
  exact ret (h b hf)
 have hlt : i < l.length := qz h1
 have hbi := hb l[i] (List.getElem_mem hlt)
 have hbi' := hbi
 unfold bldP onP at hbi'
 refine ⟨i, rfl, za _ (zh hlt) ?_⟩
 refine AWp.loop (σ := Nat) ⟨fun k => [(1, .av (lst 6 bldC l)), (2, .bx 2 0), (5, .av (blV b g.T.length)), (6, .av (int (i : Nat))), (7, .av (int (l[i].y + (k : Nat))))], fun _ => [(2, gndC g)],
  fun k st' => k <= l[i].h.toNat /\ st' = st.setObj b (.cells (bl g.T.length (covR g l i l[i] k 0))), fun k => l[i].h.toNat - k⟩ zc ?_ ?_
 ·refine ⟨0, Tv, ⟨Nat.zero_le _, ?_⟩, ⟨Tq, Tq, Tq, Tq, ?_, Tv⟩, ⟨rfl, Tv⟩⟩
  ·rw [zxt]
  ·rw [show l[i].y + ((0 : Nat) : Int) = l[i].y by omega]; exact Tq
 rintro k st' ⟨hk, rfl⟩
 refine ADraw.of_sched zc (by rfl) (by rfl) yg3 (by rfl) ?_
 refine ⟨i, rfl, za _ (zh hlt) ?_⟩
 refine ⟨i, rfl, za _ (zh hlt) ?_⟩
 refine in64 (by omega) ?_
 refine bcd (fun h2 => ?_) (fun h2 => ?_)
 rotate_left
 ·have : k = l[i].h.toNat := by omega
  subst this
  refine in64 (by omega) ?_
  refine ⟨i + 1, ?_, ⟨by omega, ?_⟩, ⟨Tq, Tq, Tq, Tq, Tv⟩, ⟨rfl, Tv⟩⟩
  ·show l.length - (i + 1) < l.length - i
   omega
  ·rw [zxv hlt (by omega)]
 refine ⟨i, rfl, za _ (zh hlt) ?_⟩
 refine AWp.loop (σ := Nat) ⟨fun m => [(1, .av (lst 6 bldC l)), (2, .bx 2 0), (5, .av (blV b g.T.length)), (6, .av (int (i : Nat))), (7, .av (int (l[i].y + (k : Nat)))), (8, .av (int (l[i].x + (m : Nat))))], fun _ => [(2, gndC g)],
  fun m st' => m <= l[i].w.toNat /\ st' = st.setObj b (.cells (bl g.T.length (covR g l i l[i] k m))), fun m => l[i].w.toNat - m⟩ zc ?_ ?_
 ·refine ⟨0, Tv, ⟨Nat.zero_le _, rfl⟩, ⟨Tq, Tq, Tq, Tq, Tq, ?_, Tv⟩, ⟨rfl, Tv⟩⟩
  rw [show l[i].x + ((0 : Nat) : Int) = l[i].x by omega]; exact Tq
 rintro m st' ⟨hm, rfl⟩
 refine ADraw.of_sched zc (by rfl) (by rfl) yg2 (by rfl) ?_
 refine ⟨i, rfl, za _ (zh hlt) ?_⟩
 refine ⟨i, rfl, za _ (zh hlt) ?_⟩
 refine in64 (by omega) ?_
 refine bcd (fun h3 => ?_) (fun h3 => ?_)
 rotate_left
 ·have : m = l[i].w.toNat := by omega
  subst this
  refine in64 (by omega) ?_
  refine ⟨k + 1, ?_, ⟨by omega, ?_⟩, ⟨Tq, Tq, Tq, Tq, ?_, Tv⟩, ⟨rfl, Tv⟩⟩
  ·show l[i].h.toNat - (k + 1) < l[i].h.toNat - k
   omega
  ·rw [yi1 _ _ _ _ _ (by omega)]
  ·rw [show l[i].y + ((k + 1 : Nat) : Int) = l[i].y + (k : Int) + 1 by omega]; exact Tq
 obtain ⟨q1, q2, _⟩ := ji hg (x := l[i].x + m) (y := l[i].y + k) (by omega) (by omega)
 have q3 : 0 <= g.W * (l[i].y + (k : Int)) := Int.mul_nonneg (by omega) (by omega)
 obtain ⟨s1, s2⟩ := zxu hg (l := l) (i := i) hbi (k := k) (m := m) (by omega) (by omega) (n := (l[i].x + (m : Int) + g.W * (l[i].y + (k : Int))).toNat) (by omega)
 refine in64 (by omega) ?_
 refine in64 (by omega) ?_
 refine ⟨(l[i].x + (m : Int) + g.W * (l[i].y + (k : Int))).toNat, by omega, by omega, ?_⟩
 refine zj (i := ti4) (v := V.bool true) (b := b) (o := 0 + (l[i].x + (m : Int) + g.W * (l[i].y + (k : Int))).toNat * 1) (l := bl g.T.length (covR g l i l[i] k m)) (st2 := st.setObj b (.cells (bl g.T.length (covR g l i l[i] k (m + 1))))) rfl rfl rfl (zb _ _ _) (by rw [xg]; omega) ?_ ?_
 ·rw [zg, show ∀ n : Nat, 0 + n * 1 = n by omega, <- s1, zbk (by omega) _ s2]
 refine in64 (by omega) ?_
 refine ⟨m + 1, ?_, ⟨by omega, rfl⟩, ⟨Tq, Tq, Tq, Tq, Tq, ?_, Tv⟩, ⟨rfl, Tv⟩⟩
 ·show l[i].w.toNat - (m + 1) < l[i].w.toNat - m
  omega
 ·rw [show l[i].x + ((m + 1 : Nat) : Int) = l[i].x + (m : Int) + 1 by omega]; exact Tq
end Go.Proofs
namespace Go.Proofs
open Go Go.V
set_option maxRecDepth 4000
theorem zwb (g : Gnd) (l : List Bld) (c : Int) (i : Nat) : midB g l c (i + 1) i = yc g l c i /\ ∀ s, s ≠ i -> midB g l c (i + 1) s = midB g l c i s := by
 unfold midB
 refine ⟨if_pos (by omega), fun s hs => ?_⟩
 by_cases h1 : s < i
 ·rw [if_pos (by omega), if_pos h1]
 ·rw [if_neg (by omega), if_neg h1]
theorem zic (g : Gnd) (hg : gndP g) (l : List Bld) (hl : l.length <= 1000000000000) (hb : ∀ b ∈ l, bldP b /\ onP g b) (c : Int) (hc : c = 0 \/ c = 1 \/ c = 2) (st : Store) (R : AV -> Store -> Prop) (h : R (opV g l c) st) :
  ACalls Tryz.prog 107 [.agg (gndC g), lst 6 bldC l, int c] st R := by
 have ha := zr hg
 refine ACalls.of_awp (c := cfg 37) zc Tryz.func107 (by rfl) (by rfl) (by rfl) (by rfl) ?_
 refine AWp.seq (AWp.of_vc zc ?_)
 refine AWp.seq (AWp.of_vc zc ?_)
 refine zjv g hg l hl hb _ _ (fun b hf => ?_)
 refine AWp.meetA (σ := Unit) ⟨fun _ => [(7, .av (blV b g.T.length))], fun _ => [], fun _ st' => st' = st.setObj b (.cells (bl g.T.length (yc g l c)))⟩ ?_ ?_
 ·refine AWp.of_vc zc ?_
  refine AWp.loop (σ := Nat) ⟨fun i => [(2, .av (int c)), (3, .bx 3 0), (7, .av (blV b g.T.length)), (8, .av (int (i : Nat)))], fun _ => [(3, gndC g)],
   fun i st' => i <= g.T.length /\ st' = st.setObj b (.cells (bl g.T.length (midB g l c i))), fun i => g.T.length - i⟩ zc ?_ ?_
  ·refine ⟨0, Tv, ⟨Nat.zero_le _, ?_⟩, ⟨Tq, Tq, Tq, Tq, Tv⟩, ⟨rfl, Tv⟩⟩
   rw [show midB g l c 0 = covB g l from funext fun t => if_neg (Nat.not_lt_zero t)]
  rintro i st' ⟨hi, rfl⟩
  refine bcd (fun h1 => ?_) (fun h1 => ?_)
  rotate_left
  ·have : i = g.T.length := by omega
   subst this
   refine ⟨(), ?_, ⟨Tq, Tv⟩, Tv⟩
   have : bl g.T.length (midB g l c g.T.length) = bl g.T.length (yc g l c) := by
    unfold bl midB
    exact List.map_congr_left fun t ht => by rw [if_pos (List.mem_range.1 ht)]
   rw [this]
  have hlt : i < g.T.length := by omega
  obtain ⟨s1, s2⟩ := zwb g l c i
  have ho : (st.setObj b (.cells (bl g.T.length (midB g l c i)))).obj b = some (.cells (bl g.T.length (midB g l c i))) := zb _ _ _
  have hmid : midB g l c i i = covB g l i := if_neg (Nat.lt_irrefl i)
  have hhead : ((bl g.T.length (midB g l c i)).drop (0 + i * 1)).head? = some (V.bool (covB g l i)) := by
   rw [List.head?_drop, show 0 + i * 1 = i by omega, zdm hlt, hmid]
  refine ⟨i, rfl, hlt, ?_⟩
  refine za _ ho (za _ hhead ?_)
  have hti : g.T[i].toNat <= 5 := hg.2.2.2 _ (List.getElem_mem hlt)
  have hget : g.T.getD i 0 = g.T[i] := by simp [hlt]
  refine zd (fun c1 => ?_) (fun c1 => ?_)
  ·have c1 : covB g l i = false := by simpa using c1
   refine ⟨i, rfl, za _ (zh hlt) ?_⟩
   refine zg2 c hc g.T[i] hti _ _ ?_
   have hz : decide (0 < zar c g.T[i].toNat) = yc g l c i := by
    unfold yc
    rw [c1, hget]; rfl
   refine ⟨i, rfl, hlt, ?_⟩
   refine zj (i := ti4) (v := V.bool (decide (0 < zar c g.T[i].toNat))) (b := b) (o := 0 + i * 1) (l := _) (st2 := st.setObj b (.cells (bl g.T.length (midB g l c (i + 1))))) rfl rfl rfl ho (by rw [xg]; omega) (by rw [zg, show 0 + i * 1 = i by omega, hz, <- s1, zbk hlt _ s2]) ?_
   refine in64 (by omega) ?_
   refine ⟨i + 1, ?_, ⟨by omega, rfl⟩, ⟨Tq, Tq, Tq, Tq, Tv⟩, ⟨rfl, Tv⟩⟩
   show g.T.length - (i + 1) < g.T.length - i
   omega
  ·have c1 : covB g l i = true := by simpa using c1
   have hz : false = yc g l c i := by
    unfold yc
    rw [c1]; rfl
   refine ⟨i, rfl, hlt, ?_⟩
   refine zj (i := ti4) (v := V.bool false) (b := b) (o := 0 + i * 1) (l := _) (st2 := st.setObj b (.cells (bl g.T.length (midB g l c (i + 1))))) rfl rfl rfl ho (by rw [xg]; omega) (by rw [zg, show 0 + i * 1 = i by omega, hz, <- s1, zbk hlt _ s2]) ?_
   refine in64 (by omega) ?_
   refine ⟨i + 1, ?_, ⟨by omega, rfl⟩, ⟨Tq, Tq, Tq, Tq, Tv⟩, ⟨rfl, Tv⟩⟩
   show g.T.length - (i + 1) < g.T.length - i
   omega
 ·rintro _ _ rfl
  refine AWp.freeze (d := 7) (b := b) (k := 1) (n := g.T.length) (cap := g.T.length) (rows := rws vg (blL g.T.length (yc g l c))) (pad := []) rfl ?_ ?_ ?_ (Nat.le_refl _) ?_ ?_ ?_
  ·rw [ky]; exact zb _ _ _
  ·exact hf.2
  ·rw [zi, yo]
  ·intro row hr
   obtain ⟨x, _, rfl⟩ := List.mem_map.1 hr
   rfl
  ·intro row hr y hy
   obtain ⟨x, _, rfl⟩ := List.mem_map.1 hr
   simp [vg] at hy
   exact ⟨_, hy, rfl⟩
  rw [xc hf.1]
  refine AWp.of_vc zc ?_
  exact ret h
theorem zr2 (g : Gnd) (hg : gndP g) (l : List Bld) (hl : l.length <= 1000000000000) (hb : ∀ b ∈ l, bldP b /\ onP g b) (c : Int) (hc : c = 0 \/ c = 1 \/ c = 2) (p : Vc) (hp : qv p.1 p.2) (r : Int) (hr : 0 < r /\ r <= 262144) (st : Store) (R : AV -> Store -> Prop)
  (h : ∀ z : Bool, (z = true ↔ ze5 g l c p r) -> R (V.bool z) st) : ACalls Tryz.prog 97 [.agg (gndC g), lst 6 bldC l, int c, .agg (vecC p), int r] st R := by
 have ha := zr hg
 have hg1 := hg.1
 have hg2 := hg.2.1
 have hp' := hp
 unfold qv at hp'
 have no : ¬ ze5 g l c p r -> R (V.bool false) st := fun hn => h false (by simp only [Bool.false_eq_true, false_iff]; exact hn)
 refine ACalls.of_body (c := cfg 65) zc Tryz.func97 (by rfl) (by rfl) (by rfl) (by rfl) ?_
 refine bcd (fun c1 => ret (no fun q => by have := q.1; omega)) (fun c1 => ?_)
 refine bcd (fun c2 => ret (no fun q => by have := q.1; omega)) (fun c2 => ?_)
 refine in64 (by omega) ?_
 refine in64 (by omega) ?_
 refine bcd (fun c3 => ret (no fun q => by have := q.1; omega)) (fun c3 => ?_)
 refine in64 (by omega) ?_
 refine in64 (by omega) ?_
 refine bcd (fun c4 => ret (no fun q => by have := q.1; omega)) (fun c4 => ?_)
 refine zic g hg l hl hb c hc _ _ ?_
 refine AWp.loop (σ := Nat) ⟨fun i => [(4, .av (int r)), (5, .bx 5 0), (8, .bx 8 0), (11, .av (opV g l c)), (12, .av (int (i : Nat)))], fun _ => [(5, gndC g), (8, vecC p)],
  fun i st' => i <= g.T.length /\ st' = st /\ ∀ t, t < i -> yc g l c t = false -> ¬ hitP g t p r, fun i => g.T.length - i⟩ zc ?_ ?_
 ·exact ⟨0, Tv, ⟨Nat.zero_le _, rfl, fun t ht => by omega⟩, ⟨Tq, Tq, Tq, Tq, Tq, Tv⟩, ⟨rfl, rfl, Tv⟩⟩
 rintro i st' ⟨hi, rfl, hall⟩
 refine zd (fun h1 => ?_) (fun h1 => ?_)
 rotate_left
 ·have h1 := x3 h1 (by rw [yo]; exact hi)
  rw [yo] at h1
  subst h1
  exact ret (h true (by simp only [true_iff]; exact ⟨by omega, hall⟩))
 have hlt := qz h1
 rw [yo] at hlt
 refine ⟨i, rfl, za _ (zx1 hlt) ?_⟩
 have next : (yc g l c i = false -> ¬ hitP g i p r) -> ∀ t, t < i + 1 -> yc g l c t = false -> ¬ hitP g t p r := fun hq t ht hh => by
  by_cases e : t = i
  ·subst e; exact hq hh
  ·exact hall t (by omega) hh
 refine yk ?_
 refine zd (fun c5 => ?_) (fun c5 => ?_)
 ·refine in64 (by omega) ?_
  refine ⟨i + 1, ?_, ⟨by omega, rfl, next fun hh => by rw [c5] at hh; cases hh⟩, ⟨Tq, Tq, Tq, Tq, Tq, Tv⟩, ⟨rfl, rfl, Tv⟩⟩
  show g.T.length - (i + 1) < g.T.length - i
  omega
 refine zsg g hg i (by omega) p hp r hr _ _ ?_
 refine bcd (fun c6 => ?_) (fun c6 => ?_)
 ·exact ret (no fun q => q.2 i hlt c5 c6)
 ·refine in64 (by omega) ?_
  refine ⟨i + 1, ?_, ⟨by omega, rfl, next fun _ => c6⟩, ⟨Tq, Tq, Tq, Tq, Tq, Tv⟩, ⟨rfl, rfl, Tv⟩⟩
  show g.T.length - (i + 1) < g.T.length - i
  omega
end Go.Proofs
namespace Go.Proofs
open Go Go.V
set_option maxRecDepth 4000
theorem zsq (g : Gnd) (hg : gndP g) (t : Nat) (ht : (t : Int) < g.W * g.H) (x : Int) (hx : x = (t : Int)) (p : Vc) (hp : qv p.1 p.2) (r : Int) (hr : 0 < r /\ r <= 262144) (st : Store) (R : AV -> Store -> Prop) (h : R (V.bool (decide (hitP g t p r))) st) :
  ACalls Tryz.prog 189 [.agg (gndC g), int x, .agg (vecC p), int r] st R := by
 subst hx
 exact zwv g hg t ht p hp r hr st R h
set_option maxHeartbeats 1000000 in
theorem zmw (g : Gnd) (hg : gndP g) (l : List Bld) (c : Int) (p : Vc) (hpo : p.ok) (r : Int) (hr : 0 < r /\ r <= 262144) (st : Store) (R : AV -> Store -> Prop)
  (h : ∀ z : Bool, (z = true ↔ ze5 g l c p r) -> R (V.bool z) st) : ACalls Tryz.prog 161 [.agg (gndC g), opV g l c, .agg (vecC p), int r] st R := by
 have ha := zr hg
 have hg1 := hg.1
 have hg2 := hg.2.1
 have no : ¬ ze5 g l c p r -> R (V.bool false) st := fun hn => h false (by simp only [Bool.false_eq_true, false_iff]; exact hn)
 refine ACalls.of_body (c := cfg 112) zc Tryz.func161 (by rfl) (by rfl) (by rfl) (by rfl) ?_
 refine ADraw.of_sched zc (by rfl) (by rfl) yg1 (by rfl) ?_
 refine in64 (by omega) ?_
 refine in64 (by omega) ?_
 refine ⟨⟨(by repeat (first | exact Tv | refine ⟨rfl, ?_⟩ | refine ⟨optR (optR (optR (za _ (zb _ _ _) rfl))), ?_⟩)), ?_⟩, Tv⟩
 refine ⟨⟨Tv, ?_⟩, Tv⟩
 refine ztb p r _ _ (fun z hz => ?_)
 refine yk ?_
 refine zd (fun c0 => ?_) (fun c0 => ret (no fun q => by
  have := hz.2 ⟨⟨by omega, hr.2⟩, by unfold qv; have := q.1; omega⟩
  rw [this] at c0; cases c0))
 have hp := (hz.1 c0).2
 have hp' := hp
 unfold qv at hp'
 refine in64 (by omega) ?_
 refine bcd (fun c1 => ret (no fun q => by have := q.1; omega)) (fun c1 => ?_)
 refine in64 (by omega) ?_
 refine bcd (fun c2 => ret (no fun q => by have := q.1; omega)) (fun c2 => ?_)
 refine in64 (by omega) ?_
 refine bcd (fun c3 => ret (no fun q => by have := q.1; omega)) (fun c3 => ?_)
 refine in64 (by omega) ?_
 refine bcd (fun c4 => ret (no fun q => by have := q.1; omega)) (fun c4 => ?_)
 refine in64 (by omega) ?_
 refine ⟨by decide, ?_⟩
 have hy0 : (p.2 - r).tdiv 65536 = (p.2 - r) / 65536 := Int.tdiv_eq_ediv_of_nonneg (by omega)
 have hx0 : (p.1 - r).tdiv 65536 = (p.1 - r) / 65536 := Int.tdiv_eq_ediv_of_nonneg (by omega)
 have hy1 : (p.2 + r).tdiv 65536 = (p.2 + r) / 65536 := Int.tdiv_eq_ediv_of_nonneg (by omega)
 have hx1 : (p.1 + r).tdiv 65536 = (p.1 + r) / 65536 := Int.tdiv_eq_ediv_of_nonneg (by omega)
 refine in64 (by omega) ?_
 rw [hy0]
 refine AWp.loop (σ := Nat) ⟨fun k => [(1, .av (opV g l c)), (3, .av (int r)), (4, .bx 4 0), (6, .bx 6 0), (11, .av (int ((p.2 - r) / 65536 + (k : Nat))))], fun _ => [(4, gndC g), (6, vecC p)],
  fun k st' => st' = st /\ ((k : Int) <= g.H - (p.2 - r) / 65536 \/ k = 0) /\ zeb g l c p r ((p.2 - r) / 65536 + (k : Nat)), fun k => (g.H - (p.2 - r) / 65536).toNat - k⟩ zc ?_ ?_
 ·refine ⟨0, Tv, ⟨rfl, .inr rfl, ?_⟩, ⟨Tq, Tq, Tq, Tq, ?_, Tv⟩, ⟨rfl, rfl, Tv⟩⟩
  ·rw [show (p.2 - r) / 65536 + ((0 : Nat) : Int) = (p.2 - r) / 65536 by omega]
   exact zph hr.1 (by omega)
  ·rw [show (p.2 - r) / 65536 + ((0 : Nat) : Int) = (p.2 - r) / 65536 by omega]; exact Tq
 rintro k st' ⟨rfl, hk, hup⟩
 refine in64 (by omega) ?_
 refine ⟨by decide, ?_⟩
 refine in64 (by omega) ?_
 rw [hy1]
 have done : (¬ ((p.2 - r) / 65536 + (k : Int) <= (p.2 + r) / 65536) \/ ¬ ((p.2 - r) / 65536 + (k : Int) < g.H)) -> R (V.bool true) st' := fun hh =>
  h true (by simp only [true_iff]; exact ⟨by omega, zpi hg hr.1 (by omega) hh hup⟩)
 refine bcd (fun c5 => ?_) (fun c5 => ret (done (.inl c5)))
 refine bcd (fun c6 => ?_) (fun c6 => ret (done (.inr c6)))
 refine in64 (by omega) ?_
 refine ⟨by decide, ?_⟩
 refine in64 (by omega) ?_
 rw [hx0]
 have hyb : 0 <= (p.2 - r) / 65536 := by omega
 have hxb : 0 <= (p.1 - r) / 65536 := by omega
 refine AWp.loop (σ := Nat) ⟨fun m => [(1, .av (opV g l c)), (3, .av (int r)), (4, .bx 4 0), (6, .bx 6 0), (11, .av (int ((p.2 - r) / 65536 + (k : Nat)))), (12, .av (int ((p.1 - r) / 65536 + (m : Nat))))], fun _ => [(4, gndC g), (6, vecC p)],
  fun m st2 => st2 = st' /\ ((m : Int) <= g.W - (p.1 - r) / 65536 \/ m = 0) /\ zdh g l c p r ((p.2 - r) / 65536 + (k : Nat)) ((p.1 - r) / 65536 + (m : Nat)), fun m => (g.W - (p.1 - r) / 65536).toNat - m⟩ zc ?_ ?_
 ·refine ⟨0, Tv, ⟨rfl, .inr rfl, ?_⟩, ⟨Tq, Tq, Tq, Tq, Tq, ?_, Tv⟩, ⟨rfl, rfl, Tv⟩⟩
  ·rw [show (p.1 - r) / 65536 + ((0 : Nat) : Int) = (p.1 - r) / 65536 by omega]
   exact zm8 hr.1 (by omega)
  ·rw [show (p.1 - r) / 65536 + ((0 : Nat) : Int) = (p.1 - r) / 65536 by omega]; exact Tq
 rintro m st2 ⟨rfl, hm, hrow⟩
 refine in64 (by omega) ?_
 refine ⟨by decide, ?_⟩
 refine in64 (by omega) ?_
 rw [hx1]
 have done2 : (¬ ((p.1 - r) / 65536 + (m : Int) <= (p.1 + r) / 65536) \/ ¬ ((p.1 - r) / 65536 + (m : Int) < g.W)) -> zeb g l c p r ((p.2 - r) / 65536 + ((k + 1 : Nat) : Int)) := fun hh => by
  rw [zg8]
  exact zm9 hg hr.1 (by omega) hh hup hrow
 have mu : (g.H - (p.2 - r) / 65536).toNat - (k + 1) < (g.H - (p.2 - r) / 65536).toNat - k := yju (Int.lt_sub_left_of_add_lt c6)
 have step2 : LV.le (vint .i64 ((p.2 - r) / 65536 + (k : Int) + 1)) (.av (int ((p.2 - r) / 65536 + ((k + 1 : Nat) : Int)))) := by
  rw [zg8]; exact Tq
 refine bcd (fun c7 => ?_) (fun c7 => in64 (by omega) ⟨k + 1, mu, ⟨rfl, .inl (zfa c6), done2 (.inl c7)⟩, ⟨Tq, Tq, Tq, Tq, step2, Tv⟩, ⟨rfl, rfl, Tv⟩⟩)
 refine bcd (fun c8 => ?_) (fun c8 => in64 (by omega) ⟨k + 1, mu, ⟨rfl, .inl (zfa c6), done2 (.inr c8)⟩, ⟨Tq, Tq, Tq, Tq, step2, Tv⟩, ⟨rfl, rfl, Tv⟩⟩)
 obtain ⟨q1, q2, q3, q4⟩ := ji hg (x := (p.1 - r) / 65536 + (m : Int)) (y := (p.2 - r) / 65536 + (k : Int)) (by omega) (by omega)
 have q5 : 0 <= g.W * ((p.2 - r) / 65536 + (k : Int)) := Int.mul_nonneg (by omega) (by omega)
 have hstep := zkn (l := l) (c := c) (p := p) (r := r) hg (x := (p.1 - r) / 65536 + (m : Int)) (y := (p.2 - r) / 65536 + (k : Int)) (by omega) (by omega) hrow
 refine in64 (by omega) ?_
 refine in64 (by omega) ?_
 obtain ⟨n, hn⟩ : ∃ n : Nat, (n : Int) = (p.1 - r) / 65536 + (m : Int) + g.W * ((p.2 - r) / 65536 + (k : Int)) := ⟨_, Int.toNat_of_nonneg q1⟩
 rw [<- hn, Int.toNat_natCast] at hstep
 have hnl : n < g.T.length := by omega
 have mu2 : (g.W - (p.1 - r) / 65536).toNat - (m + 1) < (g.W - (p.1 - r) / 65536).toNat - m := yju (Int.lt_sub_left_of_add_lt c8)
 have e2 : (p.1 - r) / 65536 + ((m + 1 : Nat) : Int) = (p.1 - r) / 65536 + (m : Int) + 1 := zg8 _ _
 have step3 : LV.le (vint .i64 ((p.1 - r) / 65536 + (m : Int) + 1)) (.av (int ((p.1 - r) / 65536 + ((m + 1 : Nat) : Int)))) := by
  rw [e2]; exact Tq
 refine ⟨n, hn.symm, za _ (zx1 hnl) ?_⟩
 refine yk ?_
 refine zd (fun c9 => ?_) (fun c9 => ?_)
 ·refine in64 (by omega) ?_
  exact ⟨m + 1, mu2, ⟨rfl, .inl (zfa c8), by rw [e2]; exact hstep fun hh => by rw [c9] at hh; cases hh⟩, ⟨Tq, Tq, Tq, Tq, Tq, step3, Tv⟩, ⟨rfl, rfl, Tv⟩⟩
 refine zsq g hg n (by omega) _ hn.symm p hp r hr _ _ ?_
 refine bcd (fun c10 => ?_) (fun c10 => ?_)
 ·exact ret (no fun q => q.2 n hnl c9 c10)
 ·refine in64 (by omega) ?_
  exact ⟨m + 1, mu2, ⟨rfl, .inl (zfa c8), by rw [e2]; exact hstep fun _ => c10⟩, ⟨Tq, Tq, Tq, Tq, Tq, step3, Tv⟩, ⟨rfl, rfl, Tv⟩⟩
end Go.Proofs
