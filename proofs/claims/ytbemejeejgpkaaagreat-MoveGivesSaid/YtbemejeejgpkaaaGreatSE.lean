/- The ground on which laws of thronglaw24 are proved: contracts of functions and plain lemmas; no condition beyond the row's own. -/
import Derived.Test.YtbemejeejgpkaaaGreatVG
import Derived.Test.YtbemejeejgpkaaaGreatVC
import Derived.Test.YtbemejeejgpkaaaGreatVE
import Derived.Test.YtbemejeejgpkaaaGreatSC
import Derived.Test.YtbemejeejgpkaaaGreatSD
set_option linter.unusedSimpArgs false
set_option linter.unusedVariables false
namespace Go.Proofs
open Go Go.V
theorem zjh (l : List Bld) (hl : l.length ≤ 1000000000000) (st : Store) (R : AV → Store → Prop) (h : ∀ z : Bool, (z = true ↔ zlw l) → R (bool z) st) : ACalls Tryz.prog 195 [lst 6 bldC l] st R := by
 refine ACalls.of_body (c := cfg 22) zc Tryz.func195 (by rfl) (by rfl) (by rfl) (by rfl) ?_
 refine AWp.loop (σ := Nat) ⟨fun i => [(0, .av (lst 6 bldC l)), (3, .av (int (i : Nat)))], fun _ => [],
  fun i st' => 1 ≤ i ∧ (i ≤ l.length ∨ i = 1) ∧ st' = st ∧ ∀ j, (h : j < l.length) → j < i → 0 < j → (l[j - 1]'(by omega)).id < l[j].id, fun i => l.length - i⟩ zc ?_ ?_
 ·exact ⟨1, trivial, ⟨Nat.le_refl _, .inr rfl, rfl, fun j _ hj => by omega⟩, ⟨lr_ _, lr_ _, trivial⟩, trivial⟩
 ·rintro i st' ⟨hi1, hi, rfl, hall⟩
  refine ze (fun h1 => ?_) (fun h1 => ?_)
  ·have hlt : i < l.length := zfg h1
   refine ADraw.of_sched zc (by rfl) (by rfl) zz9 (by rfl) ?_
   refine in64 (by omega) ?_
   refine ⟨i - 1, by omega, za _ (zk (show i - 1 < l.length by omega)) ?_⟩
   refine ⟨i, rfl, za _ (zk hlt) ?_⟩
   refine bcd (fun h2 => ret (h _ ?_)) (fun h2 => ?_)
   ·simp only [Bool.false_eq_true, false_iff]
    intro h3
    have := h3 i hlt (by omega)
    omega
   ·refine in64 (by omega) ?_
    refine ⟨i + 1, ?_, ⟨by omega, .inl hlt, rfl, fun j hj h0 h00 => ?_⟩, ⟨lr_ _, lr_ _, trivial⟩, trivial⟩
    ·show l.length - (i + 1) < l.length - i
     omega
    ·by_cases hji : j = i
     ·subst hji
      omega
     ·exact hall j hj (by omega) h00
  ·have hge : ¬ i < l.length := by
    rw [zi] at h1
    simpa using h1
   refine ret (h _ ?_)
   simp only [true_iff]
   exact fun j hj h0 => hall j hj (by omega) h0
theorem zbh (g : Gnd) (hg : gndP g) (b : Bld) (hb : bldP b ∧ onP g b) (st : Store) (R : AV → Store → Prop) (h : R (ints (xu g.W b)) st) : ACalls Tryz.prog 199 [.agg (gndC g), .agg (bldC b)] st R := by
 have hb' := hb
 unfold bldP onP at hb'
 have hg1 := hg.1
 have hg2 := hg.2.1
 refine ACalls.of_body (c := cfg 35) zc Tryz.func199 (by rfl) (by rfl) (by rfl) (by rfl) ?_
 refine AWp.loop (σ := Nat × AV) ⟨fun s => [(2, .bx 2 0), (3, .bx 3 0), (4, .av s.2), (8, .av (int b.h)), (9, .av (int (s.1 : Nat)))], fun _ => [(2, gndC g), (3, bldC b)],
  fun s st' => s.1 ≤ b.h.toNat ∧ App 1 st s.2 (rws intC (xg g.W b s.1)) st', fun s => b.h.toNat - s.1⟩ zc ?_ ?_
 ·exact ⟨(0, _), trivial, ⟨Nat.zero_le _, App.start 1 st⟩, ⟨lr_ _, lr_ _, lr_ _, lr_ _, lr_ _, trivial⟩, ⟨rfl, rfl, trivial⟩⟩
 rintro ⟨y, v⟩ st' ⟨hy, ha⟩
 dsimp only at hy ha ⊢
 refine bcd (fun h1 => ?_) (fun h1 => ?_)
 rotate_left
 ·have : y = b.h.toNat := by omega
  subst this
  exact ⟨_, st, AV.le_trans ha.le (ar_ _), ha.has, h⟩
 refine AWp.loop (σ := Nat × AV) ⟨fun s => [(2, .bx 2 0), (3, .bx 3 0), (4, .av s.2), (5, .av (int (y : Nat))), (8, .av (int b.h)), (9, .av (int (y : Nat))), (13, .av (int b.w)), (14, .av (int (s.1 : Nat)))], fun _ => [(2, gndC g), (3, bldC b)],
  fun s st' => s.1 ≤ b.w.toNat ∧ App 1 st s.2 (rws intC (xg g.W b y ++ qz g.W b y s.1)) st', fun s => b.w.toNat - s.1⟩ zc ?_ ?_
 ·refine ⟨(0, v), trivial, ⟨Nat.zero_le _, ?_⟩, ⟨lr_ _, lr_ _, lr_ _, lr_ _, lr_ _, lr_ _, lr_ _, lr_ _, trivial⟩, ⟨rfl, rfl, trivial⟩⟩
  dsimp only
  rw [show qz g.W b y 0 = [] from rfl, List.append_nil]
  exact ha
 rintro ⟨x, v2⟩ st2 ⟨hx, ha2⟩
 dsimp only at hx ha2 ⊢
 refine bcd (fun h2 => ?_) (fun h2 => ?_)
 rotate_left
 ·have : x = b.w.toNat := by omega
  subst this
  refine in64 (by omega) ?_
  refine ⟨(y + 1, v2), ?_, ⟨by dsimp only; omega, ?_⟩, ⟨lr_ _, lr_ _, lr_ _, lr_ _, lr_ _, trivial⟩, ⟨rfl, rfl, trivial⟩⟩
  ·show b.h.toNat - (y + 1) < b.h.toNat - y
   omega
  ·dsimp only
   rw [ve]
   exact ha2
 obtain ⟨q1, q2, _⟩ := j6 hg (x := b.x + x) (y := b.y + y) (by omega) (by omega)
 have hm := ya hg
 have q3 : 0 ≤ g.W * (b.y + (y : Int)) := Int.mul_nonneg (by omega) (by omega)
 refine in64 (by omega) ?_
 refine in64 (by omega) ?_
 refine in64 (by omega) ?_
 refine in64 (by omega) ?_
 refine ⟨by decide, ?_⟩
 have hlen : (xg g.W b y ++ qz g.W b y x).length ≤ 16 := by
  rw [List.length_append, wv, zc7]
  have : y * b.w.toNat ≤ 3 * 4 := Nat.mul_le_mul (by omega) (by omega)
  omega
 refine zae (ie := ti3) (rows' := [intC (b.x + (x : Int) + g.W * (b.y + (y : Int)))]) ha2 ?_ ?_ ⟨?_, ?_⟩ (fun v3 st3 ha3 => ?_)
 ·rfl
 ·rfl
 ·simp only [zi, List.length_singleton, ti3]; omega
 ·simp only [zi, List.length_singleton]; omega
 refine in64 (by omega) ?_
 refine ⟨(x + 1, v3), ?_, ⟨by dsimp only; omega, ?_⟩, ⟨lr_ _, lr_ _, lr_ _, lr_ _, lr_ _, lr_ _, lr_ _, lr_ _, trivial⟩, ⟨rfl, rfl, trivial⟩⟩
 ·show b.w.toNat - (x + 1) < b.w.toNat - x
  omega
 ·dsimp only
  rw [zhm, ← List.append_assoc]
  unfold rws
  rw [List.map_append]
  exact ha3
end Go.Proofs
namespace Go.Proofs
open Go Go.V
theorem zgl (l : List Int) (hl : l.length ≤ 1000000000000) (fn : FuncId) (cap : List AV) (q : Int → Bool) (st : Store) (hf : ∀ x ∈ l, ∀ R : AV → Store → Prop, R (bool (q x)) st → ACalls Tryz.prog fn ([int x] ++ cap) st R)
  (R : AV → Store → Prop) (h : R (int (idxI (l.findIdx? q))) st) : ACalls Tryz.prog 230 [lst 1 intC l, .clos fn cap] st R := by
 refine ACalls.of_body (c := cfg 19) zc Tryz.func230 (by rfl) (by rfl) (by rfl) (by rfl) ?_
 refine AWp.loop (σ := Nat) ⟨fun i => [(0, .av (lst 1 intC l)), (1, .av (.clos fn cap)), (7, .av (int (l.length : Nat))), (8, .av (int (i : Nat)))], fun _ => [],
  fun i st' => i ≤ l.length ∧ st' = st ∧ ∀ j, (hj : j < l.length) → j < i → q l[j] = false, fun i => l.length - i⟩ zc ?_ ?_
 ·refine ⟨0, trivial, ⟨Nat.zero_le _, rfl, fun j _ hj => by omega⟩, ⟨lr_ _, lr_ _, ?_, lr_ _, trivial⟩, trivial⟩
  rw [← zi (f := intC) l]
  exact lr_ _
 rintro i st' ⟨hi, rfl, hall⟩
 refine bcd (fun h1 => ?_) (fun h1 => ?_)
 rotate_left
 ·have e : l.findIdx? q = none := by
   rw [List.findIdx?_eq_none_iff]
   intro x hx
   obtain ⟨j, hj, rfl⟩ := List.getElem_of_mem hx
   exact hall j hj (by omega)
  rw [e] at h
  exact ret h
 have hlt : i < l.length := by omega
 refine ⟨i, rfl, za _ (zk hlt) ?_⟩
 refine hf l[i] (List.getElem_mem hlt) _ ?_
 refine ze (fun h2 => ?_) (fun h2 => ?_)
 ·have e : l.findIdx? q = some i := by
   rw [List.findIdx?_eq_some_iff_getElem]
   exact ⟨hlt, h2, fun j hj => by rw [hall j (by omega) hj]; decide⟩
  rw [e] at h
  exact ret h
 ·refine in64 (by omega) ?_
  refine ⟨i + 1, ?_, ⟨by omega, rfl, fun j hj hj2 => ?_⟩, ⟨lr_ _, lr_ _, lr_ _, lr_ _, trivial⟩, trivial⟩
  ·show l.length - (i + 1) < l.length - i
   omega
  ·by_cases e : j = i
   ·subst e; exact h2
   ·exact hall j hj (by omega)
theorem zco (l : List Int) (hl : l.length ≤ 1000000000000) (fn : FuncId) (cap : List AV) (q : Int → Bool) (st : Store) (hf : ∀ x ∈ l, ∀ R : AV → Store → Prop, R (bool (q x)) st → ACalls Tryz.prog fn ([int x] ++ cap) st R)
  (R : AV → Store → Prop) (h : R (bool (l.any q)) st) : ACalls Tryz.prog 223 [lst 1 intC l, .clos fn cap] st R := by
 refine ACalls.of_body (c := cfg 9) zc Tryz.func223 (by rfl) (by rfl) (by rfl) (by rfl) ?_
 refine zgl l hl fn cap q st hf _ ?_
 have e : decide ((0 : Int) ≤ idxI (l.findIdx? q)) = l.any q := by
  cases hx : l.findIdx? q with
  | none =>
   rw [List.findIdx?_eq_none_iff] at hx
   rw [show decide ((0 : Int) ≤ idxI none) = false from by decide]
   symm
   rw [List.any_eq_false]
   intro x hm
   rw [hx x hm]; decide
  | some i =>
   rw [List.findIdx?_eq_some_iff_getElem] at hx
   obtain ⟨hi, h1, _⟩ := hx
   rw [show decide ((0 : Int) ≤ idxI (some i)) = true from by simp [idxI]]
   symm
   rw [List.any_eq_true]
   exact ⟨l[i], List.getElem_mem hi, h1⟩
 rw [← e] at h
 exact ret h
theorem zg5 (l : List Bld) (hl : l.length ≤ 1000000000000) (fn : FuncId) (cap : List AV) (q : Bld → Bool) (st : Store) (hf : ∀ x ∈ l, ∀ R : AV → Store → Prop, R (bool (q x)) st → ACalls Tryz.prog fn ([.agg (bldC x)] ++ cap) st R)
  (R : AV → Store → Prop) (h : R (int (idxI (l.findIdx? q))) st) : ACalls Tryz.prog 200 [lst 6 bldC l, .clos fn cap] st R := by
 refine ACalls.of_body (c := cfg 19) zc Tryz.func200 (by rfl) (by rfl) (by rfl) (by rfl) ?_
 refine AWp.loop (σ := Nat) ⟨fun i => [(0, .av (lst 6 bldC l)), (1, .av (.clos fn cap)), (7, .av (int (l.length : Nat))), (8, .av (int (i : Nat)))], fun _ => [],
  fun i st' => i ≤ l.length ∧ st' = st ∧ ∀ j, (hj : j < l.length) → j < i → q l[j] = false, fun i => l.length - i⟩ zc ?_ ?_
 ·refine ⟨0, trivial, ⟨Nat.zero_le _, rfl, fun j _ hj => by omega⟩, ⟨lr_ _, lr_ _, ?_, lr_ _, trivial⟩, trivial⟩
  rw [← zi (f := bldC) l]
  exact lr_ _
 rintro i st' ⟨hi, rfl, hall⟩
 refine bcd (fun h1 => ?_) (fun h1 => ?_)
 rotate_left
 ·have e : l.findIdx? q = none := by
   rw [List.findIdx?_eq_none_iff]
   intro x hx
   obtain ⟨j, hj, rfl⟩ := List.getElem_of_mem hx
   exact hall j hj (by omega)
  rw [e] at h
  exact ret h
 have hlt : i < l.length := by omega
 refine ⟨i, rfl, za _ (zk hlt) ?_⟩
 refine hf l[i] (List.getElem_mem hlt) _ ?_
 refine ze (fun h2 => ?_) (fun h2 => ?_)
 ·have e : l.findIdx? q = some i := by
   rw [List.findIdx?_eq_some_iff_getElem]
   exact ⟨hlt, h2, fun j hj => by rw [hall j (by omega) hj]; decide⟩
  rw [e] at h
  exact ret h
 ·refine in64 (by omega) ?_
  refine ⟨i + 1, ?_, ⟨by omega, rfl, fun j hj hj2 => ?_⟩, ⟨lr_ _, lr_ _, lr_ _, lr_ _, trivial⟩, trivial⟩
  ·show l.length - (i + 1) < l.length - i
   omega
  ·by_cases e : j = i
   ·subst e; exact h2
   ·exact hall j hj (by omega)
theorem zcp (l : List Bld) (hl : l.length ≤ 1000000000000) (fn : FuncId) (cap : List AV) (q : Bld → Bool) (st : Store) (hf : ∀ x ∈ l, ∀ R : AV → Store → Prop, R (bool (q x)) st → ACalls Tryz.prog fn ([.agg (bldC x)] ++ cap) st R)
  (R : AV → Store → Prop) (h : R (bool (l.any q)) st) : ACalls Tryz.prog 167 [lst 6 bldC l, .clos fn cap] st R := by
 refine ACalls.of_body (c := cfg 9) zc Tryz.func167 (by rfl) (by rfl) (by rfl) (by rfl) ?_
 refine zg5 l hl fn cap q st hf _ ?_
 have e : decide ((0 : Int) ≤ idxI (l.findIdx? q)) = l.any q := by
  cases hx : l.findIdx? q with
  | none =>
   rw [List.findIdx?_eq_none_iff] at hx
   rw [show decide ((0 : Int) ≤ idxI none) = false from by decide]
   symm
   rw [List.any_eq_false]
   intro x hm
   rw [hx x hm]; decide
  | some i =>
   rw [List.findIdx?_eq_some_iff_getElem] at hx
   obtain ⟨hi, h1, _⟩ := hx
   rw [show decide ((0 : Int) ≤ idxI (some i)) = true from by simp [idxI]]
   symm
   rw [List.any_eq_true]
   exact ⟨l[i], List.getElem_mem hi, h1⟩
 rw [← e] at h
 exact ret h
theorem zkv (g : Gnd) (p : Nat) (t : Nat) (ht : t < g.T.length) (st : Store) (hp : st.obj p = some (.cells (gndC g))) (R : AV → Store → Prop) (h : R (bool (decide ((g.T.getD t 0).toNat > 1))) st) :
  ACalls Tryz.prog 224 ([int (t : Nat)] ++ [ptr p]) st R := by
 have hget : g.T.getD t 0 = g.T[t] := by simp [ht]
 rw [hget] at h
 refine ACalls.of_body (c := cfg 10) zc Tryz.func224 (by rfl) (by rfl) (by rfl) (by rfl) ?_
 refine za _ hp ?_
 refine ⟨t, rfl, za _ (zk ht) ?_⟩
 refine ret ?_
 have e : decide ((1 : Int) < (g.T[t].toNat : Int)) = decide (g.T[t].toNat > 1) := by
  rw [Bool.eq_iff_iff, decide_eq_true_iff, decide_eq_true_iff]; omega
 rw [← e] at h
 exact h
theorem zok (g : Gnd) (hg : gndP g) (b : Bld) (hb : bldP b ∧ onP g b) (st : Store) (R : AV → Store → Prop) (h : ∀ z : Bool, (z = true ↔ ziy g b) → R (bool z) st) :
  ACalls Tryz.prog 198 [.agg (gndC g), .agg (bldC b)] st R := by
 have hm := ya hg
 refine ACalls.of_body (c := cfg 11 [2] []) zc Tryz.func198 (by rfl) (by rfl) (by rfl) (by rfl) ?_
 intro p hp
 have ho : (st.setObj p (.cells (gndC g))).obj p = some (.cells (gndC g)) := zb _ _ _
 refine za _ ho ?_
 refine zbh g hg b hb _ _ ?_
 have hl : (xu g.W b).length ≤ 1000000000000 := by
  unfold xu
  rw [wv]
  have hb' := hb.1
  unfold bldP at hb'
  have : b.h.toNat * b.w.toNat ≤ 4 * 4 := Nat.mul_le_mul (by omega) (by omega)
  omega
 refine zco (xu g.W b) hl _ _ (fun x => decide ((g.T.getD x.toNat 0).toNat > 1)) _ (fun x hx R h => ?_) _ ?_
 ·obtain ⟨n, rfl, hn, hh⟩ := (qv hg hb.1 hb.2 x).1 hx
  exact zkv g p n (by omega) _ ho R (by rw [Int.toNat_natCast] at h; exact h)
 refine xw (ar_ _) (yp hp.1) (h _ ?_)
 unfold ziy
 rw [Bool.not_eq_true', List.any_eq_false]
 constructor
 ·intro hh t ht hb2
  have := hh (t : Int) ((qv hg hb.1 hb.2 _).2 ⟨t, rfl, by omega, hb2⟩)
  rw [decide_eq_true_iff, Int.toNat_natCast] at this
  omega
 ·intro hh x hx
  obtain ⟨n, rfl, hn, hb2⟩ := (qv hg hb.1 hb.2 x).1 hx
  rw [decide_eq_true_iff, Int.toNat_natCast]
  have := hh n (by omega) hb2
  omega
end Go.Proofs
namespace Go.Proofs
open Go Go.V
/-- A slice of yes and no, all its own. -/
def blV (b n : Nat) : AV := .s (.slice (some ⟨b, 0, none⟩) n n)
theorem zod (g : Gnd) (hg : gndP g) (l : List Bld) (hl : l.length ≤ 1000000000000) (hb : ∀ b ∈ l, bldP b ∧ onP g b) (st : Store) (R : AV → Store → Prop)
  (h : ∀ b, Fresh st b → R (blV b g.T.length) (st.setObj b (.cells (bl g.T.length (covB g l))))) : ACalls Tryz.prog 221 [.agg (gndC g), lst 6 bldC l] st R := by
 have ha := ya hg
 have hT : ((rws u8C g.T).length : Int) = (g.T.length : Int) := by rw [zi]
 refine ACalls.of_body (c := cfg 34) zc Tryz.func221 (by rfl) (by rfl) (by rfl) (by rfl) ?_
 refine xq rfl (it := ti60) (ie := ti4) rfl rfl rfl rfl rfl (n := (rws u8C g.T).length) ?_ ?_ (fun b hf => ?_)
 ·rw [zi]; show 1 * _ ≤ _; omega
 ·rw [zi]; omega
 rw [zi, zg6]
 refine AWp.loop (σ := Nat) ⟨fun i => [(2, .bx 2 0), (5, .av (blV b g.T.length)), (14, .av (lst 6 bldC l)), (15, .av (int (l.length : Nat))), (16, .av (int (i : Nat)))], fun _ => [(2, gndC g)],
  fun i st' => i ≤ l.length ∧ st' = st.setObj b (.cells (bl g.T.length (covB g (l.take i)))), fun i => l.length - i⟩ zc ?_ ?_
 ·refine ⟨0, trivial, ⟨Nat.zero_le _, rfl⟩, ⟨lr_ _, lr_ _, lr_ _, ?_, lr_ _, trivial⟩, ⟨rfl, trivial⟩⟩
  rw [← zi (f := bldC) l]
  exact lr_ _
 rintro i st' ⟨hi, rfl⟩
 refine bcd (fun h1 => ?_) (fun h1 => ?_)
 rotate_left
 ·have : i = l.length := by omega
  subst this
  rw [List.take_length]
  exact ret (h b hf)
 have hlt : i < l.length := by omega
 have hbi := hb l[i] (List.getElem_mem hlt)
 refine ⟨i, rfl, za _ (zk hlt) ?_⟩
 refine zbh g hg l[i] hbi _ _ ?_
 have hcov := fun (t : Nat) (ht : t < g.T.length) => zi9 hg hlt hbi ht
 have hmem := qv hg hbi.1 hbi.2
 have h0 := zi7 g l i (xu g.W l[i])
 have hts := ze3 g.W hbi.1
 generalize xu g.W l[i] = ts at *
 refine AWp.loop (σ := Nat) ⟨fun k => [(2, .bx 2 0), (5, .av (blV b g.T.length)), (14, .av (lst 6 bldC l)), (15, .av (int (l.length : Nat))), (16, .av (int (i : Nat))), (22, .av (ints ts)), (23, .av (int (ts.length : Nat))), (24, .av (int (k : Nat)))], fun _ => [(2, gndC g)],
  fun k st' => k ≤ ts.length ∧ st' = st.setObj b (.cells (bl g.T.length (covF g l i ts k))), fun k => ts.length - k⟩ zc ?_ ?_
 ·refine ⟨0, trivial, ⟨Nat.zero_le _, ?_⟩, ⟨lr_ _, lr_ _, lr_ _, lr_ _, lr_ _, lr_ _, ?_, lr_ _, trivial⟩, ⟨rfl, trivial⟩⟩
  ·rw [show covF g l i ts 0 = covB g (l.take i) from funext h0]
  ·rw [← zi (f := intC) ts]
   exact lr_ _
 rintro k st' ⟨hk, rfl⟩
 refine bcd (fun h2 => ?_) (fun h2 => ?_)
 rotate_left
 ·have : k = ts.length := by omega
  subst this
  refine in64 (by omega) ?_
  refine ⟨i + 1, ?_, ⟨by omega, ?_⟩, ⟨lr_ _, lr_ _, lr_ _, lr_ _, lr_ _, trivial⟩, ⟨rfl, trivial⟩⟩
  ·show l.length - (i + 1) < l.length - i
   omega
  ·have : bl g.T.length (covF g l i ts ts.length) = bl g.T.length (covB g (l.take (i + 1))) := by
    unfold bl
    exact List.map_congr_left fun t ht => by rw [hcov t (List.mem_range.1 ht)]
   rw [this]
 have hklt : k < ts.length := by omega
 obtain ⟨n, hn, hn2, hn3⟩ := (hmem ts[k]).1 (List.getElem_mem hklt)
 have hnl : n < g.T.length := by omega
 obtain ⟨s1, s2⟩ := zi8 (g := g) (l := l) (i := i) hklt hn
 refine ⟨k, rfl, za _ (zk hklt) ?_⟩
 refine ⟨n, hn, hnl, ?_⟩
 refine zn (i := ti4) (v := bool true) (b := b) (o := 0 + n * 1) (l := bl g.T.length (covF g l i ts k)) (st2 := st.setObj b (.cells (bl g.T.length (covF g l i ts (k + 1))))) rfl rfl rfl (zb _ _ _) (by rw [kh]; omega) ?_ ?_
 ·rw [zg, show 0 + n * 1 = n by omega, ← s1, zfu hnl _ s2]
 refine in64 (by omega) ?_
 refine ⟨k + 1, ?_, ⟨by omega, rfl⟩, ⟨lr_ _, lr_ _, lr_ _, lr_ _, lr_ _, lr_ _, lr_ _, lr_ _, trivial⟩, ⟨rfl, trivial⟩⟩
 show ts.length - (k + 1) < ts.length - k
 omega
theorem zdr (n : Nat) (f : Nat → Bool) : (rws zbe (blL n f)).flatten ++ [] = bl n f := by rw [List.append_nil, yha]
def opV (g : Gnd) (l : List Bld) (c : Int) : AV := lst 1 zbe (blL g.T.length (yi g l c))
/-- Half done: the first tiles are asked for their zpc as well. -/
def midB (g : Gnd) (l : List Bld) (c : Int) (i t : Nat) : Bool := if t < i then yi g l c t else covB g l t
theorem qs (g : Gnd) (hg : gndP g) (l : List Bld) (hl : l.length ≤ 1000000000000) (hb : ∀ b ∈ l, bldP b ∧ onP g b) (c : Int) (st : Store) (R : AV → Store → Prop) (h : R (opV g l c) st) :
  ACalls Tryz.prog 190 [.agg (gndC g), lst 6 bldC l, int c] st R := by
 have ha := ya hg
 refine ACalls.of_awp (c := cfg 37) zc Tryz.func190 (by rfl) (by rfl) (by rfl) (by rfl) ?_
 refine AWp.seq (AWp.of_vc zc ?_)
 refine AWp.seq (AWp.of_vc zc ?_)
 refine zod g hg l hl hb _ _ (fun b hf => ?_)
 have step : ∀ i, i < g.T.length → midB g l c (i + 1) i = yi g l c i ∧ ∀ s, s ≠ i → midB g l c (i + 1) s = midB g l c i s := fun i hi => by
  unfold midB
  refine ⟨if_pos (by omega), fun s hs => ?_⟩
  by_cases h1 : s < i
  ·rw [if_pos (by omega), if_pos h1]
  ·rw [if_neg (by omega), if_neg h1]
 refine AWp.meetA (σ := Unit) ⟨fun _ => [(7, .av (blV b g.T.length))], fun _ => [], fun _ st' => st' = st.setObj b (.cells (bl g.T.length (yi g l c)))⟩ ?_ ?_
 ·refine AWp.of_vc zc ?_
  refine AWp.loop (σ := Nat) ⟨fun i => [(2, .av (int c)), (3, .bx 3 0), (7, .av (blV b g.T.length)), (13, .av (blV b g.T.length)), (14, .av (int (g.T.length : Nat))), (15, .av (int (i : Nat)))], fun _ => [(3, gndC g)],
   fun i st' => i ≤ g.T.length ∧ st' = st.setObj b (.cells (bl g.T.length (midB g l c i))), fun i => g.T.length - i⟩ zc ?_ ?_
  ·refine ⟨0, trivial, ⟨Nat.zero_le _, ?_⟩, ⟨lr_ _, lr_ _, lr_ _, lr_ _, lr_ _, lr_ _, trivial⟩, ⟨rfl, trivial⟩⟩
   rw [show midB g l c 0 = covB g l from funext fun t => if_neg (Nat.not_lt_zero t)]
  rintro i st' ⟨hi, rfl⟩
  refine bcd (fun h1 => ?_) (fun h1 => ?_)
  rotate_left
  ·have : i = g.T.length := by omega
   subst this
   refine ⟨(), ?_, ⟨lr_ _, trivial⟩, trivial⟩
   have : bl g.T.length (midB g l c g.T.length) = bl g.T.length (yi g l c) := by
    unfold bl midB
    exact List.map_congr_left fun t ht => by rw [if_pos (List.mem_range.1 ht)]
   rw [this]
  have hlt : i < g.T.length := by omega
  obtain ⟨s1, s2⟩ := step i hlt
  have ho : (st.setObj b (.cells (bl g.T.length (midB g l c i)))).obj b = some (.cells (bl g.T.length (midB g l c i))) := zb _ _ _
  have hmid : midB g l c i i = covB g l i := if_neg (Nat.lt_irrefl i)
  have hhead : ((bl g.T.length (midB g l c i)).drop (0 + i * 1)).head? = some (bool (covB g l i)) := by
   rw [List.head?_drop, show 0 + i * 1 = i by omega, zcj hlt, hmid]
  refine ⟨i, rfl, hlt, ?_⟩
  refine za _ ho (za _ hhead ?_)
  have hti : g.T[i].toNat ≤ 5 := hg.2.2.2 _ (List.getElem_mem hlt)
  have hget : g.T.getD i 0 = g.T[i] := by simp [hlt]
  refine ze (fun c1 => ?_) (fun c1 => ?_)
  ·have c1 : covB g l i = false := by simpa using c1
   refine ⟨i, rfl, za _ (zk hlt) ?_⟩
   refine zbn c g.T[i] hti _ _ ?_
   have hz : decide (0 < zcl c g.T[i].toNat) = yi g l c i := by
    unfold yi
    rw [c1, hget]; rfl
   refine ⟨i, rfl, hlt, ?_⟩
   refine zn (i := ti4) (v := bool (decide (0 < zcl c g.T[i].toNat))) (b := b) (o := 0 + i * 1) (l := _) (st2 := st.setObj b (.cells (bl g.T.length (midB g l c (i + 1))))) rfl rfl rfl ho (by rw [kh]; omega) (by rw [zg, show 0 + i * 1 = i by omega, hz, ← s1, zfu hlt _ s2]) ?_
   refine in64 (by omega) ?_
   refine ⟨i + 1, ?_, ⟨by omega, rfl⟩, ⟨lr_ _, lr_ _, lr_ _, lr_ _, lr_ _, lr_ _, trivial⟩, ⟨rfl, trivial⟩⟩
   show g.T.length - (i + 1) < g.T.length - i
   omega
  ·have c1 : covB g l i = true := by simpa using c1
   have hz : false = yi g l c i := by
    unfold yi
    rw [c1]; rfl
   refine ⟨i, rfl, hlt, ?_⟩
   refine zn (i := ti4) (v := bool false) (b := b) (o := 0 + i * 1) (l := _) (st2 := st.setObj b (.cells (bl g.T.length (midB g l c (i + 1))))) rfl rfl rfl ho (by rw [kh]; omega) (by rw [zg, show 0 + i * 1 = i by omega, hz, ← s1, zfu hlt _ s2]) ?_
   refine in64 (by omega) ?_
   refine ⟨i + 1, ?_, ⟨by omega, rfl⟩, ⟨lr_ _, lr_ _, lr_ _, lr_ _, lr_ _, lr_ _, trivial⟩, ⟨rfl, trivial⟩⟩
   show g.T.length - (i + 1) < g.T.length - i
   omega
 ·rintro _ _ rfl
  refine AWp.freeze (d := 7) (b := b) (k := 1) (n := g.T.length) (cap := g.T.length) (rows := rws zbe (blL g.T.length (yi g l c))) (pad := []) rfl ?_ ?_ ?_ (Nat.le_refl _) ?_ ?_ ?_
  ·rw [zdr]; exact zb _ _ _
  ·exact hf.2
  ·rw [zi, ko]
  ·intro row hr
   obtain ⟨x, _, rfl⟩ := List.mem_map.1 hr
   rfl
  ·intro row hr y hy
   obtain ⟨x, _, rfl⟩ := List.mem_map.1 hr
   simp [zbe] at hy
   exact ⟨_, hy, rfl⟩
  rw [xj hf.1]
  refine AWp.of_vc zc ?_
  exact ret h
end Go.Proofs
namespace Go.Proofs
open Go Go.V
set_option maxHeartbeats 1000000 in
theorem zg4 (g : Gnd) (hg : gndP g) (l : List Bld) (hl : l.length ≤ 1000000000000) (st : Store) (R : AV → Store → Prop)
  (h : ∀ z : Bool, (z = true ↔ zoi g l) → R (bool z) st) : ACalls Tryz.prog 166 [.agg (gndC g), lst 6 bldC l] st R := by
 have ha := ya hg
 have hT : ((rws u8C g.T).length : Int) = (g.T.length : Int) := by rw [zi]
 have hL : ((rws bldC l).length : Int) = (l.length : Int) := by rw [zi]
 have no : ¬ zoi g l → R (bool false) st := fun hn => h false (by simp [hn])
 refine ACalls.of_body (c := cfg 60) zc Tryz.func166 (by rfl) (by rfl) (by rfl) (by rfl) ?_
 refine bcd (fun c1 => ret (no fun q => by have := q.1; omega)) (fun c1 => ?_)
 refine zjh l hl _ _ (fun z hz => ?_)
 refine qm ?_
 refine ze (fun c2 => ?_) (fun c2 => ret (no fun q => by have := hz.2 q.2.1; rw [this] at c2; cases c2))
 have hr := hz.1 c2
 refine xq rfl (it := ti60) (ie := ti4) rfl rfl rfl rfl rfl (n := (rws u8C g.T).length) ?_ ?_ (fun b hf => ?_)
 ·rw [zi]; show 1 * _ ≤ _; omega
 ·rw [zi]; omega
 rw [zi (f := u8C) g.T, zg6]
 have hhas : ∀ f : Nat → Bool, (st.setObj b (.cells (bl g.T.length f))).Has st := fun f => yp hf.1
 refine AWp.loop (σ := Nat) ⟨fun i => [(2, .bx 2 0), (5, .av (blV b g.T.length)), (22, .av (lst 6 bldC l)), (23, .av (int (l.length : Nat))), (24, .av (int (i : Nat)))], fun _ => [(2, gndC g)],
  fun i st' => i ≤ l.length ∧ st' = st.setObj b (.cells (bl g.T.length (covB g (l.take i)))) ∧ yg8 g l i, fun i => l.length - i⟩ zc ?_ ?_
 ·refine ⟨0, trivial, ⟨Nat.zero_le _, rfl, fun j _ hj => by omega⟩, ⟨lr_ _, lr_ _, lr_ _, ?_, lr_ _, trivial⟩, ⟨rfl, trivial⟩⟩
  rw [← zi (f := bldC) l]
  exact lr_ _
 rintro i st' ⟨hi, rfl, hup⟩
 refine bcd (fun h1 => ?_) (fun h1 => ?_)
 rotate_left
 ·have : i = l.length := by omega
  subst this
  have hall := zr1 hup
  exact xw (ar_ _) (hhas _) (h true (by simp; exact ⟨by omega, hr, hall.1, hall.2⟩))
 have hlt : i < l.length := by omega
 have nof : ¬ zoi g l → ∃ r st', AV.le (bool false) r ∧ (st.setObj b (.cells (bl g.T.length (covB g (l.take i))))).Has st' ∧ R r st' := fun hn => xw (ar_ _) (hhas _) (no hn)
 refine ⟨i, rfl, za _ (zk hlt) ?_⟩
 refine zoj l[i] _ _ (fun z1 hz1 => ?_)
 refine qm ?_
 refine ze (fun c3 => ?_) (fun c3 => nof fun q => by have := hz1.2 (q.2.2.1 _ (List.getElem_mem hlt)).1; rw [this] at c3; cases c3)
 have hb1 := hz1.1 c3
 refine yb3 g l[i] hg hb1 _ _ (fun z2 hz2 => ?_)
 refine qm ?_
 refine ze (fun c4 => ?_) (fun c4 => nof fun q => by have := hz2.2 (q.2.2.1 _ (List.getElem_mem hlt)).2.1; rw [this] at c4; cases c4)
 have hb2 := hz2.1 c4
 refine zok g hg l[i] ⟨hb1, hb2⟩ _ _ (fun z3 hz3 => ?_)
 refine qm ?_
 refine ze (fun c5 => ?_) (fun c5 => nof fun q => by have := hz3.2 (q.2.2.1 _ (List.getElem_mem hlt)).2.2; rw [this] at c5; cases c5)
 have hb3 := hz3.1 c5
 have hbi : bldP l[i] ∧ onP g l[i] := ⟨hb1, hb2⟩
 refine zbh g hg l[i] hbi _ _ ?_
 have hcov := fun (t : Nat) (ht : t < g.T.length) => zi9 hg hlt hbi ht
 have hmem := qv hg hbi.1 hbi.2
 have h0 := zi7 g l i (xu g.W l[i])
 have hts := ze3 g.W hbi.1
 have hcm := yby hg hlt hbi hup
 have hso := zf5 hg hbi
 generalize xu g.W l[i] = ts at *
 refine AWp.loop (σ := Nat) ⟨fun k => [(2, .bx 2 0), (5, .av (blV b g.T.length)), (22, .av (lst 6 bldC l)), (23, .av (int (l.length : Nat))), (24, .av (int (i : Nat))), (45, .av (ints ts)), (46, .av (int (ts.length : Nat))), (47, .av (int (k : Nat)))], fun _ => [(2, gndC g)],
  fun k st' => k ≤ ts.length ∧ st' = st.setObj b (.cells (bl g.T.length (covF g l i ts k))) ∧ ∀ m, (hm : m < ts.length) → m < k → covB g (l.take i) ts[m].toNat = false, fun k => ts.length - k⟩ zc ?_ ?_
 ·refine ⟨0, trivial, ⟨Nat.zero_le _, ?_, fun m _ hm => by omega⟩, ⟨lr_ _, lr_ _, lr_ _, lr_ _, lr_ _, lr_ _, ?_, lr_ _, trivial⟩, ⟨rfl, trivial⟩⟩
  ·rw [show covF g l i ts 0 = covB g (l.take i) from funext h0]
  ·rw [← zi (f := intC) ts]
   exact lr_ _
 rintro k st' ⟨hk, rfl, hno⟩
 refine bcd (fun h2 => ?_) (fun h2 => ?_)
 rotate_left
 ·have : k = ts.length := by omega
  subst this
  refine in64 (by omega) ?_
  refine ⟨i + 1, ?_, ⟨by omega, ?_, fun j hj hji => ?_⟩, ⟨lr_ _, lr_ _, lr_ _, lr_ _, lr_ _, trivial⟩, ⟨rfl, trivial⟩⟩
  ·show l.length - (i + 1) < l.length - i
   omega
  ·have : bl g.T.length (covF g l i ts ts.length) = bl g.T.length (covB g (l.take (i + 1))) := by
    unfold bl
    exact List.map_congr_left fun t ht => by rw [hcov t (List.mem_range.1 ht)]
   rw [this]
  ·by_cases e : j = i
   ·subst e
    refine ⟨⟨hb1, hb2, hb3⟩, fun m hm hmt => ?_⟩
    obtain ⟨t, ht, hc⟩ := hcm.2 ⟨m, hm, hmt⟩
    obtain ⟨q, hq, rfl⟩ := List.getElem_of_mem ht
    rw [hno q hq hq] at hc
    cases hc
   ·exact hup j hj (by omega)
 have hklt : k < ts.length := by omega
 obtain ⟨n, hn, hn2, hn3⟩ := (hmem ts[k]).1 (List.getElem_mem hklt)
 have hnl : n < g.T.length := by omega
 obtain ⟨s1, s2⟩ := zi8 (g := g) (l := l) (i := i) hklt hn
 have hnk : covF g l i ts k n = covB g (l.take i) n := by
  unfold covF
  have : (ts.take k).contains (n : Int) = false := by
   rw [← hn]
   have := zia hso hklt
   simpa using this
  rw [this, Bool.or_false]
 refine ⟨k, rfl, za _ (zk hklt) ?_⟩
 have ho : (st.setObj b (.cells (bl g.T.length (covF g l i ts k)))).obj b = some (.cells (bl g.T.length (covF g l i ts k))) := zb _ _ _
 have hhead : ((bl g.T.length (covF g l i ts k)).drop (0 + n * 1)).head? = some (V.bool (covB g (l.take i) n)) := by
  rw [List.head?_drop, show 0 + n * 1 = n by omega, zcj hnl, hnk]
 refine ⟨n, hn, hnl, ?_⟩
 refine za _ ho (za _ hhead ?_)
 refine ze (fun c6 => ?_) (fun c6 => ?_)
 ·refine xw (ar_ _) (hhas _) (no fun q => ?_)
  obtain ⟨m, hm, hmt⟩ := hcm.1 ⟨ts[k], List.getElem_mem hklt, by rw [hn, Int.toNat_natCast]; exact c6⟩
  exact q.2.2.2 i hlt m hm hmt
 refine ⟨n, hn, hnl, ?_⟩
 refine zn (i := ti4) (v := bool true) (b := b) (o := 0 + n * 1) (l := bl g.T.length (covF g l i ts k)) (st2 := st.setObj b (.cells (bl g.T.length (covF g l i ts (k + 1))))) rfl rfl rfl (zb _ _ _) (by rw [kh]; omega) ?_ ?_
 ·rw [zg, show 0 + n * 1 = n by omega, ← s1, zfu hnl _ s2]
 refine in64 (by omega) ?_
 refine ⟨k + 1, ?_, ⟨by omega, rfl, fun m hm hmk => ?_⟩, ⟨lr_ _, lr_ _, lr_ _, lr_ _, lr_ _, lr_ _, lr_ _, lr_ _, trivial⟩, ⟨rfl, trivial⟩⟩
 ·show ts.length - (k + 1) < ts.length - k
  omega
 ·by_cases e : m = k
  ·subst e
   rw [hn, Int.toNat_natCast]; exact c6
  ·exact hno m hm (by omega)
end Go.Proofs
namespace Go.Proofs
open Go Go.V
end Go.Proofs
namespace Go.Proofs
open Go Go.V
end Go.Proofs
namespace Go.Proofs
open Go Go.V
end Go.Proofs
namespace Go.Proofs
open Go Go.V
theorem zns (g : Gnd) (hg : gndP g) (t : Nat) (ht : (t : Int) < g.W * g.H) (x : Int) (hx : x = (t : Int)) (p : Vc) (hp : ks p.1 p.2) (r : Int) (hr : 0 < r ∧ r ≤ 262144) (st : Store) (R : AV → Store → Prop) (h : R (V.bool (decide (hitP g t p r))) st) :
  ACalls Tryz.prog 189 [.agg (gndC g), int x, .agg (vecC p), int r] st R := by
 subst hx
 exact zq3 g hg t ht p hp r hr st R h
set_option maxHeartbeats 1000000 in
theorem zix (g : Gnd) (hg : gndP g) (l : List Bld) (c : Int) (p : Vc) (hpo : p.ok) (r : Int) (hr : 0 < r ∧ r ≤ 262144) (st : Store) (R : AV → Store → Prop)
  (h : ∀ z : Bool, (z = true ↔ ziv g l c p r) → R (V.bool z) st) : ACalls Tryz.prog 161 [.agg (gndC g), opV g l c, .agg (vecC p), int r] st R := by
 have ha := ya hg
 have hg1 := hg.1
 have hg2 := hg.2.1
 have no : ¬ ziv g l c p r → R (V.bool false) st := fun hn => h false (by simp only [Bool.false_eq_true, false_iff]; exact hn)
 refine ACalls.of_body (c := cfg 112) zc Tryz.func161 (by rfl) (by rfl) (by rfl) (by rfl) ?_
 refine ADraw.of_sched zc (by rfl) (by rfl) yaj (by rfl) ?_
 refine in64 (by omega) ?_
 refine in64 (by omega) ?_
 refine ⟨⟨(by repeat (first | exact trivial | refine ⟨rfl, ?_⟩ | refine ⟨optR (optR (optR (za _ (zb _ _ _) rfl))), ?_⟩)), ?_⟩, trivial⟩
 refine ⟨⟨trivial, ?_⟩, trivial⟩
 refine zoa p r _ _ (fun z hz => ?_)
 refine qm ?_
 refine ze (fun c0 => ?_) (fun c0 => ret (no fun q => by
  have := hz.2 ⟨⟨by omega, hr.2⟩, by unfold ks; have := q.1; omega⟩
  rw [this] at c0; cases c0))
 have hp := (hz.1 c0).2
 have hp' := hp
 unfold ks at hp'
 refine in64 (by omega) ?_
 refine bcd (fun c1 => ret (no fun q => by have := q.1; omega)) (fun c1 => ?_)
 refine in64 (by omega) ?_
 refine bcd (fun c2 => ret (no fun q => by have := q.1; omega)) (fun c2 => ?_)
 refine in64 (by omega) ?_
 refine bcd (fun c3 => ret (no fun q => by have := q.1; omega)) (fun c3 => ?_)
 refine in64 (by omega) ?_
 refine bcd (fun c4 => ret (no fun q => by have := q.1; omega)) (fun c4 => ?_)
 refine in64 (by omega) ?_
 refine ⟨by decide, ?_⟩
 have hy0 : (p.2 - r).tdiv 65536 = (p.2 - r) / 65536 := Int.tdiv_eq_ediv_of_nonneg (by omega)
 have hx0 : (p.1 - r).tdiv 65536 = (p.1 - r) / 65536 := Int.tdiv_eq_ediv_of_nonneg (by omega)
 have hy1 : (p.2 + r).tdiv 65536 = (p.2 + r) / 65536 := Int.tdiv_eq_ediv_of_nonneg (by omega)
 have hx1 : (p.1 + r).tdiv 65536 = (p.1 + r) / 65536 := Int.tdiv_eq_ediv_of_nonneg (by omega)
 refine in64 (by omega) ?_
 rw [hy0]
 refine AWp.loop (σ := Nat) ⟨fun k => [(1, .av (opV g l c)), (3, .av (int r)), (4, .bx 4 0), (6, .bx 6 0), (11, .av (int ((p.2 - r) / 65536 + (k : Nat))))], fun _ => [(4, gndC g), (6, vecC p)],
  fun k st' => st' = st ∧ ((k : Int) ≤ g.H - (p.2 - r) / 65536 ∨ k = 0) ∧ zby g l c p r ((p.2 - r) / 65536 + (k : Nat)), fun k => (g.H - (p.2 - r) / 65536).toNat - k⟩ zc ?_ ?_
 ·refine ⟨0, trivial, ⟨rfl, .inr rfl, ?_⟩, ⟨lr_ _, lr_ _, lr_ _, lr_ _, ?_, trivial⟩, ⟨rfl, rfl, trivial⟩⟩
  ·rw [show (p.2 - r) / 65536 + ((0 : Nat) : Int) = (p.2 - r) / 65536 by omega]
   exact zlb hr.1 (by omega)
  ·rw [show (p.2 - r) / 65536 + ((0 : Nat) : Int) = (p.2 - r) / 65536 by omega]; exact lr_ _
 rintro k st' ⟨rfl, hk, hup⟩
 refine in64 (by omega) ?_
 refine ⟨by decide, ?_⟩
 refine in64 (by omega) ?_
 rw [hy1]
 have done : (¬ ((p.2 - r) / 65536 + (k : Int) ≤ (p.2 + r) / 65536) ∨ ¬ ((p.2 - r) / 65536 + (k : Int) < g.H)) → R (V.bool true) st' := fun hh =>
  h true (by simp only [true_iff]; exact ⟨by omega, zlc hg hr.1 (by omega) hh hup⟩)
 refine bcd (fun c5 => ?_) (fun c5 => ret (done (.inl c5)))
 refine bcd (fun c6 => ?_) (fun c6 => ret (done (.inr c6)))
 refine in64 (by omega) ?_
 refine ⟨by decide, ?_⟩
 refine in64 (by omega) ?_
 rw [hx0]
 have hyb : 0 ≤ (p.2 - r) / 65536 := by omega
 have hxb : 0 ≤ (p.1 - r) / 65536 := by omega
 refine AWp.loop (σ := Nat) ⟨fun m => [(1, .av (opV g l c)), (3, .av (int r)), (4, .bx 4 0), (6, .bx 6 0), (11, .av (int ((p.2 - r) / 65536 + (k : Nat)))), (12, .av (int ((p.1 - r) / 65536 + (m : Nat))))], fun _ => [(4, gndC g), (6, vecC p)],
  fun m st2 => st2 = st' ∧ ((m : Int) ≤ g.W - (p.1 - r) / 65536 ∨ m = 0) ∧ za9 g l c p r ((p.2 - r) / 65536 + (k : Nat)) ((p.1 - r) / 65536 + (m : Nat)), fun m => (g.W - (p.1 - r) / 65536).toNat - m⟩ zc ?_ ?_
 ·refine ⟨0, trivial, ⟨rfl, .inr rfl, ?_⟩, ⟨lr_ _, lr_ _, lr_ _, lr_ _, lr_ _, ?_, trivial⟩, ⟨rfl, rfl, trivial⟩⟩
  ·rw [show (p.1 - r) / 65536 + ((0 : Nat) : Int) = (p.1 - r) / 65536 by omega]
   exact zjc hr.1 (by omega)
  ·rw [show (p.1 - r) / 65536 + ((0 : Nat) : Int) = (p.1 - r) / 65536 by omega]; exact lr_ _
 rintro m st2 ⟨rfl, hm, hrow⟩
 refine in64 (by omega) ?_
 refine ⟨by decide, ?_⟩
 refine in64 (by omega) ?_
 rw [hx1]
 have done2 : (¬ ((p.1 - r) / 65536 + (m : Int) ≤ (p.1 + r) / 65536) ∨ ¬ ((p.1 - r) / 65536 + (m : Int) < g.W)) → zby g l c p r ((p.2 - r) / 65536 + ((k + 1 : Nat) : Int)) := fun hh => by
  rw [zec]
  exact zjd hg hr.1 (by omega) hh hup hrow
 have mu : (g.H - (p.2 - r) / 65536).toNat - (k + 1) < (g.H - (p.2 - r) / 65536).toNat - k := ycp (Int.lt_sub_left_of_add_lt c6)
 have step2 : LV.le (vint .i64 ((p.2 - r) / 65536 + (k : Int) + 1)) (.av (int ((p.2 - r) / 65536 + ((k + 1 : Nat) : Int)))) := by
  rw [zec]; exact lr_ _
 refine bcd (fun c7 => ?_) (fun c7 => in64 (by omega) ⟨k + 1, mu, ⟨rfl, .inl (zct c6), done2 (.inl c7)⟩, ⟨lr_ _, lr_ _, lr_ _, lr_ _, step2, trivial⟩, ⟨rfl, rfl, trivial⟩⟩)
 refine bcd (fun c8 => ?_) (fun c8 => in64 (by omega) ⟨k + 1, mu, ⟨rfl, .inl (zct c6), done2 (.inr c8)⟩, ⟨lr_ _, lr_ _, lr_ _, lr_ _, step2, trivial⟩, ⟨rfl, rfl, trivial⟩⟩)
 obtain ⟨q1, q2, q3, q4⟩ := j6 hg (x := (p.1 - r) / 65536 + (m : Int)) (y := (p.2 - r) / 65536 + (k : Int)) (by omega) (by omega)
 have q5 : 0 ≤ g.W * ((p.2 - r) / 65536 + (k : Int)) := Int.mul_nonneg (by omega) (by omega)
 have hstep := zg1 (l := l) (c := c) (p := p) (r := r) hg (x := (p.1 - r) / 65536 + (m : Int)) (y := (p.2 - r) / 65536 + (k : Int)) (by omega) (by omega) hrow
 refine in64 (by omega) ?_
 refine in64 (by omega) ?_
 obtain ⟨n, hn⟩ : ∃ n : Nat, (n : Int) = (p.1 - r) / 65536 + (m : Int) + g.W * ((p.2 - r) / 65536 + (k : Int)) := ⟨_, Int.toNat_of_nonneg q1⟩
 rw [← hn, Int.toNat_natCast] at hstep
 have hnl : n < g.T.length := by omega
 have mu2 : (g.W - (p.1 - r) / 65536).toNat - (m + 1) < (g.W - (p.1 - r) / 65536).toNat - m := ycp (Int.lt_sub_left_of_add_lt c8)
 have e2 : (p.1 - r) / 65536 + ((m + 1 : Nat) : Int) = (p.1 - r) / 65536 + (m : Int) + 1 := zec _ _
 have step3 : LV.le (vint .i64 ((p.1 - r) / 65536 + (m : Int) + 1)) (.av (int ((p.1 - r) / 65536 + ((m + 1 : Nat) : Int)))) := by
  rw [e2]; exact lr_ _
 refine ⟨n, hn.symm, za _ (yhb hnl) ?_⟩
 refine qm ?_
 refine ze (fun c9 => ?_) (fun c9 => ?_)
 ·refine in64 (by omega) ?_
  exact ⟨m + 1, mu2, ⟨rfl, .inl (zct c8), by rw [e2]; exact hstep fun hh => by rw [c9] at hh; cases hh⟩, ⟨lr_ _, lr_ _, lr_ _, lr_ _, lr_ _, step3, trivial⟩, ⟨rfl, rfl, trivial⟩⟩
 refine zns g hg n (by omega) _ hn.symm p hp r hr _ _ ?_
 refine bcd (fun c10 => ?_) (fun c10 => ?_)
 ·exact ret (no fun q => q.2 n hnl c9 c10)
 ·refine in64 (by omega) ?_
  exact ⟨m + 1, mu2, ⟨rfl, .inl (zct c8), by rw [e2]; exact hstep fun _ => c10⟩, ⟨lr_ _, lr_ _, lr_ _, lr_ _, lr_ _, step3, trivial⟩, ⟨rfl, rfl, trivial⟩⟩
end Go.Proofs
