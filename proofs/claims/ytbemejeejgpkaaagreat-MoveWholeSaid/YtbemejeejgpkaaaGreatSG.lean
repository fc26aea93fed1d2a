/- The ground on which laws of thronglaw24 are proved: contracts of functions and plain lemmas; no condition beyond the row's own. -/
import Derived.Test.YtbemejeejgpkaaaGreatSF
set_option linter.unusedSimpArgs false
set_option linter.unusedVariables false
namespace Go.Proofs
open Go Go.V
theorem zf9 (w : Wld) (hU : w.U.length ≤ 1000000) (id : Int) (st : Store) (R : AV → Store → Prop) (h : R (int (idxI (w.U.findIdx? fun u => decide (u.id = id)))) st) : ACalls Tryz.prog 29 [.agg (wldC w), int id] st R := by
 refine ACalls.of_body (c := cfg 22) zc Tryz.func29 (by rfl) (by rfl) (by rfl) (by rfl) ?_
 refine AWp.loop (σ := Nat) ⟨fun i => [(1, .av (int id)), (2, .bx 2 0), (5, .av (int (i : Nat)))], fun _ => [(2, wldC w)],
  fun i st' => i ≤ w.U.length ∧ st' = st ∧ ∀ j, (hj : j < w.U.length) → j < i → w.U[j].id ≠ id, fun i => w.U.length - i⟩ zc ?_ ?_
 ·exact ⟨0, trivial, ⟨Nat.zero_le _, rfl, fun j _ hj => by omega⟩, ⟨lr_ _, lr_ _, lr_ _, trivial⟩, ⟨rfl, trivial⟩⟩
 rintro i st' ⟨hi, rfl, hall⟩
 refine zd (fun h1 => ?_) (fun h1 => ?_)
 rotate_left
 ·have : i = w.U.length := j9 h1 hi
  subst this
  have e : (w.U.findIdx? fun u => decide (u.id = id)) = none := by
   rw [List.findIdx?_eq_none_iff]
   intro x hx
   obtain ⟨j, hj, rfl⟩ := List.getElem_of_mem hx
   exact decide_eq_false (hall j hj hj)
  rw [e] at h
  exact ret h
 have hlt := xh h1
 refine ⟨i, rfl, za _ (zg hlt) ?_⟩
 refine bceq (fun c1 => ?_) (fun c1 => ?_)
 ·have e : (w.U.findIdx? fun u => decide (u.id = id)) = some i := by
   rw [List.findIdx?_eq_some_iff_getElem]
   exact ⟨hlt, decide_eq_true c1, fun j hj => by simpa using hall j (by omega) hj⟩
  rw [e] at h
  exact ret h
 ·refine in64 (by omega) ?_
  refine ⟨i + 1, ?_, ⟨by omega, rfl, fun j hj hj2 => ?_⟩, ⟨lr_ _, lr_ _, lr_ _, trivial⟩, ⟨rfl, trivial⟩⟩
  ·show w.U.length - (i + 1) < w.U.length - i
   omega
  ·by_cases e : j = i
   ·subst e; exact c1
   ·exact hall j hj (by omega)
theorem zs2 {l : List Unt} {i : Nat} (hi : i < l.length) (id : Int) : inOf (l.take (i + 1)) id = inOf (l.take i) id ++ (if l[i].inn = id then [l[i].id] else []) := by
 unfold inOf
 rw [List.take_succ_eq_append_getElem hi, List.filter_append, List.map_append]
 by_cases h : l[i].inn = id <;> simp [h]
theorem zi7 (w : Wld) (hU : w.U.length ≤ 1000000) (id : Int) (st : Store) (R : AV → Store → Prop) (h : R (ints (inOf w.U id)) st) : ACalls Tryz.prog 57 [.agg (wldC w), int id] st R := by
 refine ACalls.of_body (c := cfg 32) zc Tryz.func57 (by rfl) (by rfl) (by rfl) (by rfl) ?_
 refine AWp.loop (σ := Nat × AV) ⟨fun x => [(1, .av (int id)), (2, .bx 2 0), (5, .av x.2), (6, .av (int (x.1 : Nat)))], fun _ => [(2, wldC w)],
  fun x st' => x.1 ≤ w.U.length ∧ App 1 st x.2 (rws intC (inOf (w.U.take x.1) id)) st', fun x => w.U.length - x.1⟩ zc ?_ ?_
 ·exact ⟨(0, _), trivial, ⟨Nat.zero_le _, App.start 1 st⟩, ⟨lr_ _, lr_ _, lr_ _, lr_ _, trivial⟩, ⟨rfl, trivial⟩⟩
 rintro ⟨i, v⟩ st' ⟨hi, ha⟩
 dsimp only at hi ha ⊢
 refine zd (fun h1 => ?_) (fun h1 => ?_)
 rotate_left
 ·have : i = w.U.length := j9 h1 hi
  subst this
  rw [List.take_length] at ha
  exact ⟨_, st, AV.le_trans ha.le (ar_ _), ha.has, h⟩
 have hlt := xh h1
 have hs := zs2 hlt id
 have hl1 : (inOf (w.U.take i) id).length ≤ 1000000 := by
  have h1 := zl2 (l := w.U) i id
  have h2 : (inOf w.U id).length ≤ w.U.length := by unfold inOf; rw [List.length_map]; exact List.length_filter_le _ _
  omega
 refine ⟨i, rfl, za _ (zg hlt) ?_⟩
 refine bceq (fun c1 => ?_) (fun c1 => ?_)
 ·rw [if_pos c1] at hs
  refine ⟨i, rfl, za _ (zg hlt) ?_⟩
  refine ⟨by decide, ?_⟩
  refine vg (ie := ti3) (rows' := [intC w.U[i].id]) ha ?_ ?_ ⟨?_, ?_⟩ (fun v3 st3 ha3 => ?_)
  ·rfl
  ·rfl
  ·simp only [zi, List.length_singleton, ti3]; omega
  ·simp only [zi, List.length_singleton]; omega
  refine in64 (by omega) ?_
  refine ⟨(i + 1, v3), ?_, ⟨by dsimp only; omega, ?_⟩, ⟨lr_ _, lr_ _, lr_ _, lr_ _, trivial⟩, ⟨rfl, trivial⟩⟩
  ·show w.U.length - (i + 1) < w.U.length - i
   omega
  ·dsimp only
   rw [hs]
   unfold rws
   rw [List.map_append]
   exact ha3
 ·rw [if_neg c1, List.append_nil] at hs
  refine in64 (by omega) ?_
  refine ⟨(i + 1, v), ?_, ⟨by dsimp only; omega, ?_⟩, ⟨lr_ _, lr_ _, lr_ _, lr_ _, trivial⟩, ⟨rfl, trivial⟩⟩
  ·show w.U.length - (i + 1) < w.U.length - i
   omega
  ·dsimp only
   rw [hs]
   exact ha
theorem zef (w : Wld) (hg : gndP w.G) (hB : w.B.length ≤ 1000000000000) (hb : ∀ b ∈ w.B, bldP b ∧ onP w.G b) (hU : w.U.length ≤ 1000000) (hn : ∀ u ∈ w.U, u.pos.ok) (hk : ∀ u ∈ w.U, wd u.kind) (id k : Int) (hkk : wd k) (q : Vc) (hq : q.ok) (st : Store) (R : AV → Store → Prop)
  (h : ∀ z : Bool, (z = true ↔ yl w id k q) → R (V.bool z) st) : ACalls Tryz.prog 56 [.agg (wldC w), int id, int k, .agg (vecC q)] st R := by
 have no : ¬ yl w id k q → R (V.bool false) st := fun hh => h false (by simp only [Bool.false_eq_true, false_iff]; exact hh)
 have hr := zal k
 have hplace : yl w id k q → qd q.1 q.2 := fun hh => by
  have h1 := hh.1.1
  have h2 := hg.1
  have h3 := hg.2.1
  unfold qd
  omega
 refine ACalls.of_body (c := cfg 79) zc Tryz.func56 (by rfl) (by rfl) (by rfl) (by rfl) ?_
 refine ww k hkk _ _ ?_
 refine bcd (fun c1 => ret (no fun hh => by have := hplace hh; unfold qd at this; omega)) (fun c1 => ?_)
 refine bcd (fun c2 => ret (no fun hh => by have := hplace hh; unfold qd at this; omega)) (fun c2 => ?_)
 refine bcd (fun c3 => ret (no fun hh => by have := hplace hh; unfold qd at this; omega)) (fun c3 => ?_)
 refine bcd (fun c4 => ret (no fun hh => by have := hplace hh; unfold qd at this; omega)) (fun c4 => ?_)
 have e1 : Int.negSucc 1099511627775 = -1099511627776 := rfl
 refine zos w.G hg w.B hB hb (kCls k) (zsx k) q (by unfold qd; omega) (kRad k) ⟨hr.1, by omega⟩ _ _ (fun z hz => ?_)
 refine yk ?_
 refine zd (fun c5 => ?_) (fun c5 => ret (no fun hh => by have := hz.2 hh.1; rw [this] at c5; cases c5))
 have hfree := hz.1 c5
 refine AWp.loop (σ := Nat) ⟨fun i => [(1, .av (int id)), (4, .bx 4 0), (7, .bx 7 0), (9, .bx 9 0), (10, .av (int (i : Nat)))], fun _ => [(4, wldC w), (7, vecC q), (9, zen k)],
  fun i st' => i ≤ w.U.length ∧ st' = st ∧ ∀ j, (hj : j < w.U.length) → j < i → w.U[j].inn = 0 → w.U[j].id ≠ id → jy q (kRad k) w.U[j].pos (kRad w.U[j].kind) = true, fun i => w.U.length - i⟩ zc ?_ ?_
 ·exact ⟨0, trivial, ⟨Nat.zero_le _, rfl, fun j _ hj => by omega⟩, ⟨lr_ _, lr_ _, lr_ _, lr_ _, lr_ _, trivial⟩, ⟨rfl, rfl, rfl, trivial⟩⟩
 rintro i st' ⟨hi, rfl, hall⟩
 refine zd (fun h1 => ?_) (fun h1 => ?_)
 rotate_left
 ·have : i = w.U.length := j9 h1 hi
  subst this
  refine ret (h true (by
   simp only [true_iff]
   refine ⟨hfree, fun u hu h0 hne => ?_⟩
   obtain ⟨j, hj, rfl⟩ := List.getElem_of_mem hu
   exact hall j hj hj h0 hne))
 have hlt := xh h1
 have hui := List.getElem_mem hlt
 have next : (w.U[i].inn = 0 → w.U[i].id ≠ id → jy q (kRad k) w.U[i].pos (kRad w.U[i].kind) = true) → ∀ j, (hj : j < w.U.length) → j < i + 1 → w.U[j].inn = 0 → w.U[j].id ≠ id → jy q (kRad k) w.U[j].pos (kRad w.U[j].kind) = true := fun hh j hj hji => by
  by_cases e : j = i
  ·subst e; exact hh
  ·exact hall j hj (by omega)
 refine ⟨i, rfl, za _ (zg hlt) ?_⟩
 refine ADraw.of_sched zc (by rfl) (by rfl) yij (by rfl) ?_
 refine bceq (fun c6 => ?_) (fun c6 => ?_)
 rotate_left
 ·refine ⟨⟨(by repeat (first | exact trivial | refine ⟨rfl, ?_⟩ | refine ⟨optR (optR (optR (za _ (zb _ _ _) rfl))), ?_⟩)), ?_⟩, trivial⟩
  refine ⟨⟨trivial, ?_⟩, trivial⟩
  refine in64 (by omega) ?_
  refine ⟨i + 1, ?_, ⟨by omega, rfl, next fun h0 => absurd h0 c6⟩, ⟨lr_ _, lr_ _, lr_ _, lr_ _, lr_ _, trivial⟩, ⟨rfl, rfl, rfl, trivial⟩⟩
  show w.U.length - (i + 1) < w.U.length - i
  omega
 refine bcne (fun c7 => ?_) (fun c7 => ?_)
 rotate_left
 ·refine ⟨⟨(by repeat (first | exact trivial | refine ⟨rfl, ?_⟩ | refine ⟨optR (optR (optR (za _ (zb _ _ _) rfl))), ?_⟩)), ?_⟩, trivial⟩
  refine ⟨⟨trivial, ?_⟩, trivial⟩
  refine in64 (by omega) ?_
  refine ⟨i + 1, ?_, ⟨by omega, rfl, next fun _ hne => absurd c7 hne⟩, ⟨lr_ _, lr_ _, lr_ _, lr_ _, lr_ _, trivial⟩, ⟨rfl, rfl, rfl, trivial⟩⟩
  show w.U.length - (i + 1) < w.U.length - i
  omega
 have hr2 := zal w.U[i].kind
 refine ⟨ww w.U[i].kind (hk _ hui) _ _ ⟨(by repeat (first | exact trivial | refine ⟨rfl, ?_⟩ | refine ⟨optR (optR (optR (za _ (zb _ _ _) rfl))), ?_⟩)), ?_⟩, trivial⟩
 refine ⟨zlm q (kRad k) w.U[i].pos (kRad w.U[i].kind) hq (hn _ hui) ⟨hr.1, by omega⟩ ⟨hr2.1, by omega⟩ _ _ ⟨trivial, ?_⟩, trivial⟩
 refine yk ?_
 refine zd (fun c8 => ?_) (fun c8 => ret (no fun hh => by have := hh.2 _ hui c6 c7; rw [this] at c8; cases c8))
 refine in64 (by omega) ?_
 refine ⟨i + 1, ?_, ⟨by omega, rfl, next fun _ _ => c8⟩, ⟨lr_ _, lr_ _, lr_ _, lr_ _, lr_ _, trivial⟩, ⟨rfl, rfl, rfl, trivial⟩⟩
 show w.U.length - (i + 1) < w.U.length - i
 omega
end Go.Proofs
namespace Go.Proofs
open Go Go.V
theorem stOf {s g : Int} : (!((s == 1) == (g != -1))) = false ↔ (s = 1 ↔ g ≠ -1) := by
 by_cases h1 : s = 1 <;> by_cases h2 : g = -1 <;> simp [bne, beqD, h1, h2]
theorem zst (k : Int) (st : Store) (R : AV → Store → Prop) (h : ∀ z a b c d e, (z = true ↔ wd k) → R (.tup [.agg [int a, int b, int c, int d, int e], V.bool z]) st) : ACalls Tryz.prog 61 [int k] st R :=
 znl k st R (fun hk => h true _ _ _ _ _ (by simp only [true_iff]; exact hk)) (fun hk => h false 0 0 0 0 0 (by simp only [Bool.false_eq_true, false_iff]; exact hk))
set_option maxHeartbeats 4000000 in
set_option maxRecDepth 20000 in
theorem zor (w : Wld) (hw : w.fits) (st : Store) (R : AV → Store → Prop) (h : ∀ z : Bool, (z = true ↔ zjx w ∧ zaq w) → R (V.bool z) st) : ACalls Tryz.prog 55 [.agg (wldC w)] st R := by
 obtain ⟨hw1, hw2, hw3⟩ := hw
 have no : ¬ (zjx w ∧ zaq w) → R (V.bool false) st := fun hh => h false (by simp only [Bool.false_eq_true, false_iff]; exact hh)
 refine ACalls.of_body (c := cfg 218) zc Tryz.func55 (by rfl) (by rfl) (by rfl) (by rfl) ?_
 refine zsa w.tick 1099511627776 _ _ (fun z hz => ?_)
 refine yk ?_
 refine zd (fun c0 => ?_) (fun c0 => ret (no fun q => by have := hz.2 q.1.1.1; rw [this] at c0; cases c0))
 have htick := hz.1 c0
 refine bcd (fun c1 => ret (no fun q => by have := q.1.1; omega)) (fun c1 => ?_)
 refine bcd (fun c2 => ret (no fun q => by have := q.1.1; omega)) (fun c2 => ?_)
 refine bcd (fun c3 => ret (no fun q => by have := q.1.1; omega)) (fun c3 => ?_)
 refine bcd (fun c4 => ret (no fun q => by have := q.1.1; omega)) (fun c4 => ?_)
 refine zfi w.G hw1 w.B hw2 _ _ (fun z hz => ?_)
 refine yk ?_
 refine zd (fun c5 => ?_) (fun c5 => ret (no fun q => by have := hz.2 ⟨q.1.2.1.1, q.1.2.1.2.1⟩; rw [this] at c5; cases c5))
 obtain ⟨hg, hbl⟩ := hz.1 c5
 have hBl : w.B.length ≤ 256 := hbl.1
 have hUl : ((rws untC w.U).length : Int) = (w.U.length : Int) := by rw [zi]
 refine bcd (fun c6 => ret (no fun q => by have := q.1.2.1.2.2; omega)) (fun c6 => ?_)
 refine AWp.loop (σ := Nat) ⟨fun i => [(1, .bx 1 0), (3, .av (int (i : Nat)))], fun _ => [(1, wldC w)],
  fun i st' => i ≤ w.B.length ∧ st' = st ∧ ∀ j, (hj : j < w.B.length) → j < i → w.B[j].owner ≤ w.players ∧ w.B[j].id < w.next, fun i => w.B.length - i⟩ zc ?_ ?_
 ·exact ⟨0, trivial, ⟨Nat.zero_le _, rfl, fun j _ hj => by omega⟩, ⟨lr_ _, lr_ _, trivial⟩, ⟨rfl, trivial⟩⟩
 rintro i st' ⟨hi, rfl, hall⟩
 refine zd (fun h1 => ?_) (fun h1 => ?_)
 ·have hlt := xh h1
  refine ADraw.of_sched zc (by rfl) (by rfl) yik (by rfl) ?_
  refine ⟨i, rfl, za _ (zg hlt) ?_⟩
  refine bcd (fun c7 => ret (no fun q => by have := q.1.2.2 _ (List.getElem_mem hlt); omega)) (fun c7 => ?_)
  refine ⟨i, rfl, za _ (zg hlt) ?_⟩
  refine bcd (fun c8 => ret (no fun q => by have := q.1.2.2 _ (List.getElem_mem hlt); omega)) (fun c8 => ?_)
  refine in64 (by omega) ?_
  refine ⟨i + 1, ?_, ⟨by omega, rfl, fun j hj hji => ?_⟩, ⟨lr_ _, lr_ _, trivial⟩, ⟨rfl, trivial⟩⟩
  ·show w.B.length - (i + 1) < w.B.length - i
   omega
  ·by_cases e : j = i
   ·subst e; omega
   ·exact hall j hj (by omega)
 have hie : i = w.B.length := j9 h1 hi
 subst hie
 have hhead : zjx w := ⟨⟨htick, by omega⟩, ⟨hg, hbl, by omega⟩, fun b hb => by
  obtain ⟨j, hj, rfl⟩ := List.getElem_of_mem hb
  exact hall j hj hj⟩
 refine AWp.loop (σ := Nat) ⟨fun i => [(1, .bx 1 0), (4, .av (int (i : Nat)))], fun _ => [(1, wldC w)],
  fun i st2 => i ≤ w.U.length ∧ st2 = st' ∧ zip w i, fun i => w.U.length - i⟩ zc ?_ ?_
 ·exact ⟨0, trivial, ⟨Nat.zero_le _, rfl, fun j _ hj => by omega⟩, ⟨lr_ _, lr_ _, trivial⟩, ⟨rfl, trivial⟩⟩
 rintro i st2 ⟨hi, rfl, hup⟩
 refine zd (fun h2 => ?_) (fun h2 => ?_)
 rotate_left
 ·have : i = w.U.length := j9 h2 hi
  subst this
  exact ret (h true (by simp only [true_iff]; exact ⟨hhead, zio hup⟩))
 have hlt := xh h2
 have nou : ¬ ((untP w w.U[i] ∧ ∀ b ∈ w.B, b.id ≠ w.U[i].id) ∧ (0 < i → (w.U[i - 1]'(by omega)).id < w.U[i].id)) → R (V.bool false) st2 := fun hq => no fun q => hq (zmx q.2 (i + 1) i hlt (by omega))
 refine ⟨i, rfl, za _ (zg hlt) ?_⟩
 refine zst w.U[i].kind _ _ (fun kz ka kb kc kd ke hk => ?_)
 refine ADraw.of_sched zc (by rfl) (by rfl) yb8 (by rfl) ?_
 have skip2 : ∀ {p q : Prop}, ¬ ((untP w w.U[i] ∧ ∀ b ∈ w.B, b.id ≠ w.U[i].id) ∧ (0 < i → (w.U[i - 1]'(by omega)).id < w.U[i].id)) → ∃ r st', AV.le (V.bool false) r ∧ st2.Has st' ∧ R r st' := fun hq => ret (nou hq)
 refine bcd (fun c7 => ⟨⟨trivial, ⟨⟨trivial, ret (nou fun q => by have := q.1.1.1; omega)⟩, trivial⟩⟩, trivial⟩) (fun c7 => ?_)
 refine bcd (fun c8 => ⟨⟨trivial, ⟨⟨trivial, ret (nou fun q => by have := q.1.1.1; omega)⟩, trivial⟩⟩, trivial⟩) (fun c8 => ?_)
 refine bcd (fun c9 => ?_) (fun c9 => ?_)
 refine in64 (by omega) ?_
 refine ⟨i - 1, by omega, za _ (zg (show i - 1 < w.U.length by omega)) ?_⟩
 refine bcd (fun c9b => ⟨⟨trivial, ⟨⟨trivial, ret (nou fun q => by have := q.2 (by omega); omega)⟩, trivial⟩⟩, trivial⟩) (fun c9b => ?_)
 have hrise : 0 < i → (w.U[i - 1]'(by omega)).id < w.U[i].id := fun _ => by omega
 rotate_left
 have hrise : 0 < i → (w.U[i - 1]'(by omega)).id < w.U[i].id := fun h0 => absurd h0 (by omega)
 all_goals
  refine bcd (fun c10 => ⟨⟨trivial, ⟨⟨trivial, ret (nou fun q => by have := q.1.1.1.2.1; omega)⟩, trivial⟩⟩, trivial⟩) (fun c10 => ?_)
  refine bcd (fun c11 => ⟨⟨trivial, ⟨⟨trivial, ret (nou fun q => by have := q.1.1.1.2.1; omega)⟩, trivial⟩⟩, trivial⟩) (fun c11 => ?_)
  refine yk ?_
  refine zd (fun ck => ?_) (fun ck => ⟨⟨trivial, ⟨⟨trivial, ret (nou fun q => by have := hk.2 q.1.1.1.2.2; rw [this] at ck; cases ck)⟩, trivial⟩⟩, trivial⟩)
  have hkind := hk.1 ck
  refine bcne (fun c12 => ?_) (fun c12 => ?_)
  refine ⟨zf0 w.G w.U[i].goal hg _ _ (fun z1 hz1 => ⟨trivial, ?_⟩), trivial⟩
  refine yk ?_
  refine zd (fun c12b => ?_) (fun c12b => ⟨⟨trivial, ret (nou fun q => by have := q.1.1.2.1.1; unfold vw at this; have := hz1.2 (this.resolve_left c12); rw [this] at c12b; cases c12b)⟩, trivial⟩)
  have ht1 : vw w.G w.U[i].goal := .inr (hz1.1 c12b)
  rotate_left
  refine ⟨⟨trivial, ?_⟩, trivial⟩
  have ht1 : vw w.G w.U[i].goal := .inl c12
  all_goals
   refine bcne (fun c13 => ?_) (fun c13 => ?_)
   refine ⟨zf0 w.G w.U[i].next hg _ _ (fun z2 hz2 => ⟨trivial, ?_⟩), trivial⟩
   refine yk ?_
   refine zd (fun c14 => ?_) (fun c14 => ret (nou fun q => by have := q.1.1.2.1.2.1; unfold vw at this; have := hz2.2 (this.resolve_left c13); rw [this] at c14; cases c14))
   have ht2 : vw w.G w.U[i].next := .inr (hz2.1 c14)
   rotate_left
   refine ⟨⟨trivial, ?_⟩, trivial⟩
   have ht2 : vw w.G w.U[i].next := .inl c13
   all_goals
    refine bcd (fun d1 => ret (nou fun q => by have := q.1.1.2.1.2.2; omega)) (fun d1 => ?_)
    refine bcd (fun d2 => ret (nou fun q => by have := q.1.1.2.1.2.2; omega)) (fun d2 => ?_)
    refine bcd (fun d3 => ret (nou fun q => by have := q.1.1.2.2.1.1; omega)) (fun d3 => ?_)
    refine bcd (fun d4 => ret (nou fun q => by have := q.1.1.2.2.1.1; omega)) (fun d4 => ?_)
    refine zd (fun d5 => ret (nou fun q => by have := stOf.2 q.1.1.2.2.1.2; rw [this] at d5; cases d5)) (fun d5 => ?_)
    have hst := stOf.1 d5
    have go : (w.U[i].goal = -1 → w.U[i].next = -1 ∧ w.U[i].stuck = 0) → untP w w.U[i] := fun hq => ⟨⟨by omega, by omega, hkind⟩, ⟨ht1, ht2, by omega⟩, ⟨by omega, hst⟩, hq⟩
    refine bceq (fun d6 => ?_) (fun d6 => ?_)
    refine bcne (fun d7 => ret (nou fun q => d7 (q.1.1.2.2.2 d6).1)) (fun d7 => ?_)
    refine bcne (fun d8 => ret (nou fun q => d8 (q.1.1.2.2.2 d6).2)) (fun d8 => ?_)
    have hunt := go fun _ => ⟨d7, d8⟩
    rotate_left
    have hunt := go fun e => absurd e d6
    all_goals
     refine AWp.loop (σ := Nat) ⟨fun k => [(1, .bx 1 0), (4, .av (int (i : Nat))), (5, .bx 5 0), (8, .av (int (k : Nat)))], fun _ => [(1, wldC w), (5, untC w.U[i])],
      fun k st3 => k ≤ w.B.length ∧ st3 = st2 ∧ ∀ j, (hj : j < w.B.length) → j < k → w.B[j].id ≠ w.U[i].id, fun k => w.B.length - k⟩ zc ?_ ?_
     ·exact ⟨0, trivial, ⟨Nat.zero_le _, rfl, fun j _ hj => by omega⟩, ⟨lr_ _, lr_ _, lr_ _, lr_ _, trivial⟩, ⟨rfl, rfl, trivial⟩⟩
     rintro k st3 ⟨hk3, rfl, hne⟩
     refine zd (fun e1 => ?_) (fun e1 => ?_)
     ·have hkl := xh e1
      refine ADraw.of_sched zc (by rfl) (by rfl) yb7 (by rfl) ?_
      refine ⟨k, rfl, za _ (zg hkl) ?_⟩
      refine bceq (fun e2 => ret (nou fun q => q.1.2 _ (List.getElem_mem hkl) e2)) (fun e2 => ?_)
      refine in64 (by omega) ?_
      refine ⟨k + 1, ?_, ⟨by omega, rfl, fun j hj hjk => ?_⟩, ⟨lr_ _, lr_ _, lr_ _, lr_ _, trivial⟩, ⟨rfl, rfl, trivial⟩⟩
      ·show w.B.length - (k + 1) < w.B.length - k
       omega
      ·by_cases e : j = k
       ·subst e; exact e2
       ·exact hne j hj (by omega)
     have hke : k = w.B.length := j9 e1 hk3
     subst hke
     refine in64 (by omega) ?_
     refine ⟨i + 1, ?_, ⟨by omega, rfl, fun j hj hji => ?_⟩, ⟨lr_ _, lr_ _, trivial⟩, ⟨rfl, trivial⟩⟩
     ·show w.U.length - (i + 1) < w.U.length - i
      omega
     ·by_cases e : j = i
      ·subst e
       refine ⟨⟨hunt, fun b hb => ?_⟩, hrise⟩
       obtain ⟨m, hm, rfl⟩ := List.getElem_of_mem hb
       exact hne m hm hm
      ·exact hup j hj (by omega)
end Go.Proofs
namespace Go.Proofs
open Go Go.V
set_option maxHeartbeats 4000000 in
set_option maxRecDepth 20000 in
theorem zja (w : Wld) (hw : w.fits) (hn : ∀ u ∈ w.U, u.pos.ok) (st : Store) (R : AV → Store → Prop) (h : ∀ z : Bool, (z = true ↔ mayP w) → R (V.bool z) st) : ACalls Tryz.prog 20 [.agg (wldC w)] st R := by
 have no : ¬ mayP w → R (V.bool false) st := fun hh => h false (by simp only [Bool.false_eq_true, false_iff]; exact hh)
 refine ACalls.of_body (c := cfg 98) zc Tryz.func20 (by rfl) (by rfl) (by rfl) (by rfl) ?_
 refine zor w hw _ _ (fun z hz => ?_)
 refine yk ?_
 refine zd (fun c1 => ?_) (fun c1 => ret (no fun q => by have := hz.2 q.1; rw [this] at c1; cases c1))
 obtain ⟨hh, hok⟩ := hz.1 c1
 have hg := hh.2.1.1
 have hbl := hh.2.1.2.1
 have hBl : w.B.length ≤ 256 := hbl.1
 have hU : w.U.length ≤ 4096 := hh.2.1.2.2
 have hbb : ∀ b ∈ w.B, bldP b ∧ onP w.G b := fun b hb => ⟨(hbl.2.2.1 b hb).1, (hbl.2.2.1 b hb).2.1⟩
 have hkk : ∀ u ∈ w.U, wd u.kind := fun u hu => (hok.2 u hu).1.1.2.2
 refine AWp.loop (σ := Nat) ⟨fun i => [(1, .bx 1 0), (3, .av (int (i : Nat)))], fun _ => [(1, wldC w)],
  fun i st' => i ≤ w.U.length ∧ st' = st ∧ ∀ j, (hj : j < w.U.length) → j < i → (w.U[j].inn = 0 → yl w w.U[j].id w.U[j].kind w.U[j].pos) ∧ (w.U[j].inn ≠ 0 → zae w w.U[j]), fun i => w.U.length - i⟩ zc ?_ ?_
 ·exact ⟨0, trivial, ⟨Nat.zero_le _, rfl, fun j _ hj => by omega⟩, ⟨lr_ _, lr_ _, trivial⟩, ⟨rfl, trivial⟩⟩
 rintro i st' ⟨hi, rfl, hall⟩
 refine zd (fun h1 => ?_) (fun h1 => ?_)
 rotate_left
 ·have : i = w.U.length := j9 h1 hi
  subst this
  refine ret (h true (by
   simp only [true_iff]
   refine ⟨⟨hh, hok⟩, fun u hu h0 => ?_, fun u hu h0 => ?_⟩
   ·obtain ⟨j, hj, rfl⟩ := List.getElem_of_mem hu
    exact (hall j hj hj).1 h0
   ·obtain ⟨j, hj, rfl⟩ := List.getElem_of_mem hu
    exact (hall j hj hj).2 h0))
 have hlt := xh h1
 have hui := List.getElem_mem hlt
 have next : ((w.U[i].inn = 0 → yl w w.U[i].id w.U[i].kind w.U[i].pos) ∧ (w.U[i].inn ≠ 0 → zae w w.U[i])) → ∀ j, (hj : j < w.U.length) → j < i + 1 → (w.U[j].inn = 0 → yl w w.U[j].id w.U[j].kind w.U[j].pos) ∧ (w.U[j].inn ≠ 0 → zae w w.U[j]) := fun hq j hj hji => by
  by_cases e : j = i
  ·subst e; exact hq
  ·exact hall j hj (by omega)
 refine ⟨i, rfl, za _ (zg hlt) ?_⟩
 refine bceq (fun c2 => ?_) (fun c2 => ?_)
 ·refine zef w hg (by omega) hbb (by omega) hn hkk w.U[i].id w.U[i].kind (hkk _ hui) w.U[i].pos (hn _ hui) _ _ (fun z hz => ?_)
  refine yk ?_
  refine zd (fun c3 => ?_) (fun c3 => ret (no fun q => by have := hz.2 (q.2.1 _ hui c2); rw [this] at c3; cases c3))
  refine in64 (by omega) ?_
  refine ⟨i + 1, ?_, ⟨by omega, rfl, next ⟨fun _ => hz.1 c3, fun hne => absurd c2 hne⟩⟩, ⟨lr_ _, lr_ _, trivial⟩, ⟨rfl, trivial⟩⟩
  show w.U.length - (i + 1) < w.U.length - i
  omega
 have nou : ¬ zae w w.U[i] → R (V.bool false) st' := fun hq => no fun q => hq (q.2.2 _ hui c2)
 refine zf9 w (by omega) w.U[i].inn _ _ ?_
 cases hf : w.U.findIdx? fun u => decide (u.id = w.U[i].inn) with
 | none =>
  have hno : ¬ zae w w.U[i] := fun ⟨x, hx, e, _⟩ => by
   rw [List.findIdx?_eq_none_iff] at hf
   have := hf x hx
   rw [decide_eq_false_iff_not] at this
   exact this e
  refine ADraw.of_sched zc (by rfl) (by rfl) zm4 (by rfl) ?_
  exact ⟨⟨(by repeat (first | exact trivial | refine ⟨rfl, ?_⟩ | refine ⟨optR (optR (optR (za _ (zb _ _ _) rfl))), ?_⟩)), ⟨⟨(by repeat (first | exact trivial | refine ⟨rfl, ?_⟩ | refine ⟨optR (optR (optR (za _ (zb _ _ _) rfl))), ?_⟩)), ⟨⟨(by repeat (first | exact trivial | refine ⟨rfl, ?_⟩ | refine ⟨optR (optR (optR (za _ (zb _ _ _) rfl))), ?_⟩)), ret (nou hno)⟩, trivial⟩⟩, trivial⟩⟩, trivial⟩
 | some k =>
  rw [List.findIdx?_eq_some_iff_getElem] at hf
  obtain ⟨hkl, hkid, _⟩ := hf
  have hkid := of_decide_eq_true hkid
  have uniq : zae w w.U[i] → (w.U[k].inn = 0 ∧ w.U[k].owner = w.U[i].owner) ∧ ((inOf w.U w.U[i].inn).length : Int) ≤ ku w.U[k].kind := fun ⟨x, hx, e, e2, e3, _⟩ => by
   have := xm hok.1 hx (List.getElem_mem hkl) (by rw [e, hkid])
   subst this
   exact ⟨e2, e3⟩
  refine ADraw.of_sched zc (by rfl) (by rfl) zm4 (by rfl) ?_
  refine ⟨k, rfl, za _ (zg hkl) ?_⟩
  refine bcne (fun c4 => ⟨⟨(by repeat (first | exact trivial | refine ⟨rfl, ?_⟩ | refine ⟨optR (optR (optR (za _ (zb _ _ _) rfl))), ?_⟩)), ⟨⟨(by repeat (first | exact trivial | refine ⟨rfl, ?_⟩ | refine ⟨optR (optR (optR (za _ (zb _ _ _) rfl))), ?_⟩)), ⟨⟨(by repeat (first | exact trivial | refine ⟨rfl, ?_⟩ | refine ⟨optR (optR (optR (za _ (zb _ _ _) rfl))), ?_⟩)), ret (nou (fun q => c4 (uniq q).1.1))⟩, trivial⟩⟩, trivial⟩⟩, trivial⟩) (fun c4 => ?_)
  refine ⟨k, rfl, za _ (zg hkl) ?_⟩
  refine bcne (fun c5 => ⟨⟨(by repeat (first | exact trivial | refine ⟨rfl, ?_⟩ | refine ⟨optR (optR (optR (za _ (zb _ _ _) rfl))), ?_⟩)), ⟨⟨(by repeat (first | exact trivial | refine ⟨rfl, ?_⟩ | refine ⟨optR (optR (optR (za _ (zb _ _ _) rfl))), ?_⟩)), ⟨⟨(by repeat (first | exact trivial | refine ⟨rfl, ?_⟩ | refine ⟨optR (optR (optR (za _ (zb _ _ _) rfl))), ?_⟩)), ret (nou (fun q => c5 (uniq q).1.2))⟩, trivial⟩⟩, trivial⟩⟩, trivial⟩) (fun c5 => ?_)
  refine ⟨ww w.U[i].kind (hkk _ hui) _ _ ⟨(by repeat (first | exact trivial | refine ⟨rfl, ?_⟩ | refine ⟨optR (optR (optR (za _ (zb _ _ _) rfl))), ?_⟩)), ?_⟩, trivial⟩
  refine bcd (fun c6 => ⟨⟨(by repeat (first | exact trivial | refine ⟨rfl, ?_⟩ | refine ⟨optR (optR (optR (za _ (zb _ _ _) rfl))), ?_⟩)), ⟨⟨(by repeat (first | exact trivial | refine ⟨rfl, ?_⟩ | refine ⟨optR (optR (optR (za _ (zb _ _ _) rfl))), ?_⟩)), ret (nou (fun ⟨x, _, _, _, _, e, _⟩ => by omega))⟩, trivial⟩⟩, trivial⟩) (fun c6 => ?_)
  have hroom : ku w.U[i].kind = 0 := by have := zly w.U[i].kind; omega
  refine ⟨k, rfl, za _ (zg hkl) ?_⟩
  refine ⟨zi7 w (by omega) w.U[i].inn _ _ ⟨?_, ?_⟩, trivial⟩
  ·repeat (first | exact trivial | refine ⟨rfl, ?_⟩ | refine ⟨⟨k, rfl, za _ (zg hkl) rfl⟩, ?_⟩)
  refine ⟨ww w.U[k].kind (hkk _ (List.getElem_mem hkl)) _ _ ⟨?_, ?_⟩, trivial⟩
  ·repeat (first | exact trivial | refine ⟨rfl, ?_⟩)
  have hrl : ((rws intC (inOf w.U w.U[i].inn)).length : Int) = ((inOf w.U w.U[i].inn).length : Int) := by rw [zi]
  refine bcd (fun c7 => ret (nou fun q => by have := (uniq q).2; omega)) (fun c7 => ?_)
  refine yk ?_
  refine zd (fun c8 => ?_) (fun c8 => ret (nou fun ⟨x, _, _, _, _, _, e, _⟩ => by rw [e] at c8; cases c8))
  have hpos : w.U[i].pos = (0, 0) := by
   have : (w.U[i].pos.1 == 0 && (w.U[i].pos.2 == 0 && true)) = true := c8
   simp at this
   exact Prod.ext this.1 this.2
  refine bcne (fun c9 => ret (nou fun ⟨x, _, _, _, _, _, _, e, _⟩ => c9 e)) (fun c9 => ?_)
  refine bcne (fun c10 => ret (nou fun ⟨x, _, _, _, _, _, _, _, e⟩ => c10 e)) (fun c10 => ?_)
  refine in64 (by omega) ?_
  refine ⟨i + 1, ?_, ⟨by omega, rfl, next ⟨fun h0 => absurd h0 c2, fun _ => ⟨w.U[k], List.getElem_mem hkl, hkid, ⟨c4, c5⟩, by omega, hroom, hpos, c9, c10⟩⟩⟩, ⟨lr_ _, lr_ _, trivial⟩, ⟨rfl, trivial⟩⟩
  show w.U.length - (i + 1) < w.U.length - i
  omega
end Go.Proofs
namespace Go.Proofs
open Go Go.V
theorem zkc (a b : List UInt8) (ha : a.length ≤ 1000000000000) (st : Store) (R : AV → Store → Prop) (h : R (bool (decide (a = b))) st) : ACalls Tryz.prog 90 [lst 1 u8C a, lst 1 u8C b] st R := by
 refine ACalls.of_body (c := cfg 26) zc Tryz.func90 (by rfl) (by rfl) (by rfl) (by rfl) ?_
 refine zd (fun h1 => ?_) (fun h1 => ?_)
 ·have : a ≠ b := fun h2 => zsg h1 (by rw [h2])
  rw [show decide (a = b) = false by simp [this]] at h
  exact ⟨_, st, ar_ _, Store.Has.refl st, h⟩
 ·have hl : a.length = b.length := ztt h1
  refine AWp.loop (σ := Nat) ⟨fun i => [(0, .av (lst 1 u8C a)), (1, .av (lst 1 u8C b)), (5, .av (int i))], fun _ => [], fun i st' => i ≤ a.length ∧ a.take i = b.take i ∧ st' = st, fun i => a.length - i⟩ zc ?_ ?_
  ·exact ⟨0, trivial, ⟨Nat.zero_le _, rfl, rfl⟩, ⟨lr_ _, lr_ _, lr_ _, trivial⟩, trivial⟩
  ·rintro i st' ⟨hi, heq, hst⟩
   refine zd (fun h2 => ?_) (fun h2 => ?_)
   ·have hlt : i < a.length := xh h2
    have hltb : i < b.length := by omega
    refine ADraw.of_sched zc (by rfl) (by rfl) yia (by rfl) ?_
    refine ⟨i, rfl, za _ (zg hlt) ?_⟩
    refine ⟨i, rfl, za _ (zg hltb) ?_⟩
    refine zd (fun h3 => ?_) (fun h3 => ?_)
    ·have hne : a[i] ≠ b[i] := by
      intro h4
      rw [h4] at h3
      simp at h3
     have : a ≠ b := by
      intro h4
      subst h4
      exact hne rfl
     rw [show decide (a = b) = false by simp [this]] at h
     subst hst
     exact ⟨_, st', ar_ _, Store.Has.refl st', h⟩
    ·refine ⟨⟨by omega, by omega⟩, ?_⟩
     refine ⟨i + 1, ?_, ⟨hlt, ?_, hst⟩, ⟨lr_ _, lr_ _, lr_ _, trivial⟩, trivial⟩
     ·show a.length - (i + 1) < a.length - i
      omega
     ·rw [List.take_succ_eq_append_getElem hlt, List.take_succ_eq_append_getElem hltb, heq]
      have : a[i] = b[i] := UInt8.toNat_inj.1 (by have := h3; simp at this; omega)
      rw [this]
   ·have hge : i = a.length := j9 h2 hi
    subst hge hst
    have : a = b := by
     rw [List.take_length, hl, List.take_length] at heq
     exact heq
    rw [show decide (a = b) = true by simp [this]] at h
    exact ⟨_, st', ar_ _, Store.Has.refl st', h⟩
theorem zma (a b : List Bld) (ha : a.length ≤ 1000000000000) (st : Store) (R : AV → Store → Prop) (h : R (bool (decide (a = b))) st) : ACalls Tryz.prog 46 [lst 6 bldC a, lst 6 bldC b] st R := by
 refine ACalls.of_body (c := cfg 26) zc Tryz.func46 (by rfl) (by rfl) (by rfl) (by rfl) ?_
 refine zd (fun h1 => ?_) (fun h1 => ?_)
 ·have : a ≠ b := fun h2 => zsg h1 (by rw [h2])
  rw [show decide (a = b) = false by simp [this]] at h
  exact ⟨_, st, ar_ _, Store.Has.refl st, h⟩
 ·have hl : a.length = b.length := ztt h1
  refine AWp.loop (σ := Nat) ⟨fun i => [(0, .av (lst 6 bldC a)), (1, .av (lst 6 bldC b)), (5, .av (int i))], fun _ => [], fun i st' => i ≤ a.length ∧ a.take i = b.take i ∧ st' = st, fun i => a.length - i⟩ zc ?_ ?_
  ·exact ⟨0, trivial, ⟨Nat.zero_le _, rfl, rfl⟩, ⟨lr_ _, lr_ _, lr_ _, trivial⟩, trivial⟩
  ·rintro i st' ⟨hi, heq, hst⟩
   refine zd (fun h2 => ?_) (fun h2 => ?_)
   ·have hlt : i < a.length := xh h2
    have hltb : i < b.length := by omega
    refine ADraw.of_sched zc (by rfl) (by rfl) yim (by rfl) ?_
    refine ⟨i, rfl, za _ (zg hlt) ?_⟩
    refine ⟨i, rfl, za _ (zg hltb) ?_⟩
    refine zd (fun h3 => ?_) (fun h3 => ?_)
    ·have hne : a[i] ≠ b[i] := by
      intro h4
      rw [h4] at h3
      simp at h3
     have : a ≠ b := by
      intro h4
      subst h4
      exact hne rfl
     rw [show decide (a = b) = false by simp [this]] at h
     subst hst
     exact ⟨_, st', ar_ _, Store.Has.refl st', h⟩
    ·refine ⟨⟨by omega, by omega⟩, ?_⟩
     refine ⟨i + 1, ?_, ⟨hlt, ?_, hst⟩, ⟨lr_ _, lr_ _, lr_ _, trivial⟩, trivial⟩
     ·show a.length - (i + 1) < a.length - i
      omega
     ·rw [List.take_succ_eq_append_getElem hlt, List.take_succ_eq_append_getElem hltb, heq]
      have : a[i] = b[i] := by cases hx : a[i]; cases hy : b[i]; rw [hx, hy] at h3; simp at h3; simp [h3]
      rw [this]
   ·have hge : i = a.length := j9 h2 hi
    subst hge hst
    have : a = b := by
     rw [List.take_length, hl, List.take_length] at heq
     exact heq
    rw [show decide (a = b) = true by simp [this]] at h
    exact ⟨_, st', ar_ _, Store.Has.refl st', h⟩
theorem zl8 (a b : List Unt) (ha : a.length ≤ 1000000000000) (st : Store) (R : AV → Store → Prop) (h : R (bool (decide (a = b))) st) : ACalls Tryz.prog 47 [lst 10 untC a, lst 10 untC b] st R := by
 refine ACalls.of_body (c := cfg 26) zc Tryz.func47 (by rfl) (by rfl) (by rfl) (by rfl) ?_
 refine zd (fun h1 => ?_) (fun h1 => ?_)
 ·have : a ≠ b := fun h2 => zsg h1 (by rw [h2])
  rw [show decide (a = b) = false by simp [this]] at h
  exact ⟨_, st, ar_ _, Store.Has.refl st, h⟩
 ·have hl : a.length = b.length := ztt h1
  refine AWp.loop (σ := Nat) ⟨fun i => [(0, .av (lst 10 untC a)), (1, .av (lst 10 untC b)), (5, .av (int i))], fun _ => [], fun i st' => i ≤ a.length ∧ a.take i = b.take i ∧ st' = st, fun i => a.length - i⟩ zc ?_ ?_
  ·exact ⟨0, trivial, ⟨Nat.zero_le _, rfl, rfl⟩, ⟨lr_ _, lr_ _, lr_ _, trivial⟩, trivial⟩
  ·rintro i st' ⟨hi, heq, hst⟩
   refine zd (fun h2 => ?_) (fun h2 => ?_)
   ·have hlt : i < a.length := xh h2
    have hltb : i < b.length := by omega
    refine ADraw.of_sched zc (by rfl) (by rfl) yil (by rfl) ?_
    refine ⟨i, rfl, za _ (zg hlt) ?_⟩
    refine ⟨i, rfl, za _ (zg hltb) ?_⟩
    refine zd (fun h3 => ?_) (fun h3 => ?_)
    ·have hne : a[i] ≠ b[i] := by
      intro h4
      rw [h4] at h3
      simp at h3
     have : a ≠ b := by
      intro h4
      subst h4
      exact hne rfl
     rw [show decide (a = b) = false by simp [this]] at h
     subst hst
     exact ⟨_, st', ar_ _, Store.Has.refl st', h⟩
    ·refine ⟨⟨by omega, by omega⟩, ?_⟩
     refine ⟨i + 1, ?_, ⟨hlt, ?_, hst⟩, ⟨lr_ _, lr_ _, lr_ _, trivial⟩, trivial⟩
     ·show a.length - (i + 1) < a.length - i
      omega
     ·rw [List.take_succ_eq_append_getElem hlt, List.take_succ_eq_append_getElem hltb, heq]
      have : a[i] = b[i] := by cases hx : a[i]; cases hy : b[i]; rw [hx, hy] at h3; simp at h3; simp [h3, Prod.ext_iff]
      rw [this]
   ·have hge : i = a.length := j9 h2 hi
    subst hge hst
    have : a = b := by
     rw [List.take_length, hl, List.take_length] at heq
     exact heq
    rw [show decide (a = b) = true by simp [this]] at h
    exact ⟨_, st', ar_ _, Store.Has.refl st', h⟩
theorem zh1 (a b : Gnd) (ha : a.fits) (st : Store) (R : AV → Store → Prop) (h : R (V.bool (decide (a = b))) st) : ACalls Tryz.prog 45 [.agg (gndC a), .agg (gndC b)] st R := by
 refine ACalls.of_body (c := cfg 24) zc Tryz.func45 (by rfl) (by rfl) (by rfl) (by rfl) ?_
 refine zd (fun h1 => ?_) (fun h1 => ⟨_, st, ar_ _, Store.Has.refl st, isF h (decide_eq_false fun e => by subst e; simp at h1)⟩)
 refine zd (fun h2 => ?_) (fun h1 => ⟨_, st, ar_ _, Store.Has.refl st, isF h (decide_eq_false fun e => by subst e; simp at h1)⟩)
 refine zkc a.T b.T ha _ _ ?_
 refine ⟨_, st, ar_ _, Store.Has.refl st, ?_⟩
 have e : decide (a.T = b.T) = decide (a = b) := by
  rw [Bool.eq_iff_iff]
  simp only [beq_iff_eq, decide_eq_true_eq] at *
  constructor
  ·intro h9
   cases a; cases b
   simp_all
  ·rintro rfl
   rfl
 rw [← e] at h
 exact h
theorem zkb (w : Wld) (hw : w.fits) (st : Store) (R : AV → Store → Prop) (h : R (V.bool true) st) : ACalls Tryz.prog 17 [.agg (wldC w), .agg (wldC w)] st R := by
 refine ACalls.of_body (c := cfg 45) zc Tryz.func17 (by rfl) (by rfl) (by rfl) (by rfl) ?_
 refine bceq (fun h1 => ?_) (fun h1 => absurd rfl h1)
 refine bceq (fun h2 => ?_) (fun h1 => absurd rfl h1)
 refine bceq (fun h3 => ?_) (fun h1 => absurd rfl h1)
 refine zh1 w.G w.G hw.1 _ _ ?_
 rw [show decide (w.G = w.G) = true by simp]
 refine zma w.B w.B hw.2.1 _ _ ?_
 rw [show decide (w.B = w.B) = true by simp]
 refine zl8 w.U w.U hw.2.2 _ _ ?_
 rw [show decide (w.U = w.U) = true by simp]
 exact ret h
end Go.Proofs
