/- The ground on which laws of thronglaw24 are proved: contracts of functions and plain lemmas; no condition beyond the row's own. -/
import Derived.Test.YtbemejeejgpkaaaGreatSF
set_option linter.unusedSimpArgs false
set_option linter.unusedVariables false
namespace Go.Proofs
open Go Go.V
set_option maxRecDepth 4000
theorem zif (w : Wld) (hU : w.U.length <= 1000000) (id : Int) (st : Store) (R : AV -> Store -> Prop) (h : R (int (idxI (w.U.findIdx? fun u => decide (u.id = id)))) st) : ACalls Tryz.prog 29 [.agg (wldC w), int id] st R := by
 refine ACalls.of_body (c := cfg 22) zc Tryz.func29 (by rfl) (by rfl) (by rfl) (by rfl) ?_
 refine AWp.loop (σ := Nat) ⟨fun i => [(1, .av (int id)), (2, .bx 2 0), (5, .av (int (i : Nat)))], fun _ => [(2, wldC w)],
  fun i st' => i <= w.U.length /\ st' = st /\ ∀ j, (hj : j < w.U.length) -> j < i -> w.U[j].id ≠ id, fun i => w.U.length - i⟩ zc ?_ ?_
 ·exact ⟨0, Tv, ⟨Nat.zero_le _, rfl, fun j _ hj => by omega⟩, ⟨Tq, Tq, Tq, Tv⟩, ⟨rfl, Tv⟩⟩
 rintro i st' ⟨hi, rfl, hall⟩
 refine zd (fun h1 => ?_) (fun h1 => ?_)
 rotate_left
 ·have : i = w.U.length := x3 h1 hi
  subst this
  have e : (w.U.findIdx? fun u => decide (u.id = id)) = none := by
   rw [List.findIdx?_eq_none_iff]
   intro x hx
   obtain ⟨j, hj, rfl⟩ := List.getElem_of_mem hx
   exact decide_eq_false (hall j hj hj)
  rw [e] at h
  exact ret h
 have hlt := qz h1
 refine ⟨i, rfl, za _ (zh hlt) ?_⟩
 refine bceq (fun c1 => ?_) (fun c1 => ?_)
 ·have e : (w.U.findIdx? fun u => decide (u.id = id)) = some i := by
   rw [List.findIdx?_eq_some_iff_getElem]
   exact ⟨hlt, decide_eq_true c1, fun j hj => by simpa using hall j (by omega) hj⟩
  rw [e] at h
  exact ret h
 ·refine in64 (by omega) ?_
  refine ⟨i + 1, ?_, ⟨by omega, rfl, fun j hj hj2 => ?_⟩, ⟨Tq, Tq, Tq, Tv⟩, ⟨rfl, Tv⟩⟩
  ·show w.U.length - (i + 1) < w.U.length - i
   omega
  ·by_cases e : j = i
   ·subst e; exact c1
   ·exact hall j hj (by omega)
theorem zwo {l : List Unt} {i : Nat} (hi : i < l.length) (id : Int) : inOf (l.take (i + 1)) id = inOf (l.take i) id ++ (if l[i].inn = id then [l[i].id] else []) := by
 unfold inOf
 rw [List.take_succ_eq_append_getElem hi, List.filter_append, List.map_append]
 by_cases h : l[i].inn = id <;> simp [h]
theorem zls (w : Wld) (hU : w.U.length <= 1000000) (id : Int) (st : Store) (R : AV -> Store -> Prop) (h : R (ints (inOf w.U id)) st) : ACalls Tryz.prog 57 [.agg (wldC w), int id] st R := by
 refine ACalls.of_body (c := cfg 32) zc Tryz.func57 (by rfl) (by rfl) (by rfl) (by rfl) ?_
 refine AWp.loop (σ := Nat × AV) ⟨fun x => [(1, .av (int id)), (2, .bx 2 0), (5, .av x.2), (6, .av (int (x.1 : Nat)))], fun _ => [(2, wldC w)],
  fun x st' => x.1 <= w.U.length /\ App 1 st x.2 (rws intC (inOf (w.U.take x.1) id)) st', fun x => w.U.length - x.1⟩ zc ?_ ?_
 ·exact ⟨(0, _), Tv, ⟨Nat.zero_le _, App.start 1 st⟩, ⟨Tq, Tq, Tq, Tq, Tv⟩, ⟨rfl, Tv⟩⟩
 rintro ⟨i, v⟩ st' ⟨hi, ha⟩
 dsimp only at hi ha ⊢
 refine zd (fun h1 => ?_) (fun h1 => ?_)
 rotate_left
 ·have : i = w.U.length := x3 h1 hi
  subst this
  rw [List.take_length] at ha
  exact ⟨_, st, AV.le_trans ha.le (Tt), ha.has, h⟩
 have hlt := qz h1
 have hs := zwo hlt id
 have hl1 : (inOf (w.U.take i) id).length <= 1000000 := by
  have h1 := zov (l := w.U) i id
  have h2 : (inOf w.U id).length <= w.U.length := by unfold inOf; rw [List.length_map]; exact List.length_filter_le _ _
  omega
 refine ⟨i, rfl, za _ (zh hlt) ?_⟩
 refine bceq (fun c1 => ?_) (fun c1 => ?_)
 ·rw [if_pos c1] at hs
  refine ⟨i, rfl, za _ (zh hlt) ?_⟩
  refine ⟨by decide, ?_⟩
  refine ql (ie := ti3) (rows' := [intC w.U[i].id]) ha ?_ ?_ ⟨?_, ?_⟩ (fun v3 st3 ha3 => ?_)
  ·rfl
  ·rfl
  ·simp only [zi, List.length_singleton, ti3]; omega
  ·simp only [zi, List.length_singleton]; omega
  refine in64 (by omega) ?_
  refine ⟨(i + 1, v3), ?_, ⟨by dsimp only; omega, ?_⟩, ⟨Tq, Tq, Tq, Tq, Tv⟩, ⟨rfl, Tv⟩⟩
  ·show w.U.length - (i + 1) < w.U.length - i
   omega
  ·dsimp only
   rw [hs]
   unfold rws
   rw [List.map_append]
   exact ha3
 ·rw [if_neg c1, List.append_nil] at hs
  refine in64 (by omega) ?_
  refine ⟨(i + 1, v), ?_, ⟨by dsimp only; omega, ?_⟩, ⟨Tq, Tq, Tq, Tq, Tv⟩, ⟨rfl, Tv⟩⟩
  ·show w.U.length - (i + 1) < w.U.length - i
   omega
  ·dsimp only
   rw [hs]
   exact ha
theorem zgg (w : Wld) (hg : gndP w.G) (hB : w.B.length <= 1000000000000) (hb : ∀ b ∈ w.B, bldP b /\ onP w.G b) (hU : w.U.length <= 1000000) (hn : ∀ u ∈ w.U, u.pos.ok) (hk : ∀ u ∈ w.U, zat u.kind) (id k : Int) (hkk : zat k) (q : Vc) (hq : q.ok) (st : Store) (R : AV -> Store -> Prop)
  (h : ∀ z : Bool, (z = true ↔ ym w id k q) -> R (V.bool z) st) : ACalls Tryz.prog 56 [.agg (wldC w), int id, int k, .agg (vecC q)] st R := by
 have no : ¬ ym w id k q -> R (V.bool false) st := fun hh => h false (by simp only [Bool.false_eq_true, false_iff]; exact hh)
 have hr := zao k
 have hplace : ym w id k q -> qv q.1 q.2 := fun hh => by
  have h1 := hh.1.1
  have h2 := hg.1
  have h3 := hg.2.1
  unfold qv
  omega
 refine ACalls.of_body (c := cfg 79) zc Tryz.func56 (by rfl) (by rfl) (by rfl) (by rfl) ?_
 refine jm k hkk _ _ ?_
 refine bcd (fun c1 => ret (no fun hh => by have := hplace hh; unfold qv at this; omega)) (fun c1 => ?_)
 refine bcd (fun c2 => ret (no fun hh => by have := hplace hh; unfold qv at this; omega)) (fun c2 => ?_)
 refine bcd (fun c3 => ret (no fun hh => by have := hplace hh; unfold qv at this; omega)) (fun c3 => ?_)
 refine bcd (fun c4 => ret (no fun hh => by have := hplace hh; unfold qv at this; omega)) (fun c4 => ?_)
 have e1 : Int.negSucc 1099511627775 = -1099511627776 := rfl
 refine zr2 w.G hg w.B hB hb (kCls k) (zmh k) q (by unfold qv; omega) (kRad k) ⟨hr.1, by omega⟩ _ _ (fun z hz => ?_)
 refine yk ?_
 refine zd (fun c5 => ?_) (fun c5 => ret (no fun hh => by have := hz.2 hh.1; rw [this] at c5; cases c5))
 have hfree := hz.1 c5
 refine AWp.loop (σ := Nat) ⟨fun i => [(1, .av (int id)), (4, .bx 4 0), (7, .bx 7 0), (9, .bx 9 0), (10, .av (int (i : Nat)))], fun _ => [(4, wldC w), (7, vecC q), (9, zd4 k)],
  fun i st' => i <= w.U.length /\ st' = st /\ ∀ j, (hj : j < w.U.length) -> j < i -> w.U[j].inn = 0 -> w.U[j].id ≠ id -> vk q (kRad k) w.U[j].pos (kRad w.U[j].kind) = true, fun i => w.U.length - i⟩ zc ?_ ?_
 ·exact ⟨0, Tv, ⟨Nat.zero_le _, rfl, fun j _ hj => by omega⟩, ⟨Tq, Tq, Tq, Tq, Tq, Tv⟩, ⟨rfl, rfl, rfl, Tv⟩⟩
 rintro i st' ⟨hi, rfl, hall⟩
 refine zd (fun h1 => ?_) (fun h1 => ?_)
 rotate_left
 ·have : i = w.U.length := x3 h1 hi
  subst this
  refine ret (h true (by
   simp only [true_iff]
   refine ⟨hfree, fun u hu h0 hne => ?_⟩
   obtain ⟨j, hj, rfl⟩ := List.getElem_of_mem hu
   exact hall j hj hj h0 hne))
 have hlt := qz h1
 have hui := List.getElem_mem hlt
 have next : (w.U[i].inn = 0 -> w.U[i].id ≠ id -> vk q (kRad k) w.U[i].pos (kRad w.U[i].kind) = true) -> ∀ j, (hj : j < w.U.length) -> j < i + 1 -> w.U[j].inn = 0 -> w.U[j].id ≠ id -> vk q (kRad k) w.U[j].pos (kRad w.U[j].kind) = true := fun hh j hj hji => by
  by_cases e : j = i
  ·subst e; exact hh
  ·exact hall j hj (by omega)
 refine ⟨i, rfl, za _ (zh hlt) ?_⟩
 refine ADraw.of_sched zc (by rfl) (by rfl) ym9 (by rfl) ?_
 refine bceq (fun c6 => ?_) (fun c6 => ?_)
 rotate_left
 ·refine ⟨⟨(by repeat (first | exact Tv | refine ⟨rfl, ?_⟩ | refine ⟨optR (optR (optR (za _ (zb _ _ _) rfl))), ?_⟩)), ?_⟩, Tv⟩
  refine ⟨⟨Tv, ?_⟩, Tv⟩
  refine in64 (by omega) ?_
  refine ⟨i + 1, ?_, ⟨by omega, rfl, next fun h0 => absurd h0 c6⟩, ⟨Tq, Tq, Tq, Tq, Tq, Tv⟩, ⟨rfl, rfl, rfl, Tv⟩⟩
  show w.U.length - (i + 1) < w.U.length - i
  omega
 refine bcne (fun c7 => ?_) (fun c7 => ?_)
 rotate_left
 ·refine ⟨⟨(by repeat (first | exact Tv | refine ⟨rfl, ?_⟩ | refine ⟨optR (optR (optR (za _ (zb _ _ _) rfl))), ?_⟩)), ?_⟩, Tv⟩
  refine ⟨⟨Tv, ?_⟩, Tv⟩
  refine in64 (by omega) ?_
  refine ⟨i + 1, ?_, ⟨by omega, rfl, next fun _ hne => absurd c7 hne⟩, ⟨Tq, Tq, Tq, Tq, Tq, Tv⟩, ⟨rfl, rfl, rfl, Tv⟩⟩
  show w.U.length - (i + 1) < w.U.length - i
  omega
 have hr2 := zao w.U[i].kind
 refine ⟨jm w.U[i].kind (hk _ hui) _ _ ⟨(by repeat (first | exact Tv | refine ⟨rfl, ?_⟩ | refine ⟨optR (optR (optR (za _ (zb _ _ _) rfl))), ?_⟩)), ?_⟩, Tv⟩
 refine ⟨zod q (kRad k) w.U[i].pos (kRad w.U[i].kind) hq (hn _ hui) ⟨hr.1, by omega⟩ ⟨hr2.1, by omega⟩ _ _ ⟨Tv, ?_⟩, Tv⟩
 refine yk ?_
 refine zd (fun c8 => ?_) (fun c8 => ret (no fun hh => by have := hh.2 _ hui c6 c7; rw [this] at c8; cases c8))
 refine in64 (by omega) ?_
 refine ⟨i + 1, ?_, ⟨by omega, rfl, next fun _ _ => c8⟩, ⟨Tq, Tq, Tq, Tq, Tq, Tv⟩, ⟨rfl, rfl, rfl, Tv⟩⟩
 show w.U.length - (i + 1) < w.U.length - i
 omega
end Go.Proofs
namespace Go.Proofs
open Go Go.V
set_option maxRecDepth 4000
theorem stOf {s g : Int} : (!((s == 1) == (g != -1))) = false ↔ (s = 1 ↔ g ≠ -1) := by
 by_cases h1 : s = 1 <;> by_cases h2 : g = -1 <;> simp [bne, beqD, h1, h2]
theorem zwi (k : Int) (st : Store) (R : AV -> Store -> Prop) (h : ∀ z a b c d e, (z = true ↔ zat k) -> R (.tup [.agg [int a, int b, int c, int d, int e], V.bool z]) st) : ACalls Tryz.prog 61 [int k] st R :=
 zqp k st R (fun hk => h true _ _ _ _ _ (by simp only [true_iff]; exact hk)) (fun hk => h false 0 0 0 0 0 (by simp only [Bool.false_eq_true, false_iff]; exact hk))
set_option maxHeartbeats 4000000 in
set_option maxRecDepth 20000 in
theorem zr0 (w : Wld) (hw : w.fits) (st : Store) (R : AV -> Store -> Prop) (h : ∀ z : Bool, (z = true ↔ zmm w /\ zcc w) -> R (V.bool z) st) : ACalls Tryz.prog 55 [.agg (wldC w)] st R := by
 obtain ⟨hw1, hw2, hw3⟩ := hw
 have no : ¬ (zmm w /\ zcc w) -> R (V.bool false) st := fun hh => h false (by simp only [Bool.false_eq_true, false_iff]; exact hh)
 refine ACalls.of_body (c := cfg 218) zc Tryz.func55 (by rfl) (by rfl) (by rfl) (by rfl) ?_
 refine zv0 w.tick 1099511627776 _ _ (fun z hz => ?_)
 refine yk ?_
 refine zd (fun c0 => ?_) (fun c0 => ret (no fun q => by have := hz.2 q.1.1.1; rw [this] at c0; cases c0))
 have htick := hz.1 c0
 refine bcd (fun c1 => ret (no fun q => by have := q.1.1; omega)) (fun c1 => ?_)
 refine bcd (fun c2 => ret (no fun q => by have := q.1.1; omega)) (fun c2 => ?_)
 refine bcd (fun c3 => ret (no fun q => by have := q.1.1; omega)) (fun c3 => ?_)
 refine bcd (fun c4 => ret (no fun q => by have := q.1.1; omega)) (fun c4 => ?_)
 refine zhk w.G hw1 w.B hw2 _ _ (fun z hz => ?_)
 refine yk ?_
 refine zd (fun c5 => ?_) (fun c5 => ret (no fun q => by have := hz.2 ⟨q.1.2.1.1, q.1.2.1.2.1⟩; rw [this] at c5; cases c5))
 obtain ⟨hg, hbl⟩ := hz.1 c5
 have hBl : w.B.length <= 256 := hbl.1
 have hUl : ((rws untC w.U).length : Int) = (w.U.length : Int) := by rw [zi]
 refine bcd (fun c6 => ret (no fun q => by have := q.1.2.1.2.2; omega)) (fun c6 => ?_)
 refine AWp.loop (σ := Nat) ⟨fun i => [(1, .bx 1 0), (3, .av (int (i : Nat)))], fun _ => [(1, wldC w)],
  fun i st' => i <= w.B.length /\ st' = st /\ ∀ j, (hj : j < w.B.length) -> j < i -> w.B[j].owner <= w.players /\ w.B[j].id < w.next, fun i => w.B.length - i⟩ zc ?_ ?_
 ·exact ⟨0, Tv, ⟨Nat.zero_le _, rfl, fun j _ hj => by omega⟩, ⟨Tq, Tq, Tv⟩, ⟨rfl, Tv⟩⟩
 rintro i st' ⟨hi, rfl, hall⟩
 refine zd (fun h1 => ?_) (fun h1 => ?_)
 ·have hlt := qz h1
  refine ADraw.of_sched zc (by rfl) (by rfl) yna (by rfl) ?_
  refine ⟨i, rfl, za _ (zh hlt) ?_⟩
  refine bcd (fun c7 => ret (no fun q => by have := q.1.2.2 _ (List.getElem_mem hlt); omega)) (fun c7 => ?_)
  refine ⟨i, rfl, za _ (zh hlt) ?_⟩
  refine bcd (fun c8 => ret (no fun q => by have := q.1.2.2 _ (List.getElem_mem hlt); omega)) (fun c8 => ?_)
  refine in64 (by omega) ?_
  refine ⟨i + 1, ?_, ⟨by omega, rfl, fun j hj hji => ?_⟩, ⟨Tq, Tq, Tv⟩, ⟨rfl, Tv⟩⟩
  ·show w.B.length - (i + 1) < w.B.length - i
   omega
  ·by_cases e : j = i
   ·subst e; omega
   ·exact hall j hj (by omega)
 have hie : i = w.B.length := x3 h1 hi
 subst hie
 have hhead : zmm w := ⟨⟨htick, by omega⟩, ⟨hg, hbl, by omega⟩, fun b hb => by
  obtain ⟨j, hj, rfl⟩ := List.getElem_of_mem hb
  exact hall j hj hj⟩
 refine AWp.loop (σ := Nat) ⟨fun i => [(1, .bx 1 0), (4, .av (int (i : Nat)))], fun _ => [(1, wldC w)],
  fun i st2 => i <= w.U.length /\ st2 = st' /\ zlc w i, fun i => w.U.length - i⟩ zc ?_ ?_
 ·exact ⟨0, Tv, ⟨Nat.zero_le _, rfl, fun j _ hj => by omega⟩, ⟨Tq, Tq, Tv⟩, ⟨rfl, Tv⟩⟩
 rintro i st2 ⟨hi, rfl, hup⟩
 refine zd (fun h2 => ?_) (fun h2 => ?_)
 rotate_left
 ·have : i = w.U.length := x3 h2 hi
  subst this
  exact ret (h true (by simp only [true_iff]; exact ⟨hhead, zlb hup⟩))
 have hlt := qz h2
 have nou : ¬ ((untP w w.U[i] /\ ∀ b ∈ w.B, b.id ≠ w.U[i].id) /\ (0 < i -> (w.U[i - 1]'(by omega)).id < w.U[i].id)) -> R (V.bool false) st2 := fun hq => no fun q => hq (zpv q.2 (i + 1) i hlt (by omega))
 refine ⟨i, rfl, za _ (zh hlt) ?_⟩
 refine zwi w.U[i].kind _ _ (fun kz ka kb kc kd ke hk => ?_)
 refine ADraw.of_sched zc (by rfl) (by rfl) yf7 (by rfl) ?_
 have skip2 : ∀ {p q : Prop}, ¬ ((untP w w.U[i] /\ ∀ b ∈ w.B, b.id ≠ w.U[i].id) /\ (0 < i -> (w.U[i - 1]'(by omega)).id < w.U[i].id)) -> ∃ r st', AV.le (V.bool false) r /\ st2.Has st' /\ R r st' := fun hq => ret (nou hq)
 refine bcd (fun c7 => ⟨⟨Tv, ⟨⟨Tv, ret (nou fun q => by have := q.1.1.1; omega)⟩, Tv⟩⟩, Tv⟩) (fun c7 => ?_)
 refine bcd (fun c8 => ⟨⟨Tv, ⟨⟨Tv, ret (nou fun q => by have := q.1.1.1; omega)⟩, Tv⟩⟩, Tv⟩) (fun c8 => ?_)
 refine bcd (fun c9 => ?_) (fun c9 => ?_)
 refine in64 (by omega) ?_
 refine ⟨i - 1, by omega, za _ (zh (show i - 1 < w.U.length by omega)) ?_⟩
 refine bcd (fun c9b => ⟨⟨Tv, ⟨⟨Tv, ret (nou fun q => by have := q.2 (by omega); omega)⟩, Tv⟩⟩, Tv⟩) (fun c9b => ?_)
 have hrise : 0 < i -> (w.U[i - 1]'(by omega)).id < w.U[i].id := fun _ => by omega
 rotate_left
 have hrise : 0 < i -> (w.U[i - 1]'(by omega)).id < w.U[i].id := fun h0 => absurd h0 (by omega)
 all_goals
  refine bcd (fun c10 => ⟨⟨Tv, ⟨⟨Tv, ret (nou fun q => by have := q.1.1.1.2.1; omega)⟩, Tv⟩⟩, Tv⟩) (fun c10 => ?_)
  refine bcd (fun c11 => ⟨⟨Tv, ⟨⟨Tv, ret (nou fun q => by have := q.1.1.1.2.1; omega)⟩, Tv⟩⟩, Tv⟩) (fun c11 => ?_)
  refine yk ?_
  refine zd (fun ck => ?_) (fun ck => ⟨⟨Tv, ⟨⟨Tv, ret (nou fun q => by have := hk.2 q.1.1.1.2.2; rw [this] at ck; cases ck)⟩, Tv⟩⟩, Tv⟩)
  have hkind := hk.1 ck
  refine bcne (fun c12 => ?_) (fun c12 => ?_)
  refine ⟨zh4 w.G w.U[i].goal hg _ _ (fun z1 hz1 => ⟨Tv, ?_⟩), Tv⟩
  refine yk ?_
  refine zd (fun c12b => ?_) (fun c12b => ⟨⟨Tv, ret (nou fun q => by have := q.1.1.2.1.1; unfold wz at this; have := hz1.2 (this.resolve_left c12); rw [this] at c12b; cases c12b)⟩, Tv⟩)
  have ht1 : wz w.G w.U[i].goal := .inr (hz1.1 c12b)
  rotate_left
  refine ⟨⟨Tv, ?_⟩, Tv⟩
  have ht1 : wz w.G w.U[i].goal := .inl c12
  all_goals
   refine bcne (fun c13 => ?_) (fun c13 => ?_)
   refine ⟨zh4 w.G w.U[i].next hg _ _ (fun z2 hz2 => ⟨Tv, ?_⟩), Tv⟩
   refine yk ?_
   refine zd (fun c14 => ?_) (fun c14 => ret (nou fun q => by have := q.1.1.2.1.2.1; unfold wz at this; have := hz2.2 (this.resolve_left c13); rw [this] at c14; cases c14))
   have ht2 : wz w.G w.U[i].next := .inr (hz2.1 c14)
   rotate_left
   refine ⟨⟨Tv, ?_⟩, Tv⟩
   have ht2 : wz w.G w.U[i].next := .inl c13
   all_goals
    refine bcd (fun d1 => ret (nou fun q => by have := q.1.1.2.1.2.2; omega)) (fun d1 => ?_)
    refine bcd (fun d2 => ret (nou fun q => by have := q.1.1.2.1.2.2; omega)) (fun d2 => ?_)
    refine bcd (fun d3 => ret (nou fun q => by have := q.1.1.2.2.1.1; omega)) (fun d3 => ?_)
    refine bcd (fun d4 => ret (nou fun q => by have := q.1.1.2.2.1.1; omega)) (fun d4 => ?_)
    refine zd (fun d5 => ret (nou fun q => by have := stOf.2 q.1.1.2.2.1.2; rw [this] at d5; cases d5)) (fun d5 => ?_)
    have hst := stOf.1 d5
    have go : (w.U[i].goal = -1 -> w.U[i].next = -1 /\ w.U[i].stuck = 0) -> untP w w.U[i] := fun hq => ⟨⟨by omega, by omega, hkind⟩, ⟨ht1, ht2, by omega⟩, ⟨by omega, hst⟩, hq⟩
    refine bceq (fun d6 => ?_) (fun d6 => ?_)
    refine bcne (fun d7 => ret (nou fun q => d7 (q.1.1.2.2.2 d6).1)) (fun d7 => ?_)
    refine bcne (fun d8 => ret (nou fun q => d8 (q.1.1.2.2.2 d6).2)) (fun d8 => ?_)
    have hunt := go fun _ => ⟨d7, d8⟩
    rotate_left
    have hunt := go fun e => absurd e d6
    all_goals
     refine AWp.loop (σ := Nat) ⟨fun k => [(1, .bx 1 0), (4, .av (int (i : Nat))), (5, .bx 5 0), (8, .av (int (k : Nat)))], fun _ => [(1, wldC w), (5, untC w.U[i])],
      fun k st3 => k <= w.B.length /\ st3 = st2 /\ ∀ j, (hj : j < w.B.length) -> j < k -> w.B[j].id ≠ w.U[i].id, fun k => w.B.length - k⟩ zc ?_ ?_
     ·exact ⟨0, Tv, ⟨Nat.zero_le _, rfl, fun j _ hj => by omega⟩, ⟨Tq, Tq, Tq, Tq, Tv⟩, ⟨rfl, rfl, Tv⟩⟩
     rintro k st3 ⟨hk3, rfl, hne⟩
     refine zd (fun e1 => ?_) (fun e1 => ?_)
     ·have hkl := qz e1
      refine ADraw.of_sched zc (by rfl) (by rfl) yf6 (by rfl) ?_
      refine ⟨k, rfl, za _ (zh hkl) ?_⟩
      refine bceq (fun e2 => ret (nou fun q => q.1.2 _ (List.getElem_mem hkl) e2)) (fun e2 => ?_)
      refine in64 (by omega) ?_
      refine ⟨k + 1, ?_, ⟨by omega, rfl, fun j hj hjk => ?_⟩, ⟨Tq, Tq, Tq, Tq, Tv⟩, ⟨rfl, rfl, Tv⟩⟩
      ·show w.B.length - (k + 1) < w.B.length - k
       omega
      ·by_cases e : j = k
       ·subst e; exact e2
       ·exact hne j hj (by omega)
     have hke : k = w.B.length := x3 e1 hk3
     subst hke
     refine in64 (by omega) ?_
     refine ⟨i + 1, ?_, ⟨by omega, rfl, fun j hj hji => ?_⟩, ⟨Tq, Tq, Tv⟩, ⟨rfl, Tv⟩⟩
     ·show w.U.length - (i + 1) < w.U.length - i
      omega
     ·by_cases e : j = i
      ·subst e
       refine ⟨⟨hunt, fun b hb => ?_⟩, hrise⟩
       obtain ⟨m, hm, rfl⟩ := List.getElem_of_mem hb
       exact hne m hm hm
      ·exact hup j hj (by omega)
end Go.Proofs
namespace Go.Proofs
open Go Go.V
set_option maxRecDepth 4000
set_option maxHeartbeats 4000000 in
set_option maxRecDepth 20000 in
theorem zu4 (w : Wld) (hw : w.fits) (hn : ∀ u ∈ w.U, u.pos.ok) (st : Store) (R : AV -> Store -> Prop) (h : ∀ z : Bool, (z = true ↔ mayP w) -> R (V.bool z) st) : ACalls Tryz.prog 20 [.agg (wldC w)] st R := by
 have no : ¬ mayP w -> R (V.bool false) st := fun hh => h false (by simp only [Bool.false_eq_true, false_iff]; exact hh)
 refine ACalls.of_body (c := cfg 98) zc Tryz.func20 (by rfl) (by rfl) (by rfl) (by rfl) ?_
 refine zr0 w hw _ _ (fun z hz => ?_)
 refine yk ?_
 refine zd (fun c1 => ?_) (fun c1 => ret (no fun q => by have := hz.2 q.1; rw [this] at c1; cases c1))
 obtain ⟨hh, hok⟩ := hz.1 c1
 have hg := hh.2.1.1
 have hbl := hh.2.1.2.1
 have hBl : w.B.length <= 256 := hbl.1
 have hU : w.U.length <= 4096 := hh.2.1.2.2
 have hbb : ∀ b ∈ w.B, bldP b /\ onP w.G b := fun b hb => ⟨(hbl.2.2.1 b hb).1, (hbl.2.2.1 b hb).2.1⟩
 have hkk : ∀ u ∈ w.U, zat u.kind := fun u hu => (hok.2 u hu).1.1.2.2
 refine AWp.loop (σ := Nat) ⟨fun i => [(1, .bx 1 0), (3, .av (int (i : Nat)))], fun _ => [(1, wldC w)],
  fun i st' => i <= w.U.length /\ st' = st /\ ∀ j, (hj : j < w.U.length) -> j < i -> (w.U[j].inn = 0 -> ym w w.U[j].id w.U[j].kind w.U[j].pos) /\ (w.U[j].inn ≠ 0 -> zb4 w w.U[j]), fun i => w.U.length - i⟩ zc ?_ ?_
 ·exact ⟨0, Tv, ⟨Nat.zero_le _, rfl, fun j _ hj => by omega⟩, ⟨Tq, Tq, Tv⟩, ⟨rfl, Tv⟩⟩
 rintro i st' ⟨hi, rfl, hall⟩
 refine zd (fun h1 => ?_) (fun h1 => ?_)
 rotate_left
 ·have : i = w.U.length := x3 h1 hi
  subst this
  refine ret (h true (by
   simp only [true_iff]
   refine ⟨⟨hh, hok⟩, fun u hu h0 => ?_, fun u hu h0 => ?_⟩
   ·obtain ⟨j, hj, rfl⟩ := List.getElem_of_mem hu
    exact (hall j hj hj).1 h0
   ·obtain ⟨j, hj, rfl⟩ := List.getElem_of_mem hu
    exact (hall j hj hj).2 h0))
 have hlt := qz h1
 have hui := List.getElem_mem hlt
 have next : ((w.U[i].inn = 0 -> ym w w.U[i].id w.U[i].kind w.U[i].pos) /\ (w.U[i].inn ≠ 0 -> zb4 w w.U[i])) -> ∀ j, (hj : j < w.U.length) -> j < i + 1 -> (w.U[j].inn = 0 -> ym w w.U[j].id w.U[j].kind w.U[j].pos) /\ (w.U[j].inn ≠ 0 -> zb4 w w.U[j]) := fun hq j hj hji => by
  by_cases e : j = i
  ·subst e; exact hq
  ·exact hall j hj (by omega)
 refine ⟨i, rfl, za _ (zh hlt) ?_⟩
 refine bceq (fun c2 => ?_) (fun c2 => ?_)
 ·refine zgg w hg (by omega) hbb (by omega) hn hkk w.U[i].id w.U[i].kind (hkk _ hui) w.U[i].pos (hn _ hui) _ _ (fun z hz => ?_)
  refine yk ?_
  refine zd (fun c3 => ?_) (fun c3 => ret (no fun q => by have := hz.2 (q.2.1 _ hui c2); rw [this] at c3; cases c3))
  refine in64 (by omega) ?_
  refine ⟨i + 1, ?_, ⟨by omega, rfl, next ⟨fun _ => hz.1 c3, fun hne => absurd c2 hne⟩⟩, ⟨Tq, Tq, Tv⟩, ⟨rfl, Tv⟩⟩
  show w.U.length - (i + 1) < w.U.length - i
  omega
 have nou : ¬ zb4 w w.U[i] -> R (V.bool false) st' := fun hq => no fun q => hq (q.2.2 _ hui c2)
 refine zif w (by omega) w.U[i].inn _ _ ?_
 cases hf : w.U.findIdx? fun u => decide (u.id = w.U[i].inn) with
 | none =>
  have hno : ¬ zb4 w w.U[i] := fun ⟨x, hx, e, _⟩ => by
   rw [List.findIdx?_eq_none_iff] at hf
   have := hf x hx
   rw [decide_eq_false_iff_not] at this
   exact this e
  refine ADraw.of_sched zc (by rfl) (by rfl) zp5 (by rfl) ?_
  exact ⟨⟨(by repeat (first | exact Tv | refine ⟨rfl, ?_⟩ | refine ⟨optR (optR (optR (za _ (zb _ _ _) rfl))), ?_⟩)), ⟨⟨(by repeat (first | exact Tv | refine ⟨rfl, ?_⟩ | refine ⟨optR (optR (optR (za _ (zb _ _ _) rfl))), ?_⟩)), ⟨⟨(by repeat (first | exact Tv | refine ⟨rfl, ?_⟩ | refine ⟨optR (optR (optR (za _ (zb _ _ _) rfl))), ?_⟩)), ret (nou hno)⟩, Tv⟩⟩, Tv⟩⟩, Tv⟩
 | some k =>
  rw [List.findIdx?_eq_some_iff_getElem] at hf
  obtain ⟨hkl, hkid, _⟩ := hf
  have hkid := of_decide_eq_true hkid
  have uniq : zb4 w w.U[i] -> (w.U[k].inn = 0 /\ w.U[k].owner = w.U[i].owner) /\ ((inOf w.U w.U[i].inn).length : Int) <= wv w.U[k].kind := fun ⟨x, hx, e, e2, e3, _⟩ => by
   have := jo hok.1 hx (List.getElem_mem hkl) (by rw [e, hkid])
   subst this
   exact ⟨e2, e3⟩
  refine ADraw.of_sched zc (by rfl) (by rfl) zp5 (by rfl) ?_
  refine ⟨k, rfl, za _ (zh hkl) ?_⟩
  refine bcne (fun c4 => ⟨⟨(by repeat (first | exact Tv | refine ⟨rfl, ?_⟩ | refine ⟨optR (optR (optR (za _ (zb _ _ _) rfl))), ?_⟩)), ⟨⟨(by repeat (first | exact Tv | refine ⟨rfl, ?_⟩ | refine ⟨optR (optR (optR (za _ (zb _ _ _) rfl))), ?_⟩)), ⟨⟨(by repeat (first | exact Tv | refine ⟨rfl, ?_⟩ | refine ⟨optR (optR (optR (za _ (zb _ _ _) rfl))), ?_⟩)), ret (nou (fun q => c4 (uniq q).1.1))⟩, Tv⟩⟩, Tv⟩⟩, Tv⟩) (fun c4 => ?_)
  refine ⟨k, rfl, za _ (zh hkl) ?_⟩
  refine bcne (fun c5 => ⟨⟨(by repeat (first | exact Tv | refine ⟨rfl, ?_⟩ | refine ⟨optR (optR (optR (za _ (zb _ _ _) rfl))), ?_⟩)), ⟨⟨(by repeat (first | exact Tv | refine ⟨rfl, ?_⟩ | refine ⟨optR (optR (optR (za _ (zb _ _ _) rfl))), ?_⟩)), ⟨⟨(by repeat (first | exact Tv | refine ⟨rfl, ?_⟩ | refine ⟨optR (optR (optR (za _ (zb _ _ _) rfl))), ?_⟩)), ret (nou (fun q => c5 (uniq q).1.2))⟩, Tv⟩⟩, Tv⟩⟩, Tv⟩) (fun c5 => ?_)
  refine ⟨jm w.U[i].kind (hkk _ hui) _ _ ⟨(by repeat (first | exact Tv | refine ⟨rfl, ?_⟩ | refine ⟨optR (optR (optR (za _ (zb _ _ _) rfl))), ?_⟩)), ?_⟩, Tv⟩
  refine bcd (fun c6 => ⟨⟨(by repeat (first | exact Tv | refine ⟨rfl, ?_⟩ | refine ⟨optR (optR (optR (za _ (zb _ _ _) rfl))), ?_⟩)), ⟨⟨(by repeat (first | exact Tv | refine ⟨rfl, ?_⟩ | refine ⟨optR (optR (optR (za _ (zb _ _ _) rfl))), ?_⟩)), ret (nou (fun ⟨x, _, _, _, _, e, _⟩ => by omega))⟩, Tv⟩⟩, Tv⟩) (fun c6 => ?_)
  have hroom : wv w.U[i].kind = 0 := by have := zor w.U[i].kind; omega
  refine ⟨k, rfl, za _ (zh hkl) ?_⟩
  refine ⟨zls w (by omega) w.U[i].inn _ _ ⟨?_, ?_⟩, Tv⟩
  ·repeat (first | exact Tv | refine ⟨rfl, ?_⟩ | refine ⟨⟨k, rfl, za _ (zh hkl) rfl⟩, ?_⟩)
  refine ⟨jm w.U[k].kind (hkk _ (List.getElem_mem hkl)) _ _ ⟨?_, ?_⟩, Tv⟩
  ·repeat (first | exact Tv | refine ⟨rfl, ?_⟩)
  have hrl : ((rws intC (inOf w.U w.U[i].inn)).length : Int) = ((inOf w.U w.U[i].inn).length : Int) := by rw [zi]
  refine bcd (fun c7 => ret (nou fun q => by have := (uniq q).2; omega)) (fun c7 => ?_)
  refine yk ?_
  refine zd (fun c8 => ?_) (fun c8 => ret (nou fun ⟨x, _, _, _, _, _, e, _⟩ => by rw [e] at c8; cases c8))
  have hpos : w.U[i].pos = (0, 0) := by
   have : (w.U[i].pos.1 == 0 && (w.U[i].pos.2 == 0 && true)) = true := c8
   simp at this
   exact Prod.ext this.1 this.2
  refine bcne (fun c9 => ret (nou fun ⟨x, _, _, _, _, _, _, e, _⟩ => c9 e)) (fun c9 => ?_)
  refine bcne (fun c10 => ret (nou fun ⟨x, _, _, _, _, _, _, _, e⟩ => c10 e)) (fun c10 => ?_)
  refine in64 (by omega) ?_
  refine ⟨i + 1, ?_, ⟨by omega, rfl, next ⟨fun h0 => absurd h0 c2, fun _ => ⟨w.U[k], List.getElem_mem hkl, hkid, ⟨c4, c5⟩, by omega, hroom, hpos, c9, c10⟩⟩⟩, ⟨Tq, Tq, Tv⟩, ⟨rfl, Tv⟩⟩
  show w.U.length - (i + 1) < w.U.length - i
  omega
end Go.Proofs
namespace Go.Proofs
open Go Go.V
set_option maxRecDepth 4000
theorem zhs (l : List UInt8) (hl : l.length <= 1000000000000) (st : Store) (R : AV -> Store -> Prop) (h : R (lst 1 u8C l) st) : ACalls Tryz.prog 85 [lst 1 u8C l] st R := by
 refine ACalls.of_body (c := cfg 19) zc Tryz.func85 (by rfl) (by rfl) (by rfl) (by rfl) ?_
 refine AWp.loop (σ := Nat × AV) ⟨fun s => [(0, .av (lst 1 u8C l)), (3, .av s.2), (4, .av (int s.1))], fun _ => [], fun s st' => s.1 <= l.length /\ App 1 st s.2 (rws u8C (l.take s.1)) st', fun s => l.length - s.1⟩ zc ?_ ?_
 ·exact ⟨(0, _), Tv, ⟨Nat.zero_le _, App.start 1 st⟩, ⟨Tq, Tq, Tq, Tv⟩, Tv⟩
 ·rintro ⟨i, v⟩ st' ⟨hi, ha⟩
  simp only at hi
  refine zd (fun h1 => ?_) (fun h1 => ?_)
  ·have hlt : i < l.length := qz h1
   refine ⟨i, rfl, za _ (zh hlt) ?_⟩
   refine ⟨by decide, ?_⟩
   refine ql (ie := ti5) (rows' := [u8C l[i]]) ha ?_ ?_ ⟨?_, ?_⟩ (fun v2 st2 ha2 => ?_)
   ·rfl
   ·rfl
   ·simp [zi, ti5]; omega
   ·simp [zi]; omega
   ·refine ⟨⟨by omega, by omega⟩, ?_⟩
    refine ⟨(i + 1, v2), ?_, ⟨hlt, ?_⟩, ⟨Tq, Tq, Tq, Tv⟩, Tv⟩
    ·show l.length - (i + 1) < l.length - i
     omega
    ·rw [<- zjt hlt]; exact ha2
  ·have hge : i = l.length := x3 h1 hi
   subst hge
   refine ⟨_, st, AV.le_trans ha.le ?_, ha.has, h⟩
   rw [List.take_length]
   exact Tt
theorem zaj (l : List Bld) (hl : l.length <= 1000000000000) (st : Store) (R : AV -> Store -> Prop) (h : R (lst 6 bldC l) st) : ACalls Tryz.prog 41 [lst 6 bldC l] st R := by
 refine ACalls.of_body (c := cfg 19) zc Tryz.func41 (by rfl) (by rfl) (by rfl) (by rfl) ?_
 refine AWp.loop (σ := Nat × AV) ⟨fun s => [(0, .av (lst 6 bldC l)), (3, .av s.2), (4, .av (int s.1))], fun _ => [], fun s st' => s.1 <= l.length /\ App 6 st s.2 (rws bldC (l.take s.1)) st', fun s => l.length - s.1⟩ zc ?_ ?_
 ·exact ⟨(0, _), Tv, ⟨Nat.zero_le _, App.start 6 st⟩, ⟨Tq, Tq, Tq, Tv⟩, Tv⟩
 ·rintro ⟨i, v⟩ st' ⟨hi, ha⟩
  simp only at hi
  refine zd (fun h1 => ?_) (fun h1 => ?_)
  ·have hlt : i < l.length := qz h1
   refine ⟨i, rfl, za _ (zh hlt) ?_⟩
   refine ⟨by decide, ?_⟩
   refine ql (ie := ti145) (rows' := [bldC l[i]]) ha ?_ ?_ ⟨?_, ?_⟩ (fun v2 st2 ha2 => ?_)
   ·rfl
   ·rfl
   ·simp [zi, ti145]; omega
   ·simp [zi]; omega
   ·refine ⟨⟨by omega, by omega⟩, ?_⟩
    refine ⟨(i + 1, v2), ?_, ⟨hlt, ?_⟩, ⟨Tq, Tq, Tq, Tv⟩, Tv⟩
    ·show l.length - (i + 1) < l.length - i
     omega
    ·rw [<- zjt hlt]; exact ha2
  ·have hge : i = l.length := x3 h1 hi
   subst hge
   refine ⟨_, st, AV.le_trans ha.le ?_, ha.has, h⟩
   rw [List.take_length]
   exact Tt
theorem zkm (l : List Unt) (hl : l.length <= 1000000000000) (st : Store) (R : AV -> Store -> Prop) (h : R (lst 10 untC l) st) : ACalls Tryz.prog 42 [lst 10 untC l] st R := by
 refine ACalls.of_body (c := cfg 19) zc Tryz.func42 (by rfl) (by rfl) (by rfl) (by rfl) ?_
 refine AWp.loop (σ := Nat × AV) ⟨fun s => [(0, .av (lst 10 untC l)), (3, .av s.2), (4, .av (int s.1))], fun _ => [], fun s st' => s.1 <= l.length /\ App 10 st s.2 (rws untC (l.take s.1)) st', fun s => l.length - s.1⟩ zc ?_ ?_
 ·exact ⟨(0, _), Tv, ⟨Nat.zero_le _, App.start 10 st⟩, ⟨Tq, Tq, Tq, Tv⟩, Tv⟩
 ·rintro ⟨i, v⟩ st' ⟨hi, ha⟩
  simp only at hi
  refine zd (fun h1 => ?_) (fun h1 => ?_)
  ·have hlt : i < l.length := qz h1
   refine ⟨i, rfl, za _ (zh hlt) ?_⟩
   refine ⟨by decide, ?_⟩
   refine ql (ie := ti51) (rows' := [untC l[i]]) ha ?_ ?_ ⟨?_, ?_⟩ (fun v2 st2 ha2 => ?_)
   ·rfl
   ·rfl
   ·simp [zi, ti51]; omega
   ·simp [zi]; omega
   ·refine ⟨⟨by omega, by omega⟩, ?_⟩
    refine ⟨(i + 1, v2), ?_, ⟨hlt, ?_⟩, ⟨Tq, Tq, Tq, Tv⟩, Tv⟩
    ·show l.length - (i + 1) < l.length - i
     omega
    ·rw [<- zjt hlt]; exact ha2
  ·have hge : i = l.length := x3 h1 hi
   subst hge
   refine ⟨_, st, AV.le_trans ha.le ?_, ha.has, h⟩
   rw [List.take_length]
   exact Tt
theorem ve (g : Gnd) (hg : g.fits) (st : Store) (R : AV -> Store -> Prop) (h : R (.agg (gndC g)) st) : ACalls Tryz.prog 40 [.agg (gndC g)] st R := by
 refine ACalls.of_body (c := cfg 10) zc Tryz.func40 (by rfl) (by rfl) (by rfl) (by rfl) ?_
 refine zhs g.T hg _ _ ?_
 exact ret h
theorem wc (w : Wld) (hw : w.fits) (st : Store) (R : AV -> Store -> Prop) (h : R (.agg (wldC w)) st) : ACalls Tryz.prog 13 [.agg (wldC w)] st R := by
 refine ACalls.of_body (c := cfg 18) zc Tryz.func13 (by rfl) (by rfl) (by rfl) (by rfl) ?_
 refine ve w.G hw.1 _ _ ?_
 refine zaj w.B hw.2.1 _ _ ?_
 refine zkm w.U hw.2.2 _ _ ?_
 exact ret h
theorem zm0 (a b : List UInt8) (ha : a.length <= 1000000000000) (st : Store) (R : AV -> Store -> Prop) (h : R (bool (decide (a = b))) st) : ACalls Tryz.prog 90 [lst 1 u8C a, lst 1 u8C b] st R := by
 refine ACalls.of_body (c := cfg 26) zc Tryz.func90 (by rfl) (by rfl) (by rfl) (by rfl) ?_
 refine zd (fun h1 => ?_) (fun h1 => ?_)
 ·have : a ≠ b := fun h2 => zv5 h1 (by rw [h2])
  rw [show decide (a = b) = false by simp [this]] at h
  exact ⟨_, st, Tt, Store.Has.refl st, h⟩
 ·have hl : a.length = b.length := zxl h1
  refine AWp.loop (σ := Nat) ⟨fun i => [(0, .av (lst 1 u8C a)), (1, .av (lst 1 u8C b)), (5, .av (int i))], fun _ => [], fun i st' => i <= a.length /\ a.take i = b.take i /\ st' = st, fun i => a.length - i⟩ zc ?_ ?_
  ·exact ⟨0, Tv, ⟨Nat.zero_le _, rfl, rfl⟩, ⟨Tq, Tq, Tq, Tv⟩, Tv⟩
  ·rintro i st' ⟨hi, heq, hst⟩
   refine zd (fun h2 => ?_) (fun h2 => ?_)
   ·have hlt : i < a.length := qz h2
    have hltb : i < b.length := by omega
    refine ADraw.of_sched zc (by rfl) (by rfl) ymy (by rfl) ?_
    refine ⟨i, rfl, za _ (zh hlt) ?_⟩
    refine ⟨i, rfl, za _ (zh hltb) ?_⟩
    refine zd (fun h3 => ?_) (fun h3 => ?_)
    ·have hne : a[i] ≠ b[i] := by
      intro h4
      rw [h4] at h3
      simp at h3
     have : a ≠ b := by
      intro h4
      subst h4
      exact hne rfl
     rw [show decide (a = b) = false by simp [this]] at h
     subst hst
     exact ⟨_, st', Tt, Store.Has.refl st', h⟩
    ·refine ⟨⟨by omega, by omega⟩, ?_⟩
     refine ⟨i + 1, ?_, ⟨hlt, ?_, hst⟩, ⟨Tq, Tq, Tq, Tv⟩, Tv⟩
     ·show a.length - (i + 1) < a.length - i
      omega
     ·rw [List.take_succ_eq_append_getElem hlt, List.take_succ_eq_append_getElem hltb, heq]
      have : a[i] = b[i] := UInt8.toNat_inj.1 (by have := h3; simp at this; omega)
      rw [this]
   ·have hge : i = a.length := x3 h2 hi
    subst hge hst
    have : a = b := by
     rw [List.take_length, hl, List.take_length] at heq
     exact heq
    rw [show decide (a = b) = true by simp [this]] at h
    exact ⟨_, st', Tt, Store.Has.refl st', h⟩
theorem zo5 (a b : List Bld) (ha : a.length <= 1000000000000) (st : Store) (R : AV -> Store -> Prop) (h : R (bool (decide (a = b))) st) : ACalls Tryz.prog 46 [lst 6 bldC a, lst 6 bldC b] st R := by
 refine ACalls.of_body (c := cfg 26) zc Tryz.func46 (by rfl) (by rfl) (by rfl) (by rfl) ?_
 refine zd (fun h1 => ?_) (fun h1 => ?_)
 ·have : a ≠ b := fun h2 => zv5 h1 (by rw [h2])
  rw [show decide (a = b) = false by simp [this]] at h
  exact ⟨_, st, Tt, Store.Has.refl st, h⟩
 ·have hl : a.length = b.length := zxl h1
  refine AWp.loop (σ := Nat) ⟨fun i => [(0, .av (lst 6 bldC a)), (1, .av (lst 6 bldC b)), (5, .av (int i))], fun _ => [], fun i st' => i <= a.length /\ a.take i = b.take i /\ st' = st, fun i => a.length - i⟩ zc ?_ ?_
  ·exact ⟨0, Tv, ⟨Nat.zero_le _, rfl, rfl⟩, ⟨Tq, Tq, Tq, Tv⟩, Tv⟩
  ·rintro i st' ⟨hi, heq, hst⟩
   refine zd (fun h2 => ?_) (fun h2 => ?_)
   ·have hlt : i < a.length := qz h2
    have hltb : i < b.length := by omega
    refine ADraw.of_sched zc (by rfl) (by rfl) yng (by rfl) ?_
    refine ⟨i, rfl, za _ (zh hlt) ?_⟩
    refine ⟨i, rfl, za _ (zh hltb) ?_⟩
    refine zd (fun h3 => ?_) (fun h3 => ?_)
    ·have hne : a[i] ≠ b[i] := by
      intro h4
      rw [h4] at h3
      simp at h3
     have : a ≠ b := by
      intro h4
      subst h4
      exact hne rfl
     rw [show decide (a = b) = false by simp [this]] at h
     subst hst
     exact ⟨_, st', Tt, Store.Has.refl st', h⟩
    ·refine ⟨⟨by omega, by omega⟩, ?_⟩
     refine ⟨i + 1, ?_, ⟨hlt, ?_, hst⟩, ⟨Tq, Tq, Tq, Tv⟩, Tv⟩
     ·show a.length - (i + 1) < a.length - i
      omega
     ·rw [List.take_succ_eq_append_getElem hlt, List.take_succ_eq_append_getElem hltb, heq]
      have : a[i] = b[i] := by cases hx : a[i]; cases hy : b[i]; rw [hx, hy] at h3; simp at h3; simp [h3]
      rw [this]
   ·have hge : i = a.length := x3 h2 hi
    subst hge hst
    have : a = b := by
     rw [List.take_length, hl, List.take_length] at heq
     exact heq
    rw [show decide (a = b) = true by simp [this]] at h
    exact ⟨_, st', Tt, Store.Has.refl st', h⟩
theorem zo3 (a b : List Unt) (ha : a.length <= 1000000000000) (st : Store) (R : AV -> Store -> Prop) (h : R (bool (decide (a = b))) st) : ACalls Tryz.prog 47 [lst 10 untC a, lst 10 untC b] st R := by
 refine ACalls.of_body (c := cfg 26) zc Tryz.func47 (by rfl) (by rfl) (by rfl) (by rfl) ?_
 refine zd (fun h1 => ?_) (fun h1 => ?_)
 ·have : a ≠ b := fun h2 => zv5 h1 (by rw [h2])
  rw [show decide (a = b) = false by simp [this]] at h
  exact ⟨_, st, Tt, Store.Has.refl st, h⟩
 ·have hl : a.length = b.length := zxl h1
  refine AWp.loop (σ := Nat) ⟨fun i => [(0, .av (lst 10 untC a)), (1, .av (lst 10 untC b)), (5, .av (int i))], fun _ => [], fun i st' => i <= a.length /\ a.take i = b.take i /\ st' = st, fun i => a.length - i⟩ zc ?_ ?_
  ·exact ⟨0, Tv, ⟨Nat.zero_le _, rfl, rfl⟩, ⟨Tq, Tq, Tq, Tv⟩, Tv⟩
  ·rintro i st' ⟨hi, heq, hst⟩
   refine zd (fun h2 => ?_) (fun h2 => ?_)
   ·have hlt : i < a.length := qz h2
    have hltb : i < b.length := by omega
    refine ADraw.of_sched zc (by rfl) (by rfl) ynf (by rfl) ?_
    refine ⟨i, rfl, za _ (zh hlt) ?_⟩
    refine ⟨i, rfl, za _ (zh hltb) ?_⟩
    refine zd (fun h3 => ?_) (fun h3 => ?_)
    ·have hne : a[i] ≠ b[i] := by
      intro h4
      rw [h4] at h3
      simp at h3
     have : a ≠ b := by
      intro h4
      subst h4
      exact hne rfl
     rw [show decide (a = b) = false by simp [this]] at h
     subst hst
     exact ⟨_, st', Tt, Store.Has.refl st', h⟩
    ·refine ⟨⟨by omega, by omega⟩, ?_⟩
     refine ⟨i + 1, ?_, ⟨hlt, ?_, hst⟩, ⟨Tq, Tq, Tq, Tv⟩, Tv⟩
     ·show a.length - (i + 1) < a.length - i
      omega
     ·rw [List.take_succ_eq_append_getElem hlt, List.take_succ_eq_append_getElem hltb, heq]
      have : a[i] = b[i] := by cases hx : a[i]; cases hy : b[i]; rw [hx, hy] at h3; simp at h3; simp [h3, Prod.ext_iff]
      rw [this]
   ·have hge : i = a.length := x3 h2 hi
    subst hge hst
    have : a = b := by
     rw [List.take_length, hl, List.take_length] at heq
     exact heq
    rw [show decide (a = b) = true by simp [this]] at h
    exact ⟨_, st', Tt, Store.Has.refl st', h⟩
theorem zkh (a b : Gnd) (ha : a.fits) (st : Store) (R : AV -> Store -> Prop) (h : R (V.bool (decide (a = b))) st) : ACalls Tryz.prog 45 [.agg (gndC a), .agg (gndC b)] st R := by
 refine ACalls.of_body (c := cfg 24) zc Tryz.func45 (by rfl) (by rfl) (by rfl) (by rfl) ?_
 refine zd (fun h1 => ?_) (fun h1 => ⟨_, st, Tt, Store.Has.refl st, isF h (decide_eq_false fun e => by subst e; simp at h1)⟩)
 refine zd (fun h2 => ?_) (fun h1 => ⟨_, st, Tt, Store.Has.refl st, isF h (decide_eq_false fun e => by subst e; simp at h1)⟩)
 refine zm0 a.T b.T ha _ _ ?_
 refine ⟨_, st, Tt, Store.Has.refl st, ?_⟩
 have e : decide (a.T = b.T) = decide (a = b) := by
  rw [Bool.eq_iff_iff]
  simp only [beq_iff_eq, decide_eq_true_eq] at *
  constructor
  ·intro h9
   cases a; cases b
   simp_all
  ·rintro rfl
   rfl
 rw [<- e] at h
 exact h
theorem zet (w : Wld) (hw : w.fits) (st : Store) (R : AV -> Store -> Prop) (h : R (V.bool true) st) : ACalls Tryz.prog 17 [.agg (wldC w), .agg (wldC w)] st R := by
 refine ACalls.of_body (c := cfg 45) zc Tryz.func17 (by rfl) (by rfl) (by rfl) (by rfl) ?_
 refine bceq (fun h1 => ?_) (fun h1 => absurd rfl h1)
 refine bceq (fun h2 => ?_) (fun h1 => absurd rfl h1)
 refine bceq (fun h3 => ?_) (fun h1 => absurd rfl h1)
 refine zkh w.G w.G hw.1 _ _ ?_
 rw [show decide (w.G = w.G) = true by simp]
 refine zo5 w.B w.B hw.2.1 _ _ ?_
 rw [show decide (w.B = w.B) = true by simp]
 refine zo3 w.U w.U hw.2.2 _ _ ?_
 rw [show decide (w.U = w.U) = true by simp]
 exact ret h
end Go.Proofs
