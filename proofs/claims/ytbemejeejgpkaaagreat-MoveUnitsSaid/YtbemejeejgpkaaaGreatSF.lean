/- The ground on which laws of thronglaw24 are proved: contracts of functions and plain lemmas; no condition beyond the row's own. -/
import Derived.Test.YtbemejeejgpkaaaGreatSE
import Derived.Test.YtbemejeejgpkaaaGreatSD
import Derived.Test.YtbemejeejgpkaaaGreatVG
set_option linter.unusedSimpArgs false
set_option linter.unusedVariables false
namespace Go.Proofs
open Go Go.V
set_option maxRecDepth 4000
theorem zip (x : Int) (st : Store) (R : AV -> Store -> Prop) (h : R (V.bool false) st) : ACalls Tryz.prog 179 [int x] st R := by
 refine ACalls.of_body (c := cfg 6) zc Tryz.func179 (by rfl) (by rfl) (by rfl) (by rfl) ?_
 refine ⟨_, st, Tt, Store.Has.refl st, ?_⟩
 have e : (x != x) = false := by simp
 rw [<- e] at h
 exact h
theorem zm6 (x y : Int) (st : Store) (R : AV -> Store -> Prop) (h : R (int (cmpZ x y)) st) : ACalls Tryz.prog 136 [int x, int y] st R := by
 refine ACalls.of_body (c := cfg 20) zc Tryz.func136 (by rfl) (by rfl) (by rfl) (by rfl) ?_
 refine zip _ _ _ ?_
 refine zip _ _ _ ?_
 unfold cmpZ at h
 refine zd (fun h1 => ⟨_, st, Tt, Store.Has.refl st, ?_⟩) (fun h1 => ?_)
 ·rw [if_pos (by simpa using h1)] at h
  exact h
 ·rw [if_neg (by simpa using h1)] at h
  refine zd (fun h2 => ⟨_, st, Tt, Store.Has.refl st, ?_⟩) (fun h2 => ⟨_, st, Tt, Store.Has.refl st, ?_⟩)
  ·rw [if_pos (by simpa using h2)] at h
   exact h
  ·rw [if_neg (by simpa using h2)] at h
   exact h
theorem znh (u : Unt) (id : Int) (st : Store) (R : AV -> Store -> Prop) (h : R (int (cmpZ u.id id)) st) : ACalls Tryz.prog 135 [.agg (untC u), int id] st R := by
 refine ACalls.of_body (c := cfg 9) zc Tryz.func135 (by rfl) (by rfl) (by rfl) (by rfl) ?_
 exact zm6 u.id id _ _ (ret h)
/-- Where an ID stands, or would stand. -/
def isAt (l : List Unt) (id : Int) (i : Nat) : Prop := i <= l.length /\ (∀ j, (h : j < l.length) -> j < i -> l[j].id < id) /\ ∀ j, (h : j < l.length) -> i <= j -> id <= l[j].id
theorem yi6 (l : List Unt) (hl : l.length <= 1000000000000) (hr : yf l) (id : Int) (st : Store) (R : AV -> Store -> Prop)
  (h : ∀ i, isAt l id i -> ∀ z : Bool, (z = true ↔ ∃ hi : i < l.length, l[i].id = id) -> R (.tup [int (i : Nat), V.bool z]) st) : ACalls Tryz.prog 134 [lst 10 untC l, int id, .clos 135 []] st R := by
 refine ACalls.of_body (c := cfg 49) zc Tryz.func134 (by rfl) (by rfl) (by rfl) (by rfl) ?_
 refine AWp.loop (σ := Nat × Nat) ⟨fun s => [(0, .av (lst 10 untC l)), (1, .av (int id)), (2, .av (.clos 135 [])), (8, .av (int (l.length : Nat))), (9, .av (int (s.1 : Nat))), (10, .av (int (s.2 : Nat)))], fun _ => [],
  fun s st' => st' = st /\ s.1 <= s.2 /\ s.2 <= l.length /\ (∀ j, (h : j < l.length) -> j < s.1 -> l[j].id < id) /\ ∀ j, (h : j < l.length) -> s.2 <= j -> id <= l[j].id, fun s => s.2 - s.1⟩ zc ?_ ?_
 ·refine ⟨(0, l.length), Tv, ⟨rfl, Nat.zero_le _, Nat.le_refl _, fun j _ hj => by omega, fun j hj hj2 => by omega⟩, ⟨Tq, Tq, Tq, ?_, Tq, ?_, Tv⟩, Tv⟩
  ·rw [<- zi (f := untC) l]; exact Tq
  ·rw [<- zi (f := untC) l]; exact Tq
 rintro ⟨i, j⟩ st' ⟨rfl, hij, hj, hlo, hhi⟩
 dsimp only at hij hj hlo hhi ⊢
 refine bcd (fun h1 => ?_) (fun h1 => ?_)
 rotate_left
 ·have e : i = j := by omega
  subst e
  have hat : isAt l id i := ⟨hj, hlo, hhi⟩
  refine bcd (fun h2 => ?_) (fun h2 => ?_)
  ·have hlt : i < l.length := by omega
   refine ⟨i, rfl, za _ (zh hlt) ?_⟩
   refine znh l[i] id _ _ ?_
   refine ret (h i hat _ ?_)
   have := hhi i hlt (Nat.le_refl _)
   unfold cmpZ
   rw [if_neg (by omega)]
   by_cases e : l[i].id = id
   ·rw [if_neg (by omega)]; simp [hlt, e]
   ·rw [if_pos (by omega)]; simp [e]
  ·exact ret (h i hat _ (by simp; omega))
 refine in64 (by omega) ?_
 refine ⟨by decide, ?_⟩
 have hmid : (IntKind.u64.wrap ((i : Int) + (j : Int))).fdiv (2 ^ (min (1 : Int).toNat IntKind.u64.bits)) = (((i + j) / 2 : Nat) : Int) := by
  have e1 : IntKind.u64.wrap ((i : Int) + (j : Int)) = ((i + j : Nat) : Int) := by
   simp [IntKind.wrap, IntKind.bits, IntKind.signed]; omega
  have e2 : (2 : Int) ^ (min (1 : Int).toNat IntKind.u64.bits) = 2 := rfl
  have e3 : (((i + j : Nat) : Int)).fdiv 2 = (((i + j) / 2 : Nat) : Int) := by
   rw [Int.fdiv_eq_ediv_of_nonneg _ (by decide)]; rfl
  rw [e1, e2, e3]
 have hk1 : (i + j) / 2 < j := by omega
 have hk2 : i <= (i + j) / 2 := by omega
 have hkl : (i + j) / 2 < l.length := by omega
 have hmono : ∀ a b, (ha : a < l.length) -> (hb : b < l.length) -> a <= b -> l[a].id <= l[b].id := by
  intro a b ha hb hab
  induction b with
  | zero =>
   have : a = 0 := by omega
   subst this; exact Int.le_refl _
  | succ b ih =>
   by_cases e : a = b + 1
   ·subst e; exact Int.le_refl _
   ·have h2 := ih (by omega) (by omega)
    have h3 := hr (b + 1) hb (by omega)
    simp only [Nat.add_sub_cancel] at h3
    omega
 refine ⟨by rw [hmid]; exact ⟨by omega, by omega⟩, ?_⟩
 refine ⟨(i + j) / 2, hmid, za _ (zh hkl) ?_⟩
 refine znh l[(i + j) / 2] id _ _ ?_
 have hc : cmpZ l[(i + j) / 2].id id < 0 ↔ l[(i + j) / 2].id < id := by
  unfold cmpZ; split
  ·omega
  ·split <;> omega
 refine bcd (fun h2 => ?_) (fun h2 => ?_)
 ·have h2 := hc.1 h2
  refine in64 (by rw [hmid]; omega) ?_
  refine ⟨((i + j) / 2 + 1, j), ?_, ⟨rfl, by dsimp only; omega, hj, fun a ha ha2 => ?_, hhi⟩, ⟨Tq, Tq, Tq, Tq, ?_, Tq, Tv⟩, Tv⟩
  ·show j - ((i + j) / 2 + 1) < j - i
   omega
  ·have := hmono a ((i + j) / 2) ha hkl (by dsimp only at ha2; omega)
   omega
  ·dsimp only
   exact (congrArg (fun n : Int => LV.le (vint .i64 (n + 1)) (.av (int (((i + j) / 2 + 1 : Nat) : Int)))) hmid).mpr (Tq)
 ·have h2 : ¬ l[(i + j) / 2].id < id := fun hh => h2 (hc.2 hh)
  refine ⟨(i, (i + j) / 2), ?_, ⟨rfl, hk2, by dsimp only; omega, hlo, fun a ha ha2 => ?_⟩, ⟨Tq, Tq, Tq, Tq, Tq, ?_, Tv⟩, Tv⟩
  ·show (i + j) / 2 - i < j - i
   omega
  ·have := hmono ((i + j) / 2) a hkl ha (by dsimp only at ha2; omega)
   omega
  ·dsimp only
   exact (congrArg (fun n : Int => LV.le (vint .i64 n) (.av (int (((i + j) / 2 : Nat) : Int)))) hmid).mpr (Tq)
theorem zkv (l : List Unt) (hl : l.length <= 1000000000000) (hr : yf l) (id : Int) (st : Store) (R : AV -> Store -> Prop)
  (h : ∀ i, isAt l id i -> ∀ z : Bool, (z = true ↔ ∃ hi : i < l.length, l[i].id = id) -> R (.tup [int (i : Nat), V.bool z]) st) : ACalls Tryz.prog 87 [lst 10 untC l, int id] st R := by
 refine ACalls.of_body (c := cfg 11) zc Tryz.func87 (by rfl) (by rfl) (by rfl) (by rfl) ?_
 exact yi6 l hl hr id _ _ fun i hi z hz => ret (h i hi z hz)
end Go.Proofs
namespace Go.Proofs
open Go Go.V
set_option maxRecDepth 4000
def stC (w : Wld) (o0 o1 o2 : AV) (p : Nat) : List AV := wldC w ++ [o0, o1, o2, ptr p]
def stS (s : Nat) (w : Wld) (o0 o1 o2 : AV) (p : Nat) : Store := Store.empty.setObj s (.cells (stC w o0 o1 o2 p))
def opOK (w : Wld) (c : Int) (o : AV) : Prop := o = .s (.slice none 0 0) \/ o = opV w.G w.B c
/-- A stand: who stands in its cells. -/
structure StandAt (F : Store) (s p : Nat) (w : Wld) (L : List Ent) (o0 o1 o2 : AV) : Prop where
 hc : CellsOf F p L
 hd : Disj F (stS s w o0 o1 o2 p)
 h0 : opOK w 0 o0
 h1 : opOK w 1 o1
 h2 : opOK w 2 o2
theorem w8 (s : Nat) (w : Wld) (o0 o1 o2 : AV) (p : Nat) : (stS s w o0 o1 o2 p).obj s = some (.cells (stC w o0 o1 o2 p)) := zb _ _ _
theorem stS_has {s : Nat} {w : Wld} {o0 o1 o2 : AV} {p i : Nat} : (stS s w o0 o1 o2 p).has i ↔ i = s := by
 unfold Store.has stS
 constructor
 ·rintro (h | h)
  ·apply Decidable.byContradiction
   intro hn
   rw [zf hn] at h
   exact h rfl
  ·exact absurd rfl h
 ·rintro rfl
  exact .inl (by rw [zb]; simp)
theorem zkj {F : Store} {s : Nat} {w : Wld} {o0 o1 o2 q0 q1 q2 : AV} {p : Nat} (h : Disj F (stS s w o0 o1 o2 p)) : Disj F (stS s w q0 q1 q2 p) := fun i h1 h2 => h i h1 (stS_has.2 (stS_has.1 h2))
theorem zgc {l : List Unt} (hr : yf l) {a b : Nat} (hab : a < b) (hb : b < l.length) : (l[a]'(by omega)).id < l[b].id := by
 induction b with
 | zero => omega
 | succ b ih =>
  have h3 := hr (b + 1) hb (by omega)
  simp only [Nat.add_sub_cancel] at h3
  by_cases e : a = b
  ·subst e; exact h3
  ·have := ih (by omega) (by omega)
   omega
theorem zvu (w : Wld) (hU : w.U.length <= 1000000) (hn : ∀ u ∈ w.U, u.pos.ok) (R : AV -> Store -> Prop)
  (h : ∀ F s p L o0 o1 o2, StandAt F s p w L o0 o1 o2 -> L.length <= w.U.length -> (yf w.U -> ∀ e, e ∈ L ↔ ∃ u ∈ w.U, u.inn = 0 /\ e = (u.id, u.pos)) -> R (ptr s) (F.un (stS s w o0 o1 o2 p))) : ACalls Tryz.prog 86 [.agg (wldC w)] Store.empty R := by
 refine ACalls.of_body (c := cfg 31 [9] []) zc Tryz.func86 (by rfl) (by rfl) (by rfl) (by rfl) ?_
 refine ADraw.of_sched zc (by rfl) (by rfl) zup (by rfl) ?_
 refine ⟨zdj _ (fun F p hc => ⟨(by repeat (first | exact Tv | refine ⟨rfl, ?_⟩ | refine ⟨optR (optR (optR (za _ (zb _ _ _) rfl))), ?_⟩)), ?_⟩), Tv⟩
 refine ⟨fun s hs => ⟨Tv, ?_⟩, Tv⟩
 refine ⟨⟨Tv, ?_⟩, Tv⟩
 have e0 : F.setObj s (.cells (stC w (.s (.slice none 0 0)) (.s (.slice none 0 0)) (.s (.slice none 0 0)) p)) = F.un (stS s w (.s (.slice none 0 0)) (.s (.slice none 0 0)) (.s (.slice none 0 0)) p) := by
  exact zq F Store.empty s _
 have h0 : StandAt F s p w [] (.s (.slice none 0 0)) (.s (.slice none 0 0)) (.s (.slice none 0 0)) := ⟨hc, fun i h1 h2 => by
  have := stS_has.1 h2
  subst this
  exact (fresh_iff.1 hs) h1, .inl rfl, .inl rfl, .inl rfl⟩
 refine AWp.loop (σ := Nat × Store × List Ent) ⟨fun q => [(3, .av (ptr s)), (11, .av (lst 10 untC w.U)), (12, .av (int (w.U.length : Nat))), (13, .av (int (q.1 : Nat)))], fun _ => [],
  fun q st' => st' = q.2.1.un (stS s w (.s (.slice none 0 0)) (.s (.slice none 0 0)) (.s (.slice none 0 0)) p) /\ StandAt q.2.1 s p w q.2.2 (.s (.slice none 0 0)) (.s (.slice none 0 0)) (.s (.slice none 0 0)) /\ q.1 <= w.U.length /\ q.2.2.length <= q.1 /\ (∀ e ∈ q.2.2, e.2.ok) /\ (yf w.U -> ∀ e, e ∈ q.2.2 ↔ ∃ u ∈ w.U.take q.1, u.inn = 0 /\ e = (u.id, u.pos)), fun q => w.U.length - q.1⟩ zc ?_ ?_
 ·refine ⟨(0, F, []), Tv, ⟨e0, h0, Nat.zero_le _, Nat.le_refl _, fun e he => (by cases he), fun _ e => (by simp)⟩, ⟨Tq, Tq, ?_, Tq, Tv⟩, Tv⟩
  rw [<- zi (f := untC) w.U]; exact Tq
 rintro ⟨i, F1, L⟩ st' ⟨rfl, hS, hi, hL, hok, hmem⟩
 dsimp only at hS hi hL hok hmem ⊢
 refine bcd (fun h1 => ?_) (fun h1 => ?_)
 rotate_left
 ·have : i = w.U.length := by omega
  subst this
  rw [List.take_length] at hmem
  exact ret (h F1 s p L _ _ _ hS hL hmem)
 have hlt : i < w.U.length := by omega
 refine ⟨i, rfl, za _ (zh hlt) ?_⟩
 have hn2 := hn w.U[i] (List.getElem_mem hlt)
 refine bceq (fun c1 => ?_) (fun c1 => ?_)
 ·refine ADraw.of_sched zc (by rfl) (by rfl) zuo (by rfl) ?_
  refine za (o := (F1.un (stS s w _ _ _ p)).obj s) _ (un_r (w8 s w _ _ _ p)) ?_
  refine ⟨yoi hS.hc hS.hd (by omega) hok w.U[i].id w.U[i].pos hn2 _ (fun F2 h2 h3 => ⟨Tv, ?_⟩), Tv⟩
  have hlen : (yh L w.U[i].id ++ [(w.U[i].id, w.U[i].pos)]).length <= i + 1 := by
   rw [List.length_append]
   have : (yh L w.U[i].id).length <= L.length := List.length_filter_le _ _
   simp only [List.length_singleton]; omega
  refine in64 (by omega) ?_
  refine ⟨(i + 1, F2, _), ?_, ⟨rfl, ⟨h2, h3, .inl rfl, .inl rfl, .inl rfl⟩, by dsimp only; omega, hlen, fun e he => ?_, fun hr e => ?_⟩, ⟨Tq, Tq, Tq, Tq, Tv⟩, Tv⟩
  ·show w.U.length - (i + 1) < w.U.length - i
   omega
  ·rcases List.mem_append.1 he with he | he
   ·exact hok e (mem_dropId.1 he).1
   ·simp at he; subst he; exact hn2
  ·dsimp only
   rw [List.take_succ_eq_append_getElem hlt, List.mem_append, mem_dropId, hmem hr e]
   constructor
   ·rintro (⟨⟨u, hu, h4⟩, _⟩ | he)
    ·exact ⟨u, List.mem_append.2 (.inl hu), h4⟩
    ·simp at he
     exact ⟨w.U[i], List.mem_append.2 (.inr (by simp)), c1, he⟩
   ·rintro ⟨u, hu, h4, h5⟩
    rcases List.mem_append.1 hu with hu | hu
    ·refine .inl ⟨⟨u, hu, h4, h5⟩, ?_⟩
     obtain ⟨j, hj, rfl⟩ := List.getElem_of_mem hu
     rw [List.length_take] at hj
     rw [List.getElem_take] at h5
     have := zgc hr (a := j) (b := i) (by omega) hlt
     subst h5
     show w.U[j].id ≠ w.U[i].id
     omega
    ·simp at hu
     subst hu
     exact .inr (by simp [h5])
 ·refine in64 (by omega) ?_
  refine ⟨(i + 1, F1, L), ?_, ⟨rfl, hS, by dsimp only; omega, by dsimp only; omega, hok, fun hr e => ?_⟩, ⟨Tq, Tq, Tq, Tq, Tv⟩, Tv⟩
  ·show w.U.length - (i + 1) < w.U.length - i
   omega
  ·dsimp only
   rw [hmem hr e, List.take_succ_eq_append_getElem hlt]
   constructor
   ·rintro ⟨u, hu, h3⟩; exact ⟨u, List.mem_append.2 (.inl hu), h3⟩
   ·rintro ⟨u, hu, h3, h4⟩
    rcases List.mem_append.1 hu with hu | hu
    ·exact ⟨u, hu, h3, h4⟩
    ·simp at hu
     subst hu
     exact absurd h3 c1
end Go.Proofs
namespace Go.Proofs
open Go Go.V
set_option maxRecDepth 4000
theorem zan {g : Gnd} (hg : gndP g) (l : List Bld) (c : Int) : ∃ x y, opV g l c = .lst 1 (x :: y) none := by
 have ha := zr hg
 unfold opV lst
 cases h : rws vg (blL g.T.length (yc g l c)) with
 | nil =>
  have := zi (f := vg) (blL g.T.length (yc g l c))
  rw [h, yo] at this
  simp at this
  omega
 | cons x y => exact ⟨x, y, rfl⟩
theorem zb1 {v : AV} (h : ∃ x y, v = .lst 1 (x :: y) none) : cellsOf v = some [v] /\ v.one = true := by
 obtain ⟨x, y, rfl⟩ := h
 exact ⟨rfl, rfl⟩
theorem zn1 {F : Store} {s p : Nat} {w : Wld} {L : List Ent} {o0 o1 o2 : AV} (hS : StandAt F s p w L o0 o1 o2) (hg : gndP w.G) (hB : w.B.length <= 1000000000000) (hb : ∀ b ∈ w.B, bldP b /\ onP w.G b) (c : Int) (hc : c = 0 \/ c = 1 \/ c = 2) (R : AV -> Store -> Prop)
  (h : ∀ q0 q1 q2, StandAt F s p w L q0 q1 q2 -> R (opV w.G w.B c) (F.un (stS s w q0 q1 q2 p))) : ACalls Tryz.prog 162 [ptr s, int c] (F.un (stS s w o0 o1 o2 p)) R := by
 have ho := un_r (a := F) (w8 s w o0 o1 o2 p)
 obtain ⟨x0, y0, hne0⟩ := zan hg w.B 0
 obtain ⟨x1, y1, hne1⟩ := zan hg w.B 1
 obtain ⟨x2, y2, hne2⟩ := zan hg w.B 2
 rcases hc with rfl | rfl | rfl
 ·rcases hS.h0 with e | e
  ·subst e
   refine ACalls.of_body (c := cfg 35) zc Tryz.func162 (by rfl) (by rfl) (by rfl) (by rfl) ?_
   refine ⟨0, rfl, by decide, ?_⟩
   refine za (o := (F.un (stS s w _ _ _ p)).obj s) _ ho ?_
   refine ADraw.of_sched zc (by rfl) (by rfl) zbq (by rfl) ?_
   refine za (o := (F.un (stS s w _ _ _ p)).obj s) _ ho ?_
   refine za (o := (F.un (stS s w _ _ _ p)).obj s) _ ho ?_
   refine ⟨xt w.G hg w.B hB hb 0 _ _ ⟨Tv, ?_⟩, Tv⟩
   refine ⟨0, rfl, by decide, ?_⟩
   have ho2 := un_r (a := F) (w8 s w (opV w.G w.B 0) o1 o2 p)
   have hc2 := zb1 (zan hg w.B 0)
   refine ⟨?_, Tv⟩
   refine za _ rfl (zv rfl (zy (v := opV w.G w.B 0) rfl rfl rfl rfl ?_))
   refine zj (i := ti60) (v := opV w.G w.B 0) (b := s) (o := 0 + 8 + 0 * ti60.size) (l := stC w _ o1 o2 p) (st2 := F.un (stS s w (opV w.G w.B 0) o1 o2 p)) hc2.1 hc2.2 rfl ho (show 8 + 1 <= 12 by decide) ?_ ?_
   ·rw [zq]
    unfold stS
    rw [zg]
    rfl
   refine ⟨Tv, ?_⟩
   refine ⟨0, rfl, by decide, ?_⟩
   refine za (o := (F.un (stS s w _ _ _ p)).obj s) _ ho2 ?_
   exact ret (h _ _ _ ⟨hS.hc, zkj hS.hd, .inr rfl, hS.h1, hS.h2⟩)
  ·rw [hne0] at e
   subst e
   refine ACalls.of_body (c := cfg 35) zc Tryz.func162 (by rfl) (by rfl) (by rfl) (by rfl) ?_
   refine ⟨0, rfl, by decide, ?_⟩
   refine za (o := (F.un (stS s w _ _ _ p)).obj s) _ ho ?_
   refine fun bb hbb => ?_
   have hbf : bb = false := by
    cases bb with
    | true => cases hbb rfl
    | false => rfl
   subst hbf
   refine ⟨0, rfl, by decide, ?_⟩
   refine za (o := (F.un (stS s w _ _ _ p)).obj s) _ ho ?_
   refine ret ?_
   have := h _ _ _ hS
   rw [hne0] at this
   exact this
 ·rcases hS.h1 with e | e
  ·subst e
   refine ACalls.of_body (c := cfg 35) zc Tryz.func162 (by rfl) (by rfl) (by rfl) (by rfl) ?_
   refine ⟨1, rfl, by decide, ?_⟩
   refine za (o := (F.un (stS s w _ _ _ p)).obj s) _ ho ?_
   refine ADraw.of_sched zc (by rfl) (by rfl) zbq (by rfl) ?_
   refine za (o := (F.un (stS s w _ _ _ p)).obj s) _ ho ?_
   refine za (o := (F.un (stS s w _ _ _ p)).obj s) _ ho ?_
   refine ⟨xt w.G hg w.B hB hb 1 _ _ ⟨Tv, ?_⟩, Tv⟩
   refine ⟨1, rfl, by decide, ?_⟩
   have ho2 := un_r (a := F) (w8 s w o0 (opV w.G w.B 1) o2 p)
   have hc2 := zb1 (zan hg w.B 1)
   refine ⟨?_, Tv⟩
   refine za _ rfl (zv rfl (zy (v := opV w.G w.B 1) rfl rfl rfl rfl ?_))
   refine zj (i := ti60) (v := opV w.G w.B 1) (b := s) (o := 0 + 8 + 1 * ti60.size) (l := stC w o0 _ o2 p) (st2 := F.un (stS s w o0 (opV w.G w.B 1) o2 p)) hc2.1 hc2.2 rfl ho (show 9 + 1 <= 12 by decide) ?_ ?_
   ·rw [zq]
    unfold stS
    rw [zg]
    rfl
   refine ⟨Tv, ?_⟩
   refine ⟨1, rfl, by decide, ?_⟩
   refine za (o := (F.un (stS s w _ _ _ p)).obj s) _ ho2 ?_
   exact ret (h _ _ _ ⟨hS.hc, zkj hS.hd, hS.h0, .inr rfl, hS.h2⟩)
  ·rw [hne1] at e
   subst e
   refine ACalls.of_body (c := cfg 35) zc Tryz.func162 (by rfl) (by rfl) (by rfl) (by rfl) ?_
   refine ⟨1, rfl, by decide, ?_⟩
   refine za (o := (F.un (stS s w _ _ _ p)).obj s) _ ho ?_
   refine fun bb hbb => ?_
   have hbf : bb = false := by
    cases bb with
    | true => cases hbb rfl
    | false => rfl
   subst hbf
   refine ⟨1, rfl, by decide, ?_⟩
   refine za (o := (F.un (stS s w _ _ _ p)).obj s) _ ho ?_
   refine ret ?_
   have := h _ _ _ hS
   rw [hne1] at this
   exact this
 ·rcases hS.h2 with e | e
  ·subst e
   refine ACalls.of_body (c := cfg 35) zc Tryz.func162 (by rfl) (by rfl) (by rfl) (by rfl) ?_
   refine ⟨2, rfl, by decide, ?_⟩
   refine za (o := (F.un (stS s w _ _ _ p)).obj s) _ ho ?_
   refine ADraw.of_sched zc (by rfl) (by rfl) zbq (by rfl) ?_
   refine za (o := (F.un (stS s w _ _ _ p)).obj s) _ ho ?_
   refine za (o := (F.un (stS s w _ _ _ p)).obj s) _ ho ?_
   refine ⟨xt w.G hg w.B hB hb 2 _ _ ⟨Tv, ?_⟩, Tv⟩
   refine ⟨2, rfl, by decide, ?_⟩
   have ho2 := un_r (a := F) (w8 s w o0 o1 (opV w.G w.B 2) p)
   have hc2 := zb1 (zan hg w.B 2)
   refine ⟨?_, Tv⟩
   refine za _ rfl (zv rfl (zy (v := opV w.G w.B 2) rfl rfl rfl rfl ?_))
   refine zj (i := ti60) (v := opV w.G w.B 2) (b := s) (o := 0 + 8 + 2 * ti60.size) (l := stC w o0 o1 _ p) (st2 := F.un (stS s w o0 o1 (opV w.G w.B 2) p)) hc2.1 hc2.2 rfl ho (show 10 + 1 <= 12 by decide) ?_ ?_
   ·rw [zq]
    unfold stS
    rw [zg]
    rfl
   refine ⟨Tv, ?_⟩
   refine ⟨2, rfl, by decide, ?_⟩
   refine za (o := (F.un (stS s w _ _ _ p)).obj s) _ ho2 ?_
   exact ret (h _ _ _ ⟨hS.hc, zkj hS.hd, hS.h0, hS.h1, .inr rfl⟩)
  ·rw [hne2] at e
   subst e
   refine ACalls.of_body (c := cfg 35) zc Tryz.func162 (by rfl) (by rfl) (by rfl) (by rfl) ?_
   refine ⟨2, rfl, by decide, ?_⟩
   refine za (o := (F.un (stS s w _ _ _ p)).obj s) _ ho ?_
   refine fun bb hbb => ?_
   have hbf : bb = false := by
    cases bb with
    | true => cases hbb rfl
    | false => rfl
   subst hbf
   refine ⟨2, rfl, by decide, ?_⟩
   refine za (o := (F.un (stS s w _ _ _ p)).obj s) _ ho ?_
   refine ret ?_
   have := h _ _ _ hS
   rw [hne2] at this
   exact this
end Go.Proofs
namespace Go.Proofs
open Go Go.V
set_option maxRecDepth 4000
theorem zrk {F : Store} {s p : Nat} {w : Wld} {L : List Ent} {o0 o1 o2 : AV} (hS : StandAt F s p w L o0 o1 o2) (hr : yf w.U) (hU : w.U.length <= 1000000) (hn : ∀ u ∈ w.U, u.pos.ok) (hLl : L.length <= w.U.length) (hL : k5 w L) (q : Vc) (hq : q.ok) (r : Int) (hrr : 0 < r /\ r <= 262144) (R : AV -> Store -> Prop)
  (h : ∀ F' us, StandAt F' s p w L o0 o1 o2 -> zoo w q (r + 81920) us -> us.length <= 1000000 -> R (lst 10 untC us) (F'.un (stS s w o0 o1 o2 p))) : ACalls Tryz.prog 138 [ptr s, .agg (vecC q), int r] (F.un (stS s w o0 o1 o2 p)) R := by
 have ho := un_r (a := F) (w8 s w o0 o1 o2 p)
 refine ACalls.of_body (c := cfg 47) zc Tryz.func138 (by rfl) (by rfl) (by rfl) (by rfl) ?_
 refine ADraw.of_sched zc (by rfl) (by rfl) zp6 (by rfl) ?_
 refine za (o := (F.un (stS s w _ _ _ p)).obj s) _ ho ?_
 refine in64 (by omega) ?_
 refine ⟨yjy hS.hc hS.hd (by omega) (zdw hL hn) hq (r := r + 81920) ⟨by omega, by omega⟩ _ (fun F' N v ns g1 g2 g3 g4 g5 g6 => ⟨Tv, ?_⟩), Tv⟩
 have hS' : StandAt F' s p w L o0 o1 o2 := ⟨g1, g3, hS.h0, hS.h1, hS.h2⟩
 have ho' : ((F'.un N).un (stS s w o0 o1 o2 p)).obj s = some (.cells (stC w o0 o1 o2 p)) := un_r (w8 s w o0 o1 o2 p)
 have g4' : Disj (F'.un N) (stS s w o0 o1 o2 p) := disj_un.2 ⟨g3, g4⟩
 have hv : ∃ oa cap, v = .s (.slice oa ns.length cap) /\ ∀ i, i < ns.length -> ∃ b J, oa = some ⟨b, 0, none⟩ /\ ((F'.un N).un (stS s w o0 o1 o2 p)).obj b = some (.cells (ns.map aI ++ J)) := by
  rcases k8 g5 with ⟨rfl, rfl⟩ | ⟨b, cap, J, rfl, hob, _⟩
  ·exact ⟨none, 0, rfl, fun i hi => absurd hi (Nat.not_lt_zero i)⟩
  ·exact ⟨_, cap, rfl, fun i _ => ⟨b, J, rfl, un_l g4' (un_r hob)⟩⟩
 obtain ⟨oa, cap, rfl, hget⟩ := hv
 have hnl : ns.length <= w.U.length := by
  have := List.Nodup.length_le_of_subset (l₂ := L.map (·.1)) (g6.1.imp fun h => by omega) (fun id hid => by
   obtain ⟨e, he, h2, _⟩ := (g6.2 id).1 hid
   exact List.mem_map.2 ⟨e, he, h2⟩)
  rw [List.length_map] at this
  omega
 have hfin : ∀ us : List Unt, us.map (·.id) = ns -> (∀ u ∈ us, u ∈ w.U /\ u.inn = 0) -> R (lst 10 untC us) (F'.un (stS s w o0 o1 o2 p)) := fun us e1 e2 =>
  h F' us hS' (zqi hr hL g6 e1 e2) (by
   have := congrArg List.length e1
   rw [List.length_map] at this
   omega)
 have hback := zmn (S := stS s w o0 o1 o2 p) g2
 generalize (F'.un N).un (stS s w o0 o1 o2 p) = st1 at *
 refine AWp.loop (σ := Nat × AV × List Unt) ⟨fun x => [(0, .av (ptr s)), (6, .av x.2.1), (18, .av (.s (.slice oa ns.length cap))), (19, .av (int (ns.length : Nat))), (20, .av (int (x.1 : Nat)))], fun _ => [],
  fun x st' => x.1 <= ns.length /\ App 10 st1 x.2.1 (rws untC x.2.2) st' /\ x.2.2.map (·.id) = ns.take x.1 /\ ∀ u ∈ x.2.2, u ∈ w.U /\ u.inn = 0, fun x => ns.length - x.1⟩ zc ?_ ?_
 ·exact ⟨(0, _, []), Tv, ⟨Nat.zero_le _, App.start 10 st1, rfl, fun u hu => (by cases hu)⟩, ⟨Tq, Tq, Tq, Tq, Tq, Tv⟩, Tv⟩
 rintro ⟨i, v2, us⟩ st' ⟨hi, ha, hus, hin⟩
 dsimp only at hi ha hus hin ⊢
 refine bcd (fun h1 => ?_) (fun h1 => ?_)
 rotate_left
 ·have : i = ns.length := by omega
  subst this
  rw [List.take_length] at hus
  exact ⟨_, _, AV.le_trans ha.le (Tt), ha.has.trans hback, hfin us hus hin⟩
 have hlt : i < ns.length := by omega
 obtain ⟨b, J, rfl, hob⟩ := hget i hlt
 have hob' : st'.obj b = some (.cells (ns.map aI ++ J)) := by rw [ha.obj]; exact hob
 have hos : st'.obj s = some (.cells (stC w o0 o1 o2 p)) := by rw [ha.obj]; exact ho'
 refine ⟨i, rfl, hlt, ?_⟩
 refine za (o := st'.obj b) _ hob' ?_
 refine za (o := List.head? _) (int ns[i]) (by
  rw [List.head?_drop, show 0 + i * ti3.size = i from by show 0 + i * 1 = i; omega, List.getElem?_append_left (by simpa using hlt), List.getElem?_map, List.getElem?_eq_getElem hlt]; rfl) ?_
 refine za (o := st'.obj s) _ hos ?_
 refine zkv w.U (by omega) hr ns[i] _ _ (fun k hk z hz => ?_)
 obtain ⟨e, he, hid, _⟩ := (g6.2 ns[i]).1 (List.getElem_mem hlt)
 obtain ⟨u, hu, hu0, rfl⟩ := (hL e).1 he
 have hfound : ∃ hk2 : k < w.U.length, w.U[k].id = ns[i] := by
  obtain ⟨j, hj, rfl⟩ := List.getElem_of_mem hu
  have h5 : j >= k := Decidable.byContradiction fun hn2 => by
   have := hk.2.1 j hj (by omega)
   have h6 : (w.U[j]).id = ns[i] := hid
   omega
  have h7 : k < w.U.length := by omega
  refine ⟨h7, ?_⟩
  have h8 := hk.2.2 k h7 (Nat.le_refl _)
  have h6 : (w.U[j]).id = ns[i] := hid
  by_cases e : k = j
  ·subst e; exact h6
  ·have := qj hr (show k < j by omega) hj
   omega
 obtain ⟨hk2, hk3⟩ := hfound
 refine za (o := st'.obj s) _ hos ?_
 refine ⟨k, rfl, za _ (zh hk2) ?_⟩
 refine ⟨by decide, ?_⟩
 have hul : us.length = i := by
  have := congrArg List.length hus
  rw [List.length_map, List.length_take] at this
  omega
 refine ql (ie := ti51) (rows' := [untC w.U[k]]) ha ?_ ?_ ⟨?_, ?_⟩ (fun v3 st3 ha3 => ?_)
 ·rfl
 ·rfl
 ·simp only [zi, List.length_singleton, ti51]; omega
 ·simp only [zi, List.length_singleton]; omega
 refine in64 (by omega) ?_
 have huk : w.U[k] = u := jo hr (List.getElem_mem hk2) hu (by rw [hk3]; exact hid.symm)
 refine ⟨(i + 1, v3, us ++ [w.U[k]]), ?_, ⟨by dsimp only; omega, ?_, ?_, fun u2 hu2 => ?_⟩, ⟨Tq, Tq, Tq, Tq, Tq, Tv⟩, Tv⟩
 ·show ns.length - (i + 1) < ns.length - i
  omega
 ·dsimp only
  unfold rws at ha3 ⊢
  rw [List.map_append]
  exact ha3
 ·dsimp only
  rw [List.map_append, hus, List.take_succ_eq_append_getElem hlt]
  simp [hk3]
 ·rcases List.mem_append.1 hu2 with h9 | h9
  ·exact hin u2 h9
  ·simp at h9
   subst h9
   rw [huk]
   exact ⟨hu, hu0⟩
theorem zn4 {F : Store} {s p : Nat} {w : Wld} {L : List Ent} {o0 o1 o2 : AV} (hS : StandAt F s p w L o0 o1 o2) (hg : gndP w.G) (hB : w.B.length <= 1000000000000) (hb : ∀ b ∈ w.B, bldP b /\ onP w.G b) (hr : yf w.U) (hU : w.U.length <= 1000000) (hn : ∀ u ∈ w.U, u.pos.ok) (hLl : L.length <= w.U.length) (hL : k5 w L)
  (id k : Int) (q : Vc) (hq : q.ok) (R : AV -> Store -> Prop)
  (h : ∀ z F' q0 q1 q2, (z = true ↔ ym w id k q) -> StandAt F' s p w L q0 q1 q2 -> R (V.bool z) (F'.un (stS s w q0 q1 q2 p))) : ACalls Tryz.prog 110 [ptr s, int id, int k, .agg (vecC q)] (F.un (stS s w o0 o1 o2 p)) R := by
 have ho := un_r (a := F) (w8 s w o0 o1 o2 p)
 have hk := zao k
 have hc := zmh k
 refine ACalls.of_body (c := cfg 56) zc Tryz.func110 (by rfl) (by rfl) (by rfl) (by rfl) ?_
 refine ye k _ _ ?_
 refine ADraw.of_sched zc (by rfl) (by rfl) zp9 (by rfl) ?_
 refine za (o := (F.un (stS s w _ _ _ p)).obj s) _ ho ?_
 refine ⟨zn1 hS hg hB hb (kCls k) hc _ (fun a0 a1 a2 hS1 => ⟨?_, ?_⟩), Tv⟩
 ·have ho1 := un_r (a := F) (w8 s w a0 a1 a2 p)
  repeat (first | exact Tv | refine ⟨rfl, ?_⟩ | refine ⟨za (o := (F.un (stS s w a0 a1 a2 p)).obj s) _ ho1 rfl, ?_⟩)
 refine ⟨zmw w.G hg w.B (kCls k) q hq (kRad k) ⟨hk.1, by omega⟩ _ _ (fun z hz => ⟨Tv, ?_⟩), Tv⟩
 refine yk ?_
 refine zd (fun c1 => ?_) (fun c1 => ret (h false _ _ _ _ (by simp only [Bool.false_eq_true, false_iff]; exact fun hh => by have := hz.2 hh.1; rw [this] at c1; cases c1) hS1))
 have hfree := hz.1 c1
 refine zrk hS1 hr hU hn hLl hL q hq (kRad k) ⟨hk.1, by omega⟩ _ (fun F' us hS2 hus hul => ?_)
 have hci := zm7 (id := id) hfree hus
 have no : ¬ ym w id k q -> R (V.bool false) (F'.un (stS s w a0 a1 a2 p)) := fun hh => h false _ _ _ _ (by simp only [Bool.false_eq_true, false_iff]; exact hh) hS2
 refine AWp.loop (σ := Nat) ⟨fun i => [(1, .av (int id)), (7, .bx 7 0), (9, .bx 9 0), (32, .av (lst 10 untC us)), (33, .av (int (us.length : Nat))), (34, .av (int (i : Nat)))], fun _ => [(7, vecC q), (9, zd4 k)],
  fun i st' => st' = F'.un (stS s w a0 a1 a2 p) /\ i <= us.length /\ ∀ j, (hj : j < us.length) -> j < i -> us[j].id ≠ id -> vk q (kRad k) us[j].pos (kRad us[j].kind) = true, fun i => us.length - i⟩ zc ?_ ?_
 ·refine ⟨0, Tv, ⟨rfl, Nat.zero_le _, fun j _ hj => by omega⟩, ⟨Tq, Tq, Tq, Tq, ?_, Tq, Tv⟩, ⟨rfl, rfl, Tv⟩⟩
  rw [<- zi (f := untC) us]; exact Tq
 rintro i st' ⟨rfl, hi, hall⟩
 refine bcd (fun h1 => ?_) (fun h1 => ?_)
 rotate_left
 ·refine ret (h true _ _ _ _ (by
   simp only [true_iff]
   refine hci.2 fun u hu hne => ?_
   obtain ⟨j, hj, rfl⟩ := List.getElem_of_mem hu
   exact hall j hj (by omega) hne) hS2)
 have hlt : i < us.length := by omega
 have hui := (hus us[i]).1 (List.getElem_mem hlt)
 have next : (us[i].id ≠ id -> vk q (kRad k) us[i].pos (kRad us[i].kind) = true) -> ∀ j, (hj : j < us.length) -> j < i + 1 -> us[j].id ≠ id -> vk q (kRad k) us[j].pos (kRad us[j].kind) = true := fun hh j hj hji => by
  by_cases e : j = i
  ·subst e; exact hh
  ·exact hall j hj (by omega)
 refine ⟨i, rfl, za _ (zh hlt) ?_⟩
 refine ADraw.of_sched zc (by rfl) (by rfl) zp8 (by rfl) ?_
 refine bcne (fun c2 => ?_) (fun c2 => ?_)
 ·refine ⟨ye us[i].kind _ _ ⟨(by repeat (first | exact Tv | refine ⟨rfl, ?_⟩ | refine ⟨optR (optR (optR (za _ (zb _ _ _) rfl))), ?_⟩)), ?_⟩, Tv⟩
  have hk2 := zao us[i].kind
  refine ⟨zja q (kRad k) us[i].pos (kRad us[i].kind) hq (hn _ hui.1.1) ⟨hk.1, by omega⟩ ⟨hk2.1, by omega⟩ _ _ ⟨Tv, ?_⟩, Tv⟩
  refine yk ?_
  refine zd (fun c3 => ?_) (fun c3 => ?_)
  ·refine in64 (by omega) ?_
   refine ⟨i + 1, ?_, ⟨rfl, by omega, next fun _ => c3⟩, ⟨Tq, Tq, Tq, Tq, Tq, Tq, Tv⟩, ⟨rfl, rfl, Tv⟩⟩
   show us.length - (i + 1) < us.length - i
   omega
  ·refine ret (no fun hh => ?_)
   have := hci.1 hh us[i] (List.getElem_mem hlt) c2
   rw [this] at c3; cases c3
 ·refine ⟨⟨(by repeat (first | exact Tv | refine ⟨rfl, ?_⟩ | refine ⟨optR (optR (optR (za _ (zb _ _ _) rfl))), ?_⟩)), ?_⟩, Tv⟩
  refine ⟨⟨Tv, ?_⟩, Tv⟩
  refine in64 (by omega) ?_
  refine ⟨i + 1, ?_, ⟨rfl, by omega, next fun hne => absurd c2 hne⟩, ⟨Tq, Tq, Tq, Tq, Tq, Tq, Tv⟩, ⟨rfl, rfl, Tv⟩⟩
  show us.length - (i + 1) < us.length - i
  omega
end Go.Proofs
namespace Go.Proofs
open Go Go.V
set_option maxRecDepth 4000
theorem isT' {R : AV -> Store -> Prop} {b : Bool} {st : Store} (h : R (V.bool b) st) (hb : b = true) : R (V.bool true) st := by rw [hb] at h; exact h
theorem zmv (w : Wld) (b : Bld) (p : Nat) (st : Store) (hp : st.obj p = some (.cells (wldC w))) (R : AV -> Store -> Prop) (h : R (V.bool (decide (b.owner > w.players \/ b.id >= w.next))) st) :
  ACalls Tryz.prog 168 ([.agg (bldC b)] ++ [ptr p]) st R := by
 refine ACalls.of_body (c := cfg 16) zc Tryz.func168 (by rfl) (by rfl) (by rfl) (by rfl) ?_
 refine za _ hp ?_
 refine bcd (fun c1 => ret (isT' h (decide_eq_true (.inl c1)))) (fun c1 => ?_)
 refine za _ hp ?_
 refine ret ?_
 have e : decide (b.owner > w.players \/ b.id >= w.next) = decide (b.id >= w.next) := by
  rw [Bool.eq_iff_iff, decide_eq_true_iff, decide_eq_true_iff]; omega
 rw [e] at h
 exact h
set_option maxRecDepth 10000 in
theorem zs3 (w : Wld) (hw : w.fits) (st : Store) (R : AV -> Store -> Prop) (h : ∀ z : Bool, (z = true ↔ zmm w) -> R (V.bool z) st) : ACalls Tryz.prog 113 [.agg (wldC w)] st R := by
 obtain ⟨hw1, hw2, hw3⟩ := hw
 refine ACalls.of_body (c := cfg 54 [1] []) zc Tryz.func113 (by rfl) (by rfl) (by rfl) (by rfl) ?_
 intro p hp
 have ho : (st.setObj p (.cells (wldC w))).obj p = some (.cells (wldC w)) := zb _ _ _
 have nof : ¬ zmm w -> ∃ r st', AV.le (V.bool false) r /\ (st.setObj p (.cells (wldC w))).Has st' /\ R r st' := fun hn => j8 (Tt) (y8 hp.1) (h false (by simp only [Bool.false_eq_true, false_iff]; exact hn))
 refine za _ ho ?_
 refine bcd (fun c1 => nof fun q => by have := q.1; omega) (fun c1 => ?_)
 refine za _ ho ?_
 refine bcd (fun c2 => nof fun q => by have := q.1; omega) (fun c2 => ?_)
 refine za _ ho ?_
 refine bcd (fun c3 => nof fun q => by have := q.1; omega) (fun c3 => ?_)
 refine za _ ho ?_
 refine bcd (fun c4 => nof fun q => by have := q.1; omega) (fun c4 => ?_)
 refine za _ ho ?_
 refine bcd (fun c5 => nof fun q => by have := q.1; omega) (fun c5 => ?_)
 refine za _ ho ?_
 refine bcd (fun c6 => nof fun q => by have := q.1; omega) (fun c6 => ?_)
 refine za _ ho ?_
 refine zhl w.G hw1 _ _ (fun z hz => ?_)
 refine yk ?_
 refine zd (fun c7 => ?_) (fun c7 => nof fun q => by have := hz.2 q.2.1.1; rw [this] at c7; cases c7)
 have hg := hz.1 c7
 refine za _ ho ?_
 refine za _ ho ?_
 refine zkr w.G hg w.B hw2 _ _ (fun z hz => ?_)
 refine yk ?_
 refine zd (fun c8 => ?_) (fun c8 => nof fun q => by have := hz.2 q.2.1.2.1; rw [this] at c8; cases c8)
 have hb := hz.1 c8
 refine za _ ho ?_
 have hUl : ((rws untC w.U).length : Int) = (w.U.length : Int) := by rw [zi]
 refine bcd (fun c9 => nof fun q => by have := q.2.1.2.2; omega) (fun c9 => ?_)
 refine za _ ho ?_
 refine ze7 w.B hw2 _ _ (fun b => decide (b.owner > w.players \/ b.id >= w.next)) _ (fun b hb R h => zmv w b p _ ho R h) _ ?_
 refine j8 (Tt) (y8 hp.1) (h _ ?_)
 rw [Bool.not_eq_true', List.any_eq_false]
 constructor
 ·intro hh
  refine ⟨by omega, ⟨hg, hb, by omega⟩, fun b hb2 => ?_⟩
  have := hh b hb2
  rw [decide_eq_true_iff] at this
  omega
 ·intro hh b hb2
  have := hh.2.2 b hb2
  rw [decide_eq_true_iff]
  omega
end Go.Proofs
namespace Go.Proofs
open Go Go.V
set_option maxRecDepth 4000
def cntO (cs : List (Int × Int)) (bs : List Nat) (clk : Nat) : AObj := .map (cs.map (entI int)) bs clk
def cntV (m : Nat) : AV := .s (.map (some m))
set_option maxHeartbeats 1000000 in
theorem zob (w : Wld) (hU : w.U.length <= 1000000) (hr : yf w.U) (st : Store) (R : AV -> Store -> Prop) (h : ∀ z : Bool, (z = true ↔ ∀ u ∈ w.U, u.inn ≠ 0 -> zb4 w u) -> R (V.bool z) st) : ACalls Tryz.prog 115 [.agg (wldC w)] st R := by
 refine ACalls.of_body (c := cfg 85) zc Tryz.func115 (by rfl) (by rfl) (by rfl) (by rfl) ?_
 refine vw rfl (fun m hm => ?_)
 have hhas : ∀ x, (st.setObj m x).Has st := fun x => y8 hm.1
 have nof : ∀ x, ¬ (∀ u ∈ w.U, u.inn ≠ 0 -> zb4 w u) -> ∃ r st', AV.le (V.bool false) r /\ (st.setObj m x).Has st' /\ R r st' := fun x hn => j8 (Tt) (hhas x) (h false (by simp only [Bool.false_eq_true, false_iff]; exact hn))
 refine AWp.loop (σ := Nat × List (Int × Int) × List Nat × Nat) ⟨fun x => [(1, .bx 1 0), (3, .av (cntV m)), (11, .av (lst 10 untC w.U)), (12, .av (int (w.U.length : Nat))), (13, .av (int (x.1 : Nat)))], fun _ => [(1, wldC w)],
  fun x st' => x.1 <= w.U.length /\ st' = st.setObj m (cntO x.2.1 x.2.2.1 x.2.2.2) /\ (∀ id, id ≠ 0 -> (getI x.2.1 id).getD 0 = ((inOf (w.U.take x.1) id).length : Int)) /\ zu7 w x.1, fun x => w.U.length - x.1⟩ zc ?_ ?_
 ·refine ⟨(0, [], [], 0), Tv, ⟨Nat.zero_le _, rfl, fun id _ => rfl, fun j _ hj => by omega, fun x _ _ => (zor _).1⟩, ⟨Tq, Tq, Tq, ?_, Tq, Tv⟩, ⟨rfl, Tv⟩⟩
  rw [<- zi (f := untC) w.U]; exact Tq
 rintro ⟨i, cs, bs, clk⟩ st' ⟨hi, rfl, hcnt, hup⟩
 dsimp only at hi hcnt hup ⊢
 refine bcd (fun h1 => ?_) (fun h1 => ?_)
 rotate_left
 ·have : i = w.U.length := by omega
  subst this
  exact j8 (Tt) (hhas _) (h true (by simp only [true_iff]; exact zrz hup))
 have hlt : i < w.U.length := by omega
 have hui := List.getElem_mem hlt
 refine ⟨i, rfl, za _ (zh hlt) ?_⟩
 refine bceq (fun c1 => ?_) (fun c1 => ?_)
 ·refine in64 (by omega) ?_
  refine ⟨(i + 1, cs, bs, clk), ?_, ⟨by dsimp only; omega, rfl, fun id hid => ?_, fun j hj hji hne => ?_, fun x hx hx0 => ?_⟩, ⟨Tq, Tq, Tq, Tq, Tq, Tv⟩, ⟨rfl, Tv⟩⟩
  ·show w.U.length - (i + 1) < w.U.length - i
   omega
  ·dsimp only
   rw [hcnt id hid, zbc hlt, if_neg (by rw [c1]; omega)]; omega
  ·by_cases e : j = i
   ·subst e; exact absurd c1 hne
   ·exact hup.1 j hj (by dsimp only at hji; omega) hne
  ·dsimp only
   rw [zbc hlt, if_neg (by rw [c1]; omega)]
   have := hup.2 x hx hx0
   omega
 refine zkv w.U (by omega) hr w.U[i].inn _ _ (fun k hk z hz => ?_)
 have nou : ∀ x, ¬ zb4 w w.U[i] -> ∃ r st', AV.le (V.bool false) r /\ (st.setObj m x).Has st' /\ R r st' := fun x hn => nof x fun hh => hn (hh _ hui c1)
 have found : zb4 w w.U[i] -> z = true := fun ⟨x, hx, e, _⟩ => by
  obtain ⟨j, hj, rfl⟩ := List.getElem_of_mem hx
  refine hz.2 ?_
  have h5 : j >= k := Decidable.byContradiction fun hn2 => by
   have := hk.2.1 j hj (by omega)
   omega
  have h7 : k < w.U.length := by omega
  refine ⟨h7, ?_⟩
  have h8 := hk.2.2 k h7 (Nat.le_refl _)
  by_cases e2 : k = j
  ·subst e2; exact e
  ·have := qj hr (show k < j by omega) hj
   omega
 refine yk ?_
 refine zd (fun c2 => ?_) (fun c2 => nou _ fun hh => by rw [found hh] at c2; cases c2)
 obtain ⟨hkl, hkid⟩ := hz.1 c2
 have uniq : zb4 w w.U[i] -> (w.U[k].inn = 0 /\ w.U[k].owner = w.U[i].owner) /\ ((inOf w.U w.U[i].inn).length : Int) <= wv w.U[k].kind := fun ⟨x, hx, e, e2, e3, _⟩ => by
  have := jo hr hx (List.getElem_mem hkl) (by rw [e, hkid])
  subst this
  exact ⟨e2, e3⟩
 refine ye w.U[i].kind _ _ ?_
 refine bcd (fun c3 => nou _ fun ⟨x, _, _, _, _, e, _⟩ => by omega) (fun c3 => ?_)
 have hroom : wv w.U[i].kind = 0 := by have := zor w.U[i].kind; omega
 refine yk ?_
 refine zd (fun c4 => ?_) (fun c4 => nou _ fun ⟨x, _, _, _, _, _, e, _⟩ => by rw [e] at c4; cases c4)
 have hpos : w.U[i].pos = (0, 0) := by
  have : (w.U[i].pos.1 == 0 && (w.U[i].pos.2 == 0 && true)) = true := c4
  simp at this
  exact Prod.ext this.1 this.2
 refine bcne (fun c5 => nou _ fun ⟨x, _, _, _, _, _, _, e, _⟩ => c5 e) (fun c5 => ?_)
 refine bcne (fun c6 => nou _ fun ⟨x, _, _, _, _, _, _, _, e⟩ => c6 e) (fun c6 => ?_)
 refine ⟨k, rfl, za _ (zh hkl) ?_⟩
 have hmo : (st.setObj m (cntO cs bs clk)).obj m = some (cntO cs bs clk) := zb _ _ _
 refine y4 rfl (it := ti166) (ie := ti3) (ik := ti3) rfl rfl rfl rfl hmo rfl (qA w.U[k].id) (fun e he => ?_) ?_
 ·obtain ⟨e, _, rfl⟩ := List.mem_map.1 he
  rfl
 rw [zgo]
 have hz0 : w.U[k].id ≠ 0 := by rw [hkid]; exact c1
 have hcv : (Option.map int (getI cs w.U[k].id)).getD (zav ti3) = int ((inOf (w.U.take i) w.U[k].id).length : Int) := by
  rw [<- hcnt _ hz0]
  cases getI cs w.U[k].id <;> rfl
 rw [hcv]
 have hcl : (inOf (w.U.take i) w.U[k].id).length <= 1000000 := by
  have h1 := zov (l := w.U) i w.U[k].id
  have h2 : (inOf w.U w.U[k].id).length <= w.U.length := by unfold inOf; rw [List.length_map]; exact List.length_filter_le _ _
  omega
 refine in64 (by omega) ?_
 refine xu (.inl rfl) rfl (it := ti166) (ik := ti3) rfl rfl rfl (es := cs.map (entI int)) (bs := bs) (clk := clk) (k := int w.U[k].id) (v := int (((inOf (w.U.take i) w.U[k].id).length : Int) + 1)) hmo rfl rfl (qA w.U[k].id) (fun e he => ?_) (fun e1 he hq => ?_) ?_
 ·obtain ⟨e, _, rfl⟩ := List.mem_map.1 he
  rfl
 ·obtain ⟨g1, _, rfl⟩ := List.mem_map.1 he
  have : w.U[k].id = g1.1 := by simpa [qA, entI, int] using hq
  show int g1.1 = _
  rw [this]
 obtain ⟨bs', clk', hput⟩ := zgn int cs bs clk w.U[k].id (((inOf (w.U.take i) w.U[k].id).length : Int) + 1)
 have hput : jz (cs.map (entI int)) bs clk (qA w.U[k].id) (int w.U[k].id) (int (((inOf (w.U.take i) w.U[k].id).length : Int) + 1)) = cntO (putI cs w.U[k].id (((inOf (w.U.take i) w.U[k].id).length : Int) + 1)) bs' clk' := hput
 rw [hput, zg]
 have hmo2 : (st.setObj m (cntO (putI cs w.U[k].id (((inOf (w.U.take i) w.U[k].id).length : Int) + 1)) bs' clk')).obj m = some (cntO (putI cs w.U[k].id (((inOf (w.U.take i) w.U[k].id).length : Int) + 1)) bs' clk') := zb _ _ _
 have hlook : zc5 false (zav ti3) (((putI cs w.U[k].id (((inOf (w.U.take i) w.U[k].id).length : Int) + 1)).map (entI int)).find? (qA w.U[k].id)) = int (((inOf (w.U.take i) w.U[k].id).length : Int) + 1) := by
  rw [zgo, zfd, if_pos rfl]; rfl
 have hsucc := zbc hlt w.U[k].id
 rw [if_pos hkid.symm] at hsucc
 have hcnt2 : ∀ id, id ≠ 0 -> (getI (putI cs w.U[k].id (((inOf (w.U.take i) w.U[k].id).length : Int) + 1)) id).getD 0 = ((inOf (w.U.take (i + 1)) id).length : Int) := fun id hid => by
  rw [zfd]
  by_cases e : id = w.U[k].id
  ·rw [if_pos e, e, hsucc]; rfl
  ·rw [if_neg e, hcnt id hid, zbc hlt, if_neg (by rw [<- hkid]; exact Ne.symm e)]; omega
 generalize putI cs w.U[k].id (((inOf (w.U.take i) w.U[k].id).length : Int) + 1) = cs2 at *
 have over : wv w.U[k].kind < ((inOf (w.U.take i) w.U[k].id).length : Int) + 1 -> ¬ zb4 w w.U[i] := fun hh hp => by
  have h2 := (uniq hp).2
  have h3 := zov (l := w.U) (i + 1) w.U[k].id
  rw [<- hkid] at h2
  omega
 have good : w.U[k].inn = 0 -> w.U[k].owner = w.U[i].owner -> ((inOf (w.U.take i) w.U[k].id).length : Int) + 1 <= wv w.U[k].kind -> zu7 w (i + 1) := fun e1 e2 e3 => by
  refine ⟨fun j hj hji hne => ?_, fun x hx hx0 => ?_⟩
  ·by_cases e : j = i
   ·subst e
    exact ⟨w.U[k], List.getElem_mem hkl, hkid, ⟨e1, e2⟩, hroom, hpos, c5, c6⟩
   ·exact hup.1 j hj (by omega) hne
  ·by_cases e : x.id = w.U[k].id
   ·have := jo hr hx (List.getElem_mem hkl) e
    subst this
    omega
   ·rw [zbc hlt, if_neg (by rw [<- hkid]; exact Ne.symm e)]
    have := hup.2 x hx hx0
    omega
 refine ADraw.of_sched zc (by rfl) (by rfl) zut (by rfl) ?_
 refine bcne (fun c7 => ?_) (fun c7 => ?_)
 ·refine ⟨⟨(by repeat (first | exact Tv | refine ⟨rfl, ?_⟩ | refine ⟨optR (optR (optR (za _ (zb _ _ _) rfl))), ?_⟩)), ⟨⟨(by repeat (first | exact Tv | refine ⟨rfl, ?_⟩ | refine ⟨optR (optR (optR (za _ (zb _ _ _) rfl))), ?_⟩)), nou _ (fun hh => c7 (uniq hh).1.1)⟩, Tv⟩⟩, ⟨⟨(by repeat (first | exact Tv | refine ⟨rfl, ?_⟩ | refine ⟨optR (optR (optR (za _ (zb _ _ _) rfl))), ?_⟩)), ⟨⟨(by repeat (first | exact Tv | refine ⟨rfl, ?_⟩ | refine ⟨optR (optR (optR (za _ (zb _ _ _) rfl))), ?_⟩)), nou _ (fun hh => c7 (uniq hh).1.1)⟩, Tv⟩⟩, Tv⟩⟩
 refine bcne (fun c8 => ?_) (fun c8 => ?_)
 ·refine ⟨⟨(by repeat (first | exact Tv | refine ⟨rfl, ?_⟩ | refine ⟨optR (optR (optR (za _ (zb _ _ _) rfl))), ?_⟩)), ⟨⟨(by repeat (first | exact Tv | refine ⟨rfl, ?_⟩ | refine ⟨optR (optR (optR (za _ (zb _ _ _) rfl))), ?_⟩)), nou _ (fun hh => c8 (uniq hh).1.2)⟩, Tv⟩⟩, ⟨⟨(by repeat (first | exact Tv | refine ⟨rfl, ?_⟩ | refine ⟨optR (optR (optR (za _ (zb _ _ _) rfl))), ?_⟩)), ⟨⟨(by repeat (first | exact Tv | refine ⟨rfl, ?_⟩ | refine ⟨optR (optR (optR (za _ (zb _ _ _) rfl))), ?_⟩)), nou _ (fun hh => c8 (uniq hh).1.2)⟩, Tv⟩⟩, Tv⟩⟩
 refine ⟨?_, ?_, Tv⟩
 ·refine y4 rfl (it := ti166) (ie := ti3) (ik := ti3) rfl rfl rfl rfl hmo2 rfl (qA w.U[k].id) (fun e he => by obtain ⟨e, _, rfl⟩ := List.mem_map.1 he; rfl) ?_
  rw [hlook]
  refine ⟨(by repeat (first | exact Tv | refine ⟨rfl, ?_⟩ | refine ⟨optR (optR (optR (za _ (zb _ _ _) rfl))), ?_⟩)), ?_⟩
  refine ⟨ye w.U[k].kind _ _ ⟨(by repeat (first | exact Tv | refine ⟨rfl, ?_⟩ | refine ⟨optR (optR (optR (za _ (zb _ _ _) rfl))), ?_⟩)), ?_⟩, Tv⟩
  refine bcd (fun c9 => nou _ (over (by omega))) (fun c9 => ?_)
  refine in64 (by omega) ?_
  refine ⟨(i + 1, cs2, bs', clk'), ?_, ⟨by dsimp only; omega, rfl, hcnt2, good c7 c8 (by omega)⟩, ⟨Tq, Tq, Tq, Tq, Tq, Tv⟩, ⟨rfl, Tv⟩⟩
  show w.U.length - (i + 1) < w.U.length - i
  omega
 ·refine ye w.U[k].kind _ _ ⟨(by repeat (first | exact Tv | refine ⟨rfl, ?_⟩ | refine ⟨optR (optR (optR (za _ (zb _ _ _) rfl))), ?_⟩)), ?_⟩
  refine ⟨?_, Tv⟩
  refine y4 rfl (it := ti166) (ie := ti3) (ik := ti3) rfl rfl rfl rfl hmo2 rfl (qA w.U[k].id) (fun e he => by obtain ⟨e, _, rfl⟩ := List.mem_map.1 he; rfl) ?_
  rw [hlook]
  refine ⟨(by repeat (first | exact Tv | refine ⟨rfl, ?_⟩ | refine ⟨optR (optR (optR (za _ (zb _ _ _) rfl))), ?_⟩)), ?_⟩
  refine bcd (fun c9 => nou _ (over (by omega))) (fun c9 => ?_)
  refine in64 (by omega) ?_
  refine ⟨(i + 1, cs2, bs', clk'), ?_, ⟨by dsimp only; omega, rfl, hcnt2, good c7 c8 (by omega)⟩, ⟨Tq, Tq, Tq, Tq, Tq, Tv⟩, ⟨rfl, Tv⟩⟩
  show w.U.length - (i + 1) < w.U.length - i
  omega
end Go.Proofs
namespace Go.Proofs
open Go Go.V
set_option maxRecDepth 4000
def tkO (cs : List (Int × Bool)) (bs : List Nat) (clk : Nat) : AObj := .map (cs.map (entI V.bool)) bs clk
set_option maxHeartbeats 1000000 in
theorem yn1 (w : Wld) (hw : w.fits) (hn : ∀ u ∈ w.U, u.pos.ok) : ACalls Tryz.prog 72 [.agg (wldC w)] Store.empty fun r _ => ∃ z, r = V.bool z /\ (z = true ↔ mayP w) := by
 have no : ¬ mayP w -> ∃ z, V.bool false = V.bool z /\ (z = true ↔ mayP w) := fun hn => ⟨false, rfl, by simp only [Bool.false_eq_true, false_iff]; exact hn⟩
 refine ACalls.of_awp (c := cfg 87) zc Tryz.func72 (by rfl) (by rfl) (by rfl) (by rfl) ?_
 refine AWp.seq (AWp.of_vc zc ?_)
 refine AWp.seq (AWp.of_vc zc ?_)
 refine zs3 w hw _ _ (fun z hz => ?_)
 refine yk ?_
 refine zd (fun c1 => ?_) (fun c1 => ret (no fun q => by have := hz.2 q.1.1; rw [this] at c1; cases c1))
 have hh := hz.1 c1
 have hg := hh.2.1.1
 have hbl := hh.2.1.2.1
 have hBl : w.B.length <= 256 := hbl.1
 have hU : w.U.length <= 4096 := hh.2.1.2.2
 have hbb : ∀ b ∈ w.B, bldP b /\ onP w.G b := fun b hb => ⟨(hbl.2.2.1 b hb).1, (hbl.2.2.1 b hb).2.1⟩
 refine AWp.seq (AWp.of_vc zc ?_)
 refine vw rfl (fun m hm => ?_)
 refine AWp.meetA (σ := List (Int × Bool) × List Nat × Nat) ⟨fun _ => [(1, .bx 1 0), (3, .av (cntV m))], fun _ => [(1, wldC w)], fun x st' => st' = Store.empty.setObj m (tkO x.1 x.2.1 x.2.2) /\ ∀ id, (getI x.1 id).getD false = true ↔ ∃ b ∈ w.B, b.id = id⟩ ?_ ?_
 ·refine AWp.of_vc zc ?_
  refine AWp.loop (σ := Nat × List (Int × Bool) × List Nat × Nat) ⟨fun x => [(1, .bx 1 0), (3, .av (cntV m)), (16, .av (lst 6 bldC w.B)), (17, .av (int (w.B.length : Nat))), (18, .av (int (x.1 : Nat)))], fun _ => [(1, wldC w)],
   fun x st' => x.1 <= w.B.length /\ st' = Store.empty.setObj m (tkO x.2.1 x.2.2.1 x.2.2.2) /\ ∀ id, (getI x.2.1 id).getD false = true ↔ ∃ b ∈ w.B.take x.1, b.id = id, fun x => w.B.length - x.1⟩ zc ?_ ?_
  ·refine ⟨(0, [], [], 0), Tv, ⟨Nat.zero_le _, rfl, fun id => ⟨fun h => (by cases h), fun ⟨b, hb, _⟩ => (by simp at hb)⟩⟩, ⟨Tq, Tq, Tq, ?_, Tq, Tv⟩, ⟨rfl, Tv⟩⟩
   rw [<- zi (f := bldC) w.B]; exact Tq
  rintro ⟨i, cs, bs, clk⟩ st' ⟨hi, rfl, htk⟩
  dsimp only at hi htk ⊢
  refine bcd (fun h1 => ?_) (fun h1 => ?_)
  rotate_left
  ·have : i = w.B.length := by omega
   subst this
   rw [List.take_length] at htk
   exact ⟨(cs, bs, clk), ⟨rfl, htk⟩, ⟨Tq, Tq, Tv⟩, ⟨rfl, Tv⟩⟩
  have hlt : i < w.B.length := by omega
  refine ⟨i, rfl, za _ (zh hlt) ?_⟩
  have hmo : (Store.empty.setObj m (tkO cs bs clk)).obj m = some (tkO cs bs clk) := zb _ _ _
  refine xu (.inl rfl) rfl (it := ti169) (ik := ti3) rfl rfl rfl (es := cs.map (entI V.bool)) (bs := bs) (clk := clk) (k := int w.B[i].id) (v := V.bool true) hmo rfl rfl (qA w.B[i].id) (fun e he => ?_) (fun e1 he hq => ?_) ?_
  ·obtain ⟨e, _, rfl⟩ := List.mem_map.1 he
   rfl
  ·obtain ⟨g1, _, rfl⟩ := List.mem_map.1 he
   have : w.B[i].id = g1.1 := by simpa [qA, entI, int] using hq
   show int g1.1 = _
   rw [this]
  obtain ⟨bs', clk', hput⟩ := zgn V.bool cs bs clk w.B[i].id true
  have hput : jz (cs.map (entI V.bool)) bs clk (qA w.B[i].id) (int w.B[i].id) (V.bool true) = tkO (putI cs w.B[i].id true) bs' clk' := hput
  rw [hput, zg]
  refine in64 (by omega) ?_
  refine ⟨(i + 1, putI cs w.B[i].id true, bs', clk'), ?_, ⟨by dsimp only; omega, rfl, fun id => ?_⟩, ⟨Tq, Tq, Tq, Tq, Tq, Tv⟩, ⟨rfl, Tv⟩⟩
  ·show w.B.length - (i + 1) < w.B.length - i
   omega
  ·dsimp only
   rw [zfd, List.take_succ_eq_append_getElem hlt]
   by_cases e : id = w.B[i].id
   ·rw [if_pos e]
    exact ⟨fun _ => ⟨w.B[i], List.mem_append.2 (.inr (List.mem_singleton.2 rfl)), e.symm⟩, fun _ => rfl⟩
   ·rw [if_neg e, htk id]
    constructor
    ·rintro ⟨b, hb, h3⟩; exact ⟨b, List.mem_append.2 (.inl hb), h3⟩
    ·rintro ⟨b, hb, h3⟩
     rcases List.mem_append.1 hb with hb | hb
     ·exact ⟨b, hb, h3⟩
     ·simp at hb; subst hb; exact absurd h3.symm e
 rintro ⟨cs, bs, clk⟩ st' ⟨rfl, htk⟩
 dsimp only at htk ⊢
 have hmo : (Store.empty.setObj m (tkO cs bs clk)).obj m = some (tkO cs bs clk) := zb _ _ _
 have hhas : (Store.empty.setObj m (tkO cs bs clk)).Has Store.empty := y8 rfl
 refine AWp.meetA (σ := Unit) ⟨fun _ => [(1, .bx 1 0)], fun _ => [(1, wldC w)], fun _ st' => st' = Store.empty.setObj m (tkO cs bs clk) /\ zlc w w.U.length⟩ ?_ ?_
 ·refine AWp.of_vc zc ?_
  refine AWp.loop (σ := Nat) ⟨fun i => [(1, .bx 1 0), (3, .av (cntV m)), (27, .av (lst 10 untC w.U)), (28, .av (int (w.U.length : Nat))), (29, .av (int (i : Nat)))], fun _ => [(1, wldC w)],
   fun i st' => i <= w.U.length /\ st' = Store.empty.setObj m (tkO cs bs clk) /\ zlc w i, fun i => w.U.length - i⟩ zc ?_ ?_
  ·refine ⟨0, Tv, ⟨Nat.zero_le _, rfl, fun j _ hj => by omega⟩, ⟨Tq, Tq, Tq, ?_, Tq, Tv⟩, ⟨rfl, Tv⟩⟩
   rw [<- zi (f := untC) w.U]; exact Tq
  rintro i st' ⟨hi, rfl, hup⟩
  refine bcd (fun h1 => ?_) (fun h1 => ?_)
  rotate_left
  ·have : i = w.U.length := by omega
   subst this
   exact ⟨(), ⟨rfl, hup⟩, ⟨Tq, Tv⟩, ⟨rfl, Tv⟩⟩
  have hlt : i < w.U.length := by omega
  have nou : ¬ ((untP w w.U[i] /\ ∀ b ∈ w.B, b.id ≠ w.U[i].id) /\ (0 < i -> (w.U[i - 1]'(by omega)).id < w.U[i].id)) -> ∃ z, V.bool false = V.bool z /\ (z = true ↔ mayP w) := fun hq => no fun q => hq (zpv q.1.2 (i + 1) i hlt (by omega))
  refine ⟨i, rfl, za _ (zh hlt) ?_⟩
  refine ADraw.of_sched zc (by rfl) (by rfl) yf3 (by rfl) ?_
  refine ⟨ztp w w.U[i] hg _ _ (fun z hz => ⟨Tv, ?_⟩), Tv⟩
  refine yk ?_
  refine zd (fun c2 => ?_) (fun c2 => ⟨⟨Tv, ret (nou fun q => by have := hz.2 q.1.1; rw [this] at c2; cases c2)⟩, Tv⟩)
  have hunt := hz.1 c2
  refine ⟨y4 rfl (it := ti169) (ie := ti4) (ik := ti3) rfl rfl rfl rfl hmo rfl (qA w.U[i].id) (fun e he => by obtain ⟨e, _, rfl⟩ := List.mem_map.1 he; rfl) ?_, Tv⟩
  rw [zgo]
  have hcv : (Option.map V.bool (getI cs w.U[i].id)).getD (zav ti4) = V.bool ((getI cs w.U[i].id).getD false) := by
   cases getI cs w.U[i].id <;> rfl
  rw [hcv]
  have htki := htk w.U[i].id
  generalize (getI cs w.U[i].id).getD false = tk at htki
  refine ⟨Tv, ?_⟩
  refine zd (fun c3 => ret (nou fun q => by obtain ⟨b, hb, e⟩ := htki.1 c3; exact q.1.2 b hb e)) (fun c3 => ?_)
  have hnb : ∀ b ∈ w.B, b.id ≠ w.U[i].id := fun b hb e => by have := htki.2 ⟨b, hb, e⟩; rw [this] at c3; cases c3
  have next : (0 < i -> (w.U[i - 1]'(by omega)).id < w.U[i].id) -> zlc w (i + 1) := fun hq j hj hji => by
   by_cases e : j = i
   ·subst e; exact ⟨⟨hunt, hnb⟩, hq⟩
   ·exact hup j hj (by omega)
  have fin : zlc w (i + 1) -> yi ((i : Int) + 1) /\ (i + 1 <= w.U.length /\ Store.empty.setObj m (tkO cs bs clk) = Store.empty.setObj m (tkO cs bs clk) /\ zlc w (i + 1)) := fun hq => ⟨⟨by omega, by omega⟩, by omega, rfl, hq⟩
  refine bcd (fun c4 => ?_) (fun c4 => ?_)
  ·have hi0 : 0 < i := by omega
   refine in64 (by omega) ?_
   refine ⟨i - 1, by omega, za _ (zh (show i - 1 < w.U.length by omega)) ?_⟩
   refine bcd (fun c5 => ret (nou fun q => by have := q.2 hi0; omega)) (fun c5 => ?_)
   obtain ⟨f1, f2⟩ := fin (next fun _ => by omega)
   refine ⟨f1, ?_⟩
   refine ⟨i + 1, ?_, f2, ⟨Tq, Tq, Tq, Tq, Tq, Tv⟩, ⟨rfl, Tv⟩⟩
   show w.U.length - (i + 1) < w.U.length - i
   omega
  ·obtain ⟨f1, f2⟩ := fin (next fun h0 => absurd h0 (by omega))
   refine ⟨f1, ?_⟩
   refine ⟨i + 1, ?_, f2, ⟨Tq, Tq, Tq, Tq, Tq, Tv⟩, ⟨rfl, Tv⟩⟩
   show w.U.length - (i + 1) < w.U.length - i
   omega
 rintro _ _ ⟨rfl, hall⟩
 have hok := zlb hall
 refine AWp.leS hhas.toLe ?_
 refine AWp.seq (AWp.of_vc zc ?_)
 refine zvu w (by omega) hn _ (fun F s p L o0 o1 o2 hS hLl hL => ?_)
 have hLm := hL hok.1
 refine AWp.meetA (σ := Unit) ⟨fun _ => [(1, .bx 1 0)], fun _ => [(1, wldC w)], fun _ st' => ∀ u ∈ w.U, u.inn = 0 -> ym w u.id u.kind u.pos⟩ ?_ ?_
 ·refine AWp.of_vc zc ?_
  refine AWp.loop (σ := Nat × Store × AV × AV × AV) ⟨fun x => [(1, .bx 1 0), (8, .av (ptr s)), (64, .av (lst 10 untC w.U)), (65, .av (int (w.U.length : Nat))), (66, .av (int (x.1 : Nat)))], fun _ => [(1, wldC w)],
   fun x st' => x.1 <= w.U.length /\ st' = x.2.1.un (stS s w x.2.2.1 x.2.2.2.1 x.2.2.2.2 p) /\ StandAt x.2.1 s p w L x.2.2.1 x.2.2.2.1 x.2.2.2.2 /\ ∀ j, (hj : j < w.U.length) -> j < x.1 -> w.U[j].inn = 0 -> ym w w.U[j].id w.U[j].kind w.U[j].pos, fun x => w.U.length - x.1⟩ zc ?_ ?_
  ·refine ⟨(0, F, o0, o1, o2), Tv, ⟨Nat.zero_le _, rfl, hS, fun j _ hj => by omega⟩, ⟨Tq, Tq, Tq, ?_, Tq, Tv⟩, ⟨rfl, Tv⟩⟩
   rw [<- zi (f := untC) w.U]; exact Tq
  rintro ⟨i, F1, a0, a1, a2⟩ st' ⟨hi, rfl, hS1, hcl⟩
  dsimp only at hi hS1 hcl ⊢
  refine bcd (fun h1 => ?_) (fun h1 => ?_)
  rotate_left
  ·have : i = w.U.length := by omega
   subst this
   refine ⟨(), fun u hu h0 => ?_, ⟨Tq, Tv⟩, ⟨rfl, Tv⟩⟩
   obtain ⟨j, hj, rfl⟩ := List.getElem_of_mem hu
   exact hcl j hj hj h0
  have hlt : i < w.U.length := by omega
  have hui := List.getElem_mem hlt
  have next : (w.U[i].inn = 0 -> ym w w.U[i].id w.U[i].kind w.U[i].pos) -> ∀ j, (hj : j < w.U.length) -> j < i + 1 -> w.U[j].inn = 0 -> ym w w.U[j].id w.U[j].kind w.U[j].pos := fun hq j hj hji => by
   by_cases e : j = i
   ·subst e; exact hq
   ·exact hcl j hj (by omega)
  refine ⟨i, rfl, za _ (zh hlt) ?_⟩
  refine bceq (fun c2 => ?_) (fun c2 => ?_)
  ·refine zn4 hS1 hg (by omega) hbb hok.1 (by omega) hn hLl hLm w.U[i].id w.U[i].kind w.U[i].pos (hn _ hui) _ (fun z F2 b0 b1 b2 hz hS2 => ?_)
   refine yk ?_
   refine zd (fun c3 => ?_) (fun c3 => ret (no fun q => by have := hz.2 (q.2.1 _ hui c2); rw [this] at c3; cases c3))
   refine in64 (by omega) ?_
   refine ⟨(i + 1, F2, b0, b1, b2), ?_, ⟨by dsimp only; omega, rfl, hS2, next fun _ => hz.1 c3⟩, ⟨Tq, Tq, Tq, Tq, Tq, Tv⟩, ⟨rfl, Tv⟩⟩
   show w.U.length - (i + 1) < w.U.length - i
   omega
  ·refine in64 (by omega) ?_
   refine ⟨(i + 1, F1, a0, a1, a2), ?_, ⟨by dsimp only; omega, rfl, hS1, next fun h0 => absurd h0 c2⟩, ⟨Tq, Tq, Tq, Tq, Tq, Tv⟩, ⟨rfl, Tv⟩⟩
   show w.U.length - (i + 1) < w.U.length - i
   omega
 rintro _ st' hclear
 refine AWp.of_vc zc ?_
 refine zob w (by omega) hok.1 _ _ (fun z hz => ?_)
 refine ret ⟨z, rfl, ?_⟩
 rw [hz]
 exact ⟨fun hq => ⟨⟨hh, hok⟩, hclear, hq⟩, fun hq => hq.2.2⟩
/-- What tells one thing, in no store, tells it in any. -/
theorem ypp {f : FuncId} {xs : List AV} {Q : AV -> Prop} (key : ACalls Tryz.prog f xs Store.empty fun r _ => Q r) (st : Store) (R : AV -> Store -> Prop) (h : ∀ r, Q r -> R r st) : ACalls Tryz.prog f xs st R := by
 rw [<- xf st]
 refine ACalls.post (ACalls.frame (R' := fun r st' => Q r /\ ∃ a', st' = a'.un st) (fun b hb => ?_) key fun r a' h1 _ => ⟨h1, a', rfl⟩) (Store.Le.refl _) fun r st' ⟨h1, a', h2⟩ => ⟨r, st, Tt, h2 ▸ zt6, ?_⟩
 ·exact (hb.elim (fun h => h rfl) (fun h => h rfl) : False).elim
 ·exact h r h1
theorem yie (w : Wld) (hw : w.fits) (hn : ∀ u ∈ w.U, u.pos.ok) (st : Store) (R : AV -> Store -> Prop) (h : ∀ z : Bool, (z = true ↔ mayP w) -> R (V.bool z) st) : ACalls Tryz.prog 72 [.agg (wldC w)] st R :=
 ypp (yn1 w hw hn) st R fun r ⟨z, e, hz⟩ => e ▸ h z hz
end Go.Proofs
