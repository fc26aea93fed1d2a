/- The ground on which laws of thronglaw23 are proved: contracts of functions and plain lemmas; no condition beyond the row's own. -/
import Derived.Test.YtlmechfgnfepoaaGreatVH
import Derived.Test.YtlmechfgnfepoaaGreatSF
import Derived.Test.YtlmechfgnfepoaaGreatVG
import Derived.Test.YtlmechfgnfepoaaGreatSG
import Derived.Test.YtlmechfgnfepoaaGreatVD
import Derived.Test.YtlmechfgnfepoaaGreatSC
set_option linter.unusedSimpArgs false
set_option linter.unusedVariables false
namespace Go.Proofs
open Go Go.V
theorem vt {i : TI} {cells row rest : List AV} {K : LV → Prop} (ha : xf i.ty = true) (hs : i.size = row.length) (hc : cells = row ++ rest) (h : K (.av (.agg row))) : zjv i cells K := by
 subst hc
 unfold zjv
 rw [ha, cond_true, hs]
 have : Nat.ble row.length (row ++ rest).length = true := by simp
 rw [this, cond_true]
 refine xu ?_
 rw [List.take_append_of_le_length (Nat.le_refl _), List.take_length]
 exact h
theorem vr {α : Type} {k : Nat} {f : α → List AV} (hf : ∀ x, (f x).length = k) {l : List α} {L : List AV} {i : Nat} (hi : i < l.length) : List.drop (0 + i * k) ((rws f l).flatten ++ L) = f l[i] ++ ((rws f (l.drop (i + 1))).flatten ++ L) := by
 have h1 : (rws f (l.take i)).flatten.length = i * k := by rw [zu hf, List.length_take, Nat.min_eq_left (by omega)]
 rw [Nat.zero_add, zdh hi, List.append_assoc, ← h1, List.drop_left, List.append_assoc]
theorem yew {S : Store} (R : AV → Store → Prop) (h : ∀ F p, CellsOf F p [] → Disj F S → R (ptr p) (F.un S)) : ACalls Tryz.prog 107 [] S R := by
 have := ACalls.frame (a := Store.empty) (g := S) (fun i h1 => by rcases h1 with h1 | h1 <;> exact absurd rfl h1) (zbf (fun r a' => ∃ p, r = ptr p ∧ CellsOf a' p []) (fun a p h => ⟨p, rfl, h⟩)) (R' := R) (fun r a' ⟨p, e, hc⟩ hd => e ▸ h a' p hc hd)
 rwa [yx] at this
/-- A stand whose units are cells of an object. -/
def svC (w : Wld) (v o0 o1 o2 : AV) (p : Nat) : List AV := wldV w v ++ [o0, o1, o2, ptr p]
def svS (G : Store) (s : Nat) (w : Wld) (v o0 o1 o2 : AV) (p : Nat) : Store := G.setObj s (.cells (svC w v o0 o1 o2 p))
structure StandR (F G : Store) (s p : Nat) (w : Wld) (v : AV) (L : List Ent) (o0 o1 o2 : AV) : Prop where
 hc : CellsOf F p L
 hd : Disj F (svS G s w v o0 o1 o2 p)
 hs : G.obj s = none
 hu : RowsQ 10 untC G v w.U
 h0 : opOK w 0 o0
 h1 : opOK w 1 o1
 h2 : opOK w 2 o2
theorem qn (G : Store) (s : Nat) (w : Wld) (v o0 o1 o2 : AV) (p : Nat) : (svS G s w v o0 o1 o2 p).obj s = some (.cells (svC w v o0 o1 o2 p)) := zb _ _ _
theorem kj {G : Store} {s : Nat} {w : Wld} {v o0 o1 o2 : AV} {p : Nat} {u : AV} {l : List Unt} (hs : G.obj s = none) (h : RowsQ 10 untC G u l) : RowsQ 10 untC (svS G s w v o0 o1 o2 p) u l := by
 rcases h with (h | ⟨b, cap, L, h1, h2, h3⟩) | h
 ·exact .inl (.inl h)
 ·refine .inl (.inr ⟨b, cap, L, h1, ?_, h3⟩)
  have : b ≠ s := fun e => by subst e; rw [hs] at h2; cases h2
  show (G.setObj s _).obj b = _
  rw [zg this]
  exact h2
 ·exact .inr h
theorem svS_has {G : Store} {s : Nat} {w : Wld} {v o0 o1 o2 : AV} {p i : Nat} : (svS G s w v o0 o1 o2 p).has i ↔ i = s ∨ G.has i := by
 unfold svS Store.has
 by_cases hi : i = s
 ·subst hi
  simp [zb]
 ·rw [zg hi]
  simp [hi, Store.setObj]
theorem zgm {F G : Store} {s : Nat} {w w' : Wld} {v o0 o1 o2 v' q0 q1 q2 : AV} {p : Nat} (h : Disj F (svS G s w v o0 o1 o2 p)) : Disj F (svS G s w' v' q0 q1 q2 p) := fun i h1 h2 => h i h1 (svS_has.2 (svS_has.1 h2))
theorem zmw (w : Wld) (v : AV) (G : Store) (hu : RowsQ 10 untC G v w.U) (hU : w.U.length ≤ 1000000) (hn : ∀ u ∈ w.U, u.pos.ok) (R : AV → Store → Prop)
  (h : ∀ F s p L o0 o1 o2, Fresh G s → StandR F G s p w v L o0 o1 o2 → L.length ≤ w.U.length → (z7 w.U → ∀ e, e ∈ L ↔ ∃ u ∈ w.U, u.inn = 0 ∧ e = (u.id, u.pos)) → R (ptr s) (F.un (svS G s w v o0 o1 o2 p))) : ACalls Tryz.prog 72 [.agg (wldV w v)] G R := by
 obtain ⟨oa, cap, hv, hget⟩ := hu.form
 subst hv
 refine ACalls.of_body (c := cfg 31 [9] []) zd Tryz.func72 (by rfl) (by rfl) (by rfl) (by rfl) ?_
 refine ADraw.of_sched zd (by rfl) (by rfl) zoi (by rfl) ?_
 refine ⟨yew _ (fun F p hc hdF => ⟨(by repeat (first | exact trivial | refine ⟨rfl, ?_⟩ | refine ⟨optR (optR (optR (za _ (zb _ _ _) rfl))), ?_⟩)), ?_⟩), trivial⟩
 refine ⟨fun s hs => ⟨trivial, ?_⟩, trivial⟩
 refine ⟨⟨trivial, ?_⟩, trivial⟩
 have hs1 : ¬ F.has s ∧ ¬ G.has s := by
  have := fresh_iff.1 hs
  exact ⟨fun h => this (un_has.2 (.inl h)), fun h => this (un_has.2 (.inr h))⟩
 have hsG : G.obj s = none := (vx hs1.2).1
 have e0 : (F.un G).setObj s (.cells (svC w (.s (.slice oa w.U.length cap)) (.s (.slice none 0 0)) (.s (.slice none 0 0)) (.s (.slice none 0 0)) p)) = F.un (svS G s w (.s (.slice oa w.U.length cap)) (.s (.slice none 0 0)) (.s (.slice none 0 0)) (.s (.slice none 0 0)) p) := by
  exact zo F G s _
 have h0 : StandR F G s p w (.s (.slice oa w.U.length cap)) [] (.s (.slice none 0 0)) (.s (.slice none 0 0)) (.s (.slice none 0 0)) := ⟨hc, fun i h1 h2 => by
  rcases svS_has.1 h2 with rfl | h2
  ·exact hs1.1 h1
  ·exact hdF i h1 h2, hsG, hu, .inl rfl, .inl rfl, .inl rfl⟩
 have hsf : Fresh G s := fresh_iff.2 hs1.2
 refine AWp.loop (σ := Nat × Store × List Ent) ⟨fun q => [(3, .av (ptr s)), (11, .av (.s (.slice oa w.U.length cap))), (12, .av (int (w.U.length : Nat))), (13, .av (int (q.1 : Nat)))], fun _ => [],
  fun q st' => st' = q.2.1.un (svS G s w (.s (.slice oa w.U.length cap)) (.s (.slice none 0 0)) (.s (.slice none 0 0)) (.s (.slice none 0 0)) p) ∧ StandR q.2.1 G s p w (.s (.slice oa w.U.length cap)) q.2.2 (.s (.slice none 0 0)) (.s (.slice none 0 0)) (.s (.slice none 0 0)) ∧ q.1 ≤ w.U.length ∧ q.2.2.length ≤ q.1 ∧ (∀ e ∈ q.2.2, e.2.ok) ∧ (z7 w.U → ∀ e, e ∈ q.2.2 ↔ ∃ u ∈ w.U.take q.1, u.inn = 0 ∧ e = (u.id, u.pos)), fun q => w.U.length - q.1⟩ zd ?_ ?_
 ·exact ⟨(0, F, []), trivial, ⟨e0, h0, Nat.zero_le _, Nat.le_refl _, fun e he => (by cases he), fun _ e => (by simp)⟩, ⟨lr_ _, lr_ _, lr_ _, lr_ _, trivial⟩, trivial⟩
 rintro ⟨i, F1, L⟩ st' ⟨rfl, hS, hi, hL, hok, hmem⟩
 dsimp only at hS hi hL hok hmem ⊢
 refine bcd (fun h1 => ?_) (fun h1 => ?_)
 rotate_left
 ·have : i = w.U.length := by omega
  subst this
  rw [List.take_length] at hmem
  exact ret (h F1 s p L _ _ _ hsf hS hL hmem)
 have hlt : i < w.U.length := by omega
 obtain ⟨b, J, rfl, hob0⟩ := hget i hlt
 have hbs : b ≠ s := fun e => by subst e; rw [hsG] at hob0; cases hob0
 have hob : (F1.un (svS G s w (.s (.slice (some ⟨b, 0, none⟩) w.U.length cap)) (.s (.slice none 0 0)) (.s (.slice none 0 0)) (.s (.slice none 0 0)) p)).obj b = some (.cells ((rws untC w.U).flatten ++ J)) := un_r (by
  show (G.setObj s _).obj b = _
  rw [zg hbs]; exact hob0)
 refine ⟨i, rfl, hlt, ?_⟩
 refine za (o := (F1.un (svS G s w _ _ _ _ p)).obj b) _ hob ?_
 refine vt (i := ti50) (row := untC w.U[i]) rfl rfl (vr qb hlt) ?_
 have hn2 := hn w.U[i] (List.getElem_mem hlt)
 refine bceq (fun c1 => ?_) (fun c1 => ?_)
 ·refine ADraw.of_sched zd (by rfl) (by rfl) zoh (by rfl) ?_
  refine za (o := (F1.un (svS G s w _ _ _ _ p)).obj s) _ (un_r (qn G s w _ _ _ _ p)) ?_
  refine ⟨ycv hS.hc hS.hd (by omega) hok w.U[i].id w.U[i].pos hn2 _ (fun F2 h2 h3 => ⟨trivial, ?_⟩), trivial⟩
  have hlen : (ya L w.U[i].id ++ [(w.U[i].id, w.U[i].pos)]).length ≤ i + 1 := by
   rw [List.length_append]
   have : (ya L w.U[i].id).length ≤ L.length := List.length_filter_le _ _
   simp only [List.length_singleton]; omega
  refine in64 (by omega) ?_
  refine ⟨(i + 1, F2, _), ?_, ⟨rfl, ⟨h2, h3, hsG, hu, .inl rfl, .inl rfl, .inl rfl⟩, by dsimp only; omega, hlen, fun e he => ?_, fun hr e => ?_⟩, ⟨lr_ _, lr_ _, lr_ _, lr_ _, trivial⟩, trivial⟩
  ·show w.U.length - (i + 1) < w.U.length - i
   omega
  ·rcases List.mem_append.1 he with he | he
   ·exact hok e (mem_dropId.1 he).1
   ·simp at he; subst he; exact hn2
  ·dsimp only
   rw [List.take_succ_eq_append_getElem hlt, List.mem_append, mem_dropId, hmem hr e]
   constructor
   ·rintro (⟨⟨u, hu, h4⟩, _⟩ | he)
    ·exact ⟨u, List.mem_append.2 (.inl hu), h4⟩
    ·simp at he
     exact ⟨w.U[i], List.mem_append.2 (.inr (by simp)), c1, he⟩
   ·rintro ⟨u, hu, h4, h5⟩
    rcases List.mem_append.1 hu with hu | hu
    ·refine .inl ⟨⟨u, hu, h4, h5⟩, ?_⟩
     obtain ⟨j, hj, rfl⟩ := List.getElem_of_mem hu
     rw [List.length_take] at hj
     rw [List.getElem_take] at h5
     have := za8 hr (a := j) (b := i) (by omega) hlt
     subst h5
     show w.U[j].id ≠ w.U[i].id
     omega
    ·simp at hu
     subst hu
     exact .inr (by simp [h5])
 ·refine in64 (by omega) ?_
  refine ⟨(i + 1, F1, L), ?_, ⟨rfl, hS, by dsimp only; omega, by dsimp only; omega, hok, fun hr e => ?_⟩, ⟨lr_ _, lr_ _, lr_ _, lr_ _, trivial⟩, trivial⟩
  ·show w.U.length - (i + 1) < w.U.length - i
   omega
  ·dsimp only
   rw [hmem hr e, List.take_succ_eq_append_getElem hlt]
   constructor
   ·rintro ⟨u, hu, h3⟩; exact ⟨u, List.mem_append.2 (.inl hu), h3⟩
   ·rintro ⟨u, hu, h3, h4⟩
    rcases List.mem_append.1 hu with hu | hu
    ·exact ⟨u, hu, h3, h4⟩
    ·simp at hu
     subst hu
     exact absurd h3 c1
end Go.Proofs
namespace Go.Proofs
open Go Go.V
theorem zhb {F : Store} {s p : Nat} {G : Store} {w : Wld} {v : AV} {L : List Ent} {o0 o1 o2 : AV} (hS : StandR F G s p w v L o0 o1 o2) (hg : gndP w.G) (hB : w.B.length ≤ 1000000000000) (hb : ∀ b ∈ w.B, bldP b ∧ onP w.G b) (c : Int) (hc : c = 0 ∨ c = 1 ∨ c = 2) (R : AV → Store → Prop)
  (h : ∀ q0 q1 q2, StandR F G s p w v L q0 q1 q2 → R (opV w.G w.B c) (F.un (svS G s w v q0 q1 q2 p))) : ACalls Tryz.prog 111 [ptr s, int c] (F.un (svS G s w v o0 o1 o2 p)) R := by
 have ho := un_r (a := F) (qn G s w v o0 o1 o2 p)
 obtain ⟨x0, y0, hne0⟩ := vd hg w.B 0
 obtain ⟨x1, y1, hne1⟩ := vd hg w.B 1
 obtain ⟨x2, y2, hne2⟩ := vd hg w.B 2
 rcases hc with rfl | rfl | rfl
 ·rcases hS.h0 with e | e
  ·subst e
   refine ACalls.of_body (c := cfg 35) zd Tryz.func111 (by rfl) (by rfl) (by rfl) (by rfl) ?_
   refine ⟨0, rfl, by decide, ?_⟩
   refine za (o := (F.un (svS G s w v _ _ _ p)).obj s) _ ho ?_
   refine ADraw.of_sched zd (by rfl) (by rfl) wj (by rfl) ?_
   refine za (o := (F.un (svS G s w v _ _ _ p)).obj s) _ ho ?_
   refine za (o := (F.un (svS G s w v _ _ _ p)).obj s) _ ho ?_
   refine ⟨qy w.G hg w.B hB hb 0 _ _ ⟨trivial, ?_⟩, trivial⟩
   refine ⟨0, rfl, by decide, ?_⟩
   have ho2 := un_r (a := F) (qn G s w v (opV w.G w.B 0) o1 o2 p)
   have hc2 := ww (vd hg w.B 0)
   refine ⟨?_, trivial⟩
   refine za _ rfl (y3 rfl (qj (v := opV w.G w.B 0) rfl rfl rfl rfl ?_))
   refine zv (i := ti108) (v := opV w.G w.B 0) (b := s) (o := 0 + 8 + 0 * ti108.size) (l := svC w v _ o1 o2 p) (st2 := F.un (svS G s w v (opV w.G w.B 0) o1 o2 p)) hc2.1 hc2.2 rfl ho (show 8 + 1 ≤ 12 by decide) ?_ ?_
   ·rw [zo]
    unfold svS
    rw [zk]
    rfl
   refine ⟨trivial, ?_⟩
   refine ⟨0, rfl, by decide, ?_⟩
   refine za (o := (F.un (svS G s w v _ _ _ p)).obj s) _ ho2 ?_
   exact ret (h _ _ _ ⟨hS.hc, zgm hS.hd, hS.hs, hS.hu, .inr rfl, hS.h1, hS.h2⟩)
  ·rw [hne0] at e
   subst e
   refine ACalls.of_body (c := cfg 35) zd Tryz.func111 (by rfl) (by rfl) (by rfl) (by rfl) ?_
   refine ⟨0, rfl, by decide, ?_⟩
   refine za (o := (F.un (svS G s w v _ _ _ p)).obj s) _ ho ?_
   refine fun bb hbb => ?_
   have hbf : bb = false := by
    cases bb with
    | true => cases hbb rfl
    | false => rfl
   subst hbf
   refine ⟨0, rfl, by decide, ?_⟩
   refine za (o := (F.un (svS G s w v _ _ _ p)).obj s) _ ho ?_
   refine ret ?_
   have := h _ _ _ hS
   rw [hne0] at this
   exact this
 ·rcases hS.h1 with e | e
  ·subst e
   refine ACalls.of_body (c := cfg 35) zd Tryz.func111 (by rfl) (by rfl) (by rfl) (by rfl) ?_
   refine ⟨1, rfl, by decide, ?_⟩
   refine za (o := (F.un (svS G s w v _ _ _ p)).obj s) _ ho ?_
   refine ADraw.of_sched zd (by rfl) (by rfl) wj (by rfl) ?_
   refine za (o := (F.un (svS G s w v _ _ _ p)).obj s) _ ho ?_
   refine za (o := (F.un (svS G s w v _ _ _ p)).obj s) _ ho ?_
   refine ⟨qy w.G hg w.B hB hb 1 _ _ ⟨trivial, ?_⟩, trivial⟩
   refine ⟨1, rfl, by decide, ?_⟩
   have ho2 := un_r (a := F) (qn G s w v o0 (opV w.G w.B 1) o2 p)
   have hc2 := ww (vd hg w.B 1)
   refine ⟨?_, trivial⟩
   refine za _ rfl (y3 rfl (qj (v := opV w.G w.B 1) rfl rfl rfl rfl ?_))
   refine zv (i := ti108) (v := opV w.G w.B 1) (b := s) (o := 0 + 8 + 1 * ti108.size) (l := svC w v o0 _ o2 p) (st2 := F.un (svS G s w v o0 (opV w.G w.B 1) o2 p)) hc2.1 hc2.2 rfl ho (show 9 + 1 ≤ 12 by decide) ?_ ?_
   ·rw [zo]
    unfold svS
    rw [zk]
    rfl
   refine ⟨trivial, ?_⟩
   refine ⟨1, rfl, by decide, ?_⟩
   refine za (o := (F.un (svS G s w v _ _ _ p)).obj s) _ ho2 ?_
   exact ret (h _ _ _ ⟨hS.hc, zgm hS.hd, hS.hs, hS.hu, hS.h0, .inr rfl, hS.h2⟩)
  ·rw [hne1] at e
   subst e
   refine ACalls.of_body (c := cfg 35) zd Tryz.func111 (by rfl) (by rfl) (by rfl) (by rfl) ?_
   refine ⟨1, rfl, by decide, ?_⟩
   refine za (o := (F.un (svS G s w v _ _ _ p)).obj s) _ ho ?_
   refine fun bb hbb => ?_
   have hbf : bb = false := by
    cases bb with
    | true => cases hbb rfl
    | false => rfl
   subst hbf
   refine ⟨1, rfl, by decide, ?_⟩
   refine za (o := (F.un (svS G s w v _ _ _ p)).obj s) _ ho ?_
   refine ret ?_
   have := h _ _ _ hS
   rw [hne1] at this
   exact this
 ·rcases hS.h2 with e | e
  ·subst e
   refine ACalls.of_body (c := cfg 35) zd Tryz.func111 (by rfl) (by rfl) (by rfl) (by rfl) ?_
   refine ⟨2, rfl, by decide, ?_⟩
   refine za (o := (F.un (svS G s w v _ _ _ p)).obj s) _ ho ?_
   refine ADraw.of_sched zd (by rfl) (by rfl) wj (by rfl) ?_
   refine za (o := (F.un (svS G s w v _ _ _ p)).obj s) _ ho ?_
   refine za (o := (F.un (svS G s w v _ _ _ p)).obj s) _ ho ?_
   refine ⟨qy w.G hg w.B hB hb 2 _ _ ⟨trivial, ?_⟩, trivial⟩
   refine ⟨2, rfl, by decide, ?_⟩
   have ho2 := un_r (a := F) (qn G s w v o0 o1 (opV w.G w.B 2) p)
   have hc2 := ww (vd hg w.B 2)
   refine ⟨?_, trivial⟩
   refine za _ rfl (y3 rfl (qj (v := opV w.G w.B 2) rfl rfl rfl rfl ?_))
   refine zv (i := ti108) (v := opV w.G w.B 2) (b := s) (o := 0 + 8 + 2 * ti108.size) (l := svC w v o0 o1 _ p) (st2 := F.un (svS G s w v o0 o1 (opV w.G w.B 2) p)) hc2.1 hc2.2 rfl ho (show 10 + 1 ≤ 12 by decide) ?_ ?_
   ·rw [zo]
    unfold svS
    rw [zk]
    rfl
   refine ⟨trivial, ?_⟩
   refine ⟨2, rfl, by decide, ?_⟩
   refine za (o := (F.un (svS G s w v _ _ _ p)).obj s) _ ho2 ?_
   exact ret (h _ _ _ ⟨hS.hc, zgm hS.hd, hS.hs, hS.hu, hS.h0, hS.h1, .inr rfl⟩)
  ·rw [hne2] at e
   subst e
   refine ACalls.of_body (c := cfg 35) zd Tryz.func111 (by rfl) (by rfl) (by rfl) (by rfl) ?_
   refine ⟨2, rfl, by decide, ?_⟩
   refine za (o := (F.un (svS G s w v _ _ _ p)).obj s) _ ho ?_
   refine fun bb hbb => ?_
   have hbf : bb = false := by
    cases bb with
    | true => cases hbb rfl
    | false => rfl
   subst hbf
   refine ⟨2, rfl, by decide, ?_⟩
   refine za (o := (F.un (svS G s w v _ _ _ p)).obj s) _ ho ?_
   refine ret ?_
   have := h _ _ _ hS
   rw [hne2] at this
   exact this
theorem zx9 (cs : List Value) : flat (.tup (cs.map AV.s)) := by
 intro w T w' T' v h
 cases h with
 | tup _ c hl h =>
  refine .tup _ c hl fun i x y hx hy => ?_
  rw [List.getElem?_map] at hx
  cases hc : cs[i]? with
  | none => rw [hc] at hx; cases hx
  | some z =>
   rw [hc] at hx
   cases hx
   have := h i (.s z) y (by rw [List.getElem?_map, hc]; rfl) hy
   cases this
   exact .s _
theorem zc4 {g : Store} {v : AV} {l : List Unt} (hv : RowsQ 10 untC g v l) (hl : l.length ≤ 1000000000000) (hr : z7 l) (id : Int) (R : AV → Store → Prop)
  (h : ∀ i, isAt l id i → ∀ z : Bool, (z = true ↔ ∃ hi : i < l.length, l[i].id = id) → R (.tup [int (i : Nat), V.bool z]) g) : ACalls Tryz.prog 114 [v, int id] g R :=
 ACalls.read (ys := [lst 10 untC l, int id]) (Q := fun r => ∃ (i : Nat) (z : Bool), r = .tup [int (i : Nat), V.bool z] ∧ isAt l id i ∧ (z = true ↔ ∃ hi : i < l.length, l[i].id = id)) (fun Oth M W vs sto hr => by
  obtain ⟨x, y, rfl, h1, h2⟩ := zhq hr
  exact Reads.cons (hv.borrow qb zn3 sto h1) (Reads.cons (zw h2) Reads.nil)) (zkq l hl hr id _ _ fun i hi z hz => ⟨i, z, rfl, hi, hz⟩) (fun r ⟨i, z, e, _⟩ => e ▸ zx9 [_, _]) (fun r ⟨i, z, e, hi, hz⟩ => e ▸ h i hi z hz)
theorem zde {F : Store} {s p : Nat} {G : Store} {w : Wld} {v : AV} {L : List Ent} {o0 o1 o2 : AV} (hS : StandR F G s p w v L o0 o1 o2) (hr : z7 w.U) (hU : w.U.length ≤ 1000000) (hn : ∀ u ∈ w.U, u.pos.ok) (hLl : L.length ≤ w.U.length) (hL : j3 w L) (q : Vc) (hq : q.ok) (r : Int) (hrr : 0 < r ∧ r ≤ 262144) (R : AV → Store → Prop)
  (h : ∀ F' us, StandR F' G s p w v L o0 o1 o2 → zxx w q (r + 81920) us → us.length ≤ 1000000 → R (lst 10 untC us) (F'.un (svS G s w v o0 o1 o2 p))) : ACalls Tryz.prog 112 [ptr s, .agg (vecC q), int r] (F.un (svS G s w v o0 o1 o2 p)) R := by
 have ho := un_r (a := F) (qn G s w v o0 o1 o2 p)
 refine ACalls.of_body (c := cfg 47) zd Tryz.func112 (by rfl) (by rfl) (by rfl) (by rfl) ?_
 refine ADraw.of_sched zd (by rfl) (by rfl) zk6 (by rfl) ?_
 refine za (o := (F.un (svS G s w v _ _ _ p)).obj s) _ ho ?_
 refine in64 (by omega) ?_
 refine ⟨zza hS.hc hS.hd (by omega) (jg hL hn) hq (r := r + 81920) ⟨by omega, by omega⟩ _ (fun F' N nv ns g1 g2 g3 g4 g5 g6 => ⟨trivial, ?_⟩), trivial⟩
 have hS' : StandR F' G s p w v L o0 o1 o2 := ⟨g1, g3, hS.hs, hS.hu, hS.h0, hS.h1, hS.h2⟩
 have ho' : ((F'.un N).un (svS G s w v o0 o1 o2 p)).obj s = some (.cells (svC w v o0 o1 o2 p)) := un_r (qn G s w v o0 o1 o2 p)
 have g4' : Disj (F'.un N) (svS G s w v o0 o1 o2 p) := disj_un.2 ⟨g3, g4⟩
 have hv : ∃ oa cap, nv = .s (.slice oa ns.length cap) ∧ ∀ i, i < ns.length → ∃ b J, oa = some ⟨b, 0, none⟩ ∧ ((F'.un N).un (svS G s w v o0 o1 o2 p)).obj b = some (.cells (ns.map aI ++ J)) := by
  rcases jq g5 with ⟨rfl, rfl⟩ | ⟨b, cap, J, rfl, hob, _⟩
  ·exact ⟨none, 0, rfl, fun i hi => absurd hi (Nat.not_lt_zero i)⟩
  ·exact ⟨_, cap, rfl, fun i _ => ⟨b, J, rfl, un_l g4' (un_r hob)⟩⟩
 obtain ⟨oa, cap, rfl, hget⟩ := hv
 have hrow : RowsQ 10 untC ((F'.un N).un (svS G s w v o0 o1 o2 p)) v w.U := (kj hS.hs hS.hu).un
 have hnl : ns.length ≤ w.U.length := by
  have := List.Nodup.length_le_of_subset (l₂ := L.map (·.1)) (g6.1.imp fun h => by omega) (fun id hid => by
   obtain ⟨e, he, h2, _⟩ := (g6.2 id).1 hid
   exact List.mem_map.2 ⟨e, he, h2⟩)
  rw [List.length_map] at this
  omega
 have hfin : ∀ us : List Unt, us.map (·.id) = ns → (∀ u ∈ us, u ∈ w.U ∧ u.inn = 0) → R (lst 10 untC us) (F'.un (svS G s w v o0 o1 o2 p)) := fun us e1 e2 =>
  h F' us hS' (zla hr hL g6 e1 e2) (by
   have := congrArg List.length e1
   rw [List.length_map] at this
   omega)
 have hback := zh9 (S := svS G s w v o0 o1 o2 p) g2
 generalize (F'.un N).un (svS G s w v o0 o1 o2 p) = st1 at *
 refine AWp.loop (σ := Nat × AV × List Unt) ⟨fun x => [(0, .av (ptr s)), (6, .av x.2.1), (18, .av (.s (.slice oa ns.length cap))), (19, .av (int (ns.length : Nat))), (20, .av (int (x.1 : Nat)))], fun _ => [],
  fun x st' => x.1 ≤ ns.length ∧ App 10 st1 x.2.1 (rws untC x.2.2) st' ∧ x.2.2.map (·.id) = ns.take x.1 ∧ ∀ u ∈ x.2.2, u ∈ w.U ∧ u.inn = 0, fun x => ns.length - x.1⟩ zd ?_ ?_
 ·exact ⟨(0, _, []), trivial, ⟨Nat.zero_le _, App.start 10 st1, rfl, fun u hu => (by cases hu)⟩, ⟨lr_ _, lr_ _, lr_ _, lr_ _, lr_ _, trivial⟩, trivial⟩
 rintro ⟨i, v2, us⟩ st' ⟨hi, ha, hus, hin⟩
 dsimp only at hi ha hus hin ⊢
 refine bcd (fun h1 => ?_) (fun h1 => ?_)
 rotate_left
 ·have : i = ns.length := by omega
  subst this
  rw [List.take_length] at hus
  exact ⟨_, _, AV.le_trans ha.le (ar_ _), ha.has.trans hback, hfin us hus hin⟩
 have hlt : i < ns.length := by omega
 obtain ⟨b, J, rfl, hob⟩ := hget i hlt
 have hob' : st'.obj b = some (.cells (ns.map aI ++ J)) := by rw [ha.obj]; exact hob
 have hrow' : RowsQ 10 untC st' v w.U := by
  exact hrow.sub fun _ _ _ _ => by rw [ha.obj]
 have hos : st'.obj s = some (.cells (svC w v o0 o1 o2 p)) := by rw [ha.obj]; exact ho'
 refine ⟨i, rfl, hlt, ?_⟩
 refine za (o := st'.obj b) _ hob' ?_
 refine za (o := List.head? _) (int ns[i]) (by
  rw [List.head?_drop, show 0 + i * ti3.size = i from by show 0 + i * 1 = i; omega, List.getElem?_append_left (by simpa using hlt), List.getElem?_map, List.getElem?_eq_getElem hlt]; rfl) ?_
 refine za (o := st'.obj s) _ hos ?_
 refine zc4 hrow' (by omega) hr ns[i] _ (fun k hk z hz => ?_)
 obtain ⟨e, he, hid, _⟩ := (g6.2 ns[i]).1 (List.getElem_mem hlt)
 obtain ⟨u, hu, hu0, rfl⟩ := (hL e).1 he
 have hfound : ∃ hk2 : k < w.U.length, w.U[k].id = ns[i] := by
  obtain ⟨j, hj, rfl⟩ := List.getElem_of_mem hu
  have h5 : j ≥ k := Decidable.byContradiction fun hn2 => by
   have := hk.2.1 j hj (by omega)
   have h6 : (w.U[j]).id = ns[i] := hid
   omega
  have h7 : k < w.U.length := by omega
  refine ⟨h7, ?_⟩
  have h8 := hk.2.2 k h7 (Nat.le_refl _)
  have h6 : (w.U[j]).id = ns[i] := hid
  by_cases e : k = j
  ·subst e; exact h6
  ·have := qu hr (show k < j by omega) hj
   omega
 obtain ⟨hk2, hk3⟩ := hfound
 refine za (o := st'.obj s) _ hos ?_
 obtain ⟨oa2, cap2, hv2, hget2⟩ := hrow'.form
 obtain ⟨b2, J2, rfl, hob2⟩ := hget2 k hk2
 subst hv2
 refine ⟨k, rfl, hk2, ?_⟩
 refine za (o := st'.obj b2) _ hob2 ?_
 refine vt (i := ti50) (row := untC w.U[k]) rfl rfl (vr qb hk2) ?_
 refine ⟨by decide, ?_⟩
 have hul : us.length = i := by
  have := congrArg List.length hus
  rw [List.length_map, List.length_take] at this
  omega
 refine qh (ie := ti50) (rows' := [untC w.U[k]]) ha ?_ ?_ ⟨?_, ?_⟩ (fun v3 st3 ha3 => ?_)
 ·rfl
 ·rfl
 ·simp only [zh, List.length_singleton, ti50]; omega
 ·simp only [zh, List.length_singleton]; omega
 refine in64 (by omega) ?_
 have huk : w.U[k] = u := xm hr (List.getElem_mem hk2) hu (by rw [hk3]; exact hid.symm)
 refine ⟨(i + 1, v3, us ++ [w.U[k]]), ?_, ⟨by dsimp only; omega, ?_, ?_, fun u2 hu2 => ?_⟩, ⟨lr_ _, lr_ _, lr_ _, lr_ _, lr_ _, trivial⟩, trivial⟩
 ·show ns.length - (i + 1) < ns.length - i
  omega
 ·dsimp only
  unfold rws at ha3 ⊢
  rw [List.map_append]
  exact ha3
 ·dsimp only
  rw [List.map_append, hus, List.take_succ_eq_append_getElem hlt]
  simp [hk3]
 ·rcases List.mem_append.1 hu2 with h9 | h9
  ·exact hin u2 h9
  ·simp at h9
   subst h9
   rw [huk]
   exact ⟨hu, hu0⟩
theorem zb5 {F : Store} {s p : Nat} {G : Store} {w : Wld} {v : AV} {L : List Ent} {o0 o1 o2 : AV} (hS : StandR F G s p w v L o0 o1 o2) (hg : gndP w.G) (hB : w.B.length ≤ 1000000000000) (hb : ∀ b ∈ w.B, bldP b ∧ onP w.G b) (hr : z7 w.U) (hU : w.U.length ≤ 1000000) (hn : ∀ u ∈ w.U, u.pos.ok) (hLl : L.length ≤ w.U.length) (hL : j3 w L)
  (id k : Int) (q : Vc) (hq : q.ok) (R : AV → Store → Prop)
  (h : ∀ z F' q0 q1 q2, (z = true ↔ yk w id k q) → StandR F' G s p w v L q0 q1 q2 → R (V.bool z) (F'.un (svS G s w v q0 q1 q2 p))) : ACalls Tryz.prog 73 [ptr s, int id, int k, .agg (vecC q)] (F.un (svS G s w v o0 o1 o2 p)) R := by
 have ho := un_r (a := F) (qn G s w v o0 o1 o2 p)
 have hk := zad k
 have hc := zp2 k
 refine ACalls.of_body (c := cfg 56) zd Tryz.func73 (by rfl) (by rfl) (by rfl) (by rfl) ?_
 refine y4 k _ _ ?_
 refine ADraw.of_sched zd (by rfl) (by rfl) zog (by rfl) ?_
 refine za (o := (F.un (svS G s w v _ _ _ p)).obj s) _ ho ?_
 refine ⟨zhb hS hg hB hb (kCls k) hc _ (fun a0 a1 a2 hS1 => ⟨?_, ?_⟩), trivial⟩
 ·have ho1 := un_r (a := F) (qn G s w v a0 a1 a2 p)
  repeat (first | exact trivial | refine ⟨rfl, ?_⟩ | refine ⟨za (o := (F.un (svS G s w v a0 a1 a2 p)).obj s) _ ho1 rfl, ?_⟩)
 refine ⟨zii w.G hg w.B (kCls k) q hq (kRad k) ⟨hk.1, by omega⟩ _ _ (fun z hz => ⟨trivial, ?_⟩), trivial⟩
 refine yv ?_
 refine ze (fun c1 => ?_) (fun c1 => ret (h false _ _ _ _ (by simp only [Bool.false_eq_true, false_iff]; exact fun hh => by have := hz.2 hh.1; rw [this] at c1; cases c1) hS1))
 have hfree := hz.1 c1
 refine zde hS1 hr hU hn hLl hL q hq (kRad k) ⟨hk.1, by omega⟩ _ (fun F' us hS2 hus hul => ?_)
 have hci := zis (id := id) hfree hus
 have no : ¬ yk w id k q → R (V.bool false) (F'.un (svS G s w v a0 a1 a2 p)) := fun hh => h false _ _ _ _ (by simp only [Bool.false_eq_true, false_iff]; exact hh) hS2
 refine AWp.loop (σ := Nat) ⟨fun i => [(1, .av (int id)), (7, .bx 7 0), (9, .bx 9 0), (32, .av (lst 10 untC us)), (33, .av (int (us.length : Nat))), (34, .av (int (i : Nat)))], fun _ => [(7, vecC q), (9, zh3 k)],
  fun i st' => st' = F'.un (svS G s w v a0 a1 a2 p) ∧ i ≤ us.length ∧ ∀ j, (hj : j < us.length) → j < i → us[j].id ≠ id → ky q (kRad k) us[j].pos (kRad us[j].kind) = true, fun i => us.length - i⟩ zd ?_ ?_
 ·refine ⟨0, trivial, ⟨rfl, Nat.zero_le _, fun j _ hj => by omega⟩, ⟨lr_ _, lr_ _, lr_ _, lr_ _, ?_, lr_ _, trivial⟩, ⟨rfl, rfl, trivial⟩⟩
  rw [← zh (f := untC) us]; exact lr_ _
 rintro i st' ⟨rfl, hi, hall⟩
 refine bcd (fun h1 => ?_) (fun h1 => ?_)
 rotate_left
 ·refine ret (h true _ _ _ _ (by
   simp only [true_iff]
   refine hci.2 fun u hu hne => ?_
   obtain ⟨j, hj, rfl⟩ := List.getElem_of_mem hu
   exact hall j hj (by omega) hne) hS2)
 have hlt : i < us.length := by omega
 have hui := (hus us[i]).1 (List.getElem_mem hlt)
 have next : (us[i].id ≠ id → ky q (kRad k) us[i].pos (kRad us[i].kind) = true) → ∀ j, (hj : j < us.length) → j < i + 1 → us[j].id ≠ id → ky q (kRad k) us[j].pos (kRad us[j].kind) = true := fun hh j hj hji => by
  by_cases e : j = i
  ·subst e; exact hh
  ·exact hall j hj (by omega)
 refine ⟨i, rfl, za _ (zj hlt) ?_⟩
 refine ADraw.of_sched zd (by rfl) (by rfl) zof (by rfl) ?_
 refine bcne (fun c2 => ?_) (fun c2 => ?_)
 ·refine ⟨y4 us[i].kind _ _ ⟨(by repeat (first | exact trivial | refine ⟨rfl, ?_⟩ | refine ⟨optR (optR (optR (za _ (zb _ _ _) rfl))), ?_⟩)), ?_⟩, trivial⟩
  have hk2 := zad us[i].kind
  refine ⟨zfn q (kRad k) us[i].pos (kRad us[i].kind) hq (hn _ hui.1.1) ⟨hk.1, by omega⟩ ⟨hk2.1, by omega⟩ _ _ ⟨trivial, ?_⟩, trivial⟩
  refine yv ?_
  refine ze (fun c3 => ?_) (fun c3 => ?_)
  ·refine in64 (by omega) ?_
   refine ⟨i + 1, ?_, ⟨rfl, by omega, next fun _ => c3⟩, ⟨lr_ _, lr_ _, lr_ _, lr_ _, lr_ _, lr_ _, trivial⟩, ⟨rfl, rfl, trivial⟩⟩
   show us.length - (i + 1) < us.length - i
   omega
  ·refine ret (no fun hh => ?_)
   have := hci.1 hh us[i] (List.getElem_mem hlt) c2
   rw [this] at c3; cases c3
 ·refine ⟨⟨(by repeat (first | exact trivial | refine ⟨rfl, ?_⟩ | refine ⟨optR (optR (optR (za _ (zb _ _ _) rfl))), ?_⟩)), ?_⟩, trivial⟩
  refine ⟨⟨trivial, ?_⟩, trivial⟩
  refine in64 (by omega) ?_
  refine ⟨i + 1, ?_, ⟨rfl, by omega, next fun hne => absurd c2 hne⟩, ⟨lr_ _, lr_ _, lr_ _, lr_ _, lr_ _, lr_ _, trivial⟩, ⟨rfl, rfl, trivial⟩⟩
  show us.length - (i + 1) < us.length - i
  omega
end Go.Proofs
namespace Go.Proofs
open Go Go.V
theorem zy (u : Bld) : (bldC u).length = 6 := rfl
theorem zgt (b : Bld) : ∀ y ∈ bldC b, ∃ x, y = AV.s x ∧ z6 x = true := by
 intro y hy
 simp [bldC] at hy
 rcases hy with rfl | rfl | rfl | rfl | rfl | rfl <;> exact ⟨_, rfl, rfl⟩
theorem zft (c : UInt8) : (u8C c).length = 1 := rfl
theorem zy1 (c : UInt8) : ∀ y ∈ u8C c, ∃ x, y = AV.s x ∧ z6 x = true := by
 intro y hy
 simp [u8C] at hy
 exact ⟨_, hy, rfl⟩
theorem kw (st : Store) : Disj Store.empty st := fun b hb => (hb.elim (fun h => h rfl) (fun h => h rfl) : False).elim
theorem yct (st : Store) : Disj Store.empty st := fun b hb => (hb.elim (fun h => h rfl) (fun h => h rfl) : False).elim
theorem zkl (l : List UInt8) (hl : l.length ≤ 1000000000) (st : Store) (R : AV → Store → Prop) (h : ∀ v N, RowsQ 1 u8C N v l → Disj N st → R v (N.un st)) : ACalls Tryz.prog 115 [byts l] st R := by
 refine ACalls.of_body (c := cfg 8) zd Tryz.func115 (by rfl) (by rfl) (by rfl) (by rfl) ?_
 intro b hb
 cases b with
 | true =>
  have : l = [] := by
   have := congrArg List.length (hb rfl)
   rw [zh] at this
   exact List.eq_nil_of_length_eq_zero this
  subst this
  have := h (.s (.slice none 0 0)) Store.empty (.inl (.inl ⟨rfl, rfl⟩)) (yct st)
  rw [yx] at this
  exact ret this
 | false =>
  refine ⟨by decide, ?_⟩
  exact zd9 (ie := ti5) rfl zft (by decide) hl (fun v N hv hd => ret (h v N hv hd))
theorem zav (l : List Bld) (hl : l.length ≤ 1000000000) (st : Store) (R : AV → Store → Prop) (h : ∀ v N, RowsQ 6 bldC N v l → Disj N st → R v (N.un st)) : ACalls Tryz.prog 76 [lst 6 bldC l] st R := by
 refine ACalls.of_body (c := cfg 8) zd Tryz.func76 (by rfl) (by rfl) (by rfl) (by rfl) ?_
 intro b hb
 cases b with
 | true =>
  have : l = [] := by
   have := congrArg List.length (hb rfl)
   rw [zh] at this
   exact List.eq_nil_of_length_eq_zero this
  subst this
  have := h (.s (.slice none 0 0)) Store.empty (.inl (.inl ⟨rfl, rfl⟩)) (yct st)
  rw [yx] at this
  exact ret this
 | false =>
  refine ⟨by decide, ?_⟩
  exact zd9 (ie := ti59) rfl zy (by decide) hl (fun v N hv hd => ret (h v N hv hd))
theorem zkk (l : List Unt) (hl : l.length ≤ 1000000000) (st : Store) (R : AV → Store → Prop) (h : ∀ v N, RowsQ 10 untC N v l → Disj N st → R v (N.un st)) : ACalls Tryz.prog 77 [lst 10 untC l] st R := by
 refine ACalls.of_body (c := cfg 8) zd Tryz.func77 (by rfl) (by rfl) (by rfl) (by rfl) ?_
 intro b hb
 cases b with
 | true =>
  have : l = [] := by
   have := congrArg List.length (hb rfl)
   rw [zh] at this
   exact List.eq_nil_of_length_eq_zero this
  subst this
  have := h (.s (.slice none 0 0)) Store.empty (.inl (.inl ⟨rfl, rfl⟩)) (yct st)
  rw [yx] at this
  exact ret this
 | false =>
  refine ⟨by decide, ?_⟩
  exact zd9 (ie := ti50) rfl qb (by decide) hl (fun v N hv hd => ret (h v N hv hd))
theorem zqc (g : Gnd) (hg : g.T.length ≤ 1000000000) (st : Store) (R : AV → Store → Prop) (h : ∀ v N, RowsQ 1 u8C N v g.T → Disj N st → R (.agg [int g.W, int g.H, v]) (N.un st)) : ACalls Tryz.prog 75 [.agg (gndC g)] st R := by
 refine ACalls.of_body (c := cfg 8) zd Tryz.func75 (by rfl) (by rfl) (by rfl) (by rfl) ?_
 refine zkl g.T hg _ _ (fun v N hv hd => ?_)
 obtain ⟨oa, cap, hv2, _⟩ := hv.form
 subst hv2
 exact ret (h _ N hv hd)
def wld3 (w : Wld) (vT vB vU : AV) : List AV := [int w.tick, int w.players, int w.next, int w.G.W, int w.G.H, vT, vB, vU]
/-- A world in memory of its own, part by part. -/
structure OwnQ (S : Store) (w : Wld) (vT vB vU : AV) (NT NB NU : Store) : Prop where
 e : S = NU.un (NB.un NT)
 rT : RowsQ 1 u8C NT vT w.G.T
 rB : RowsQ 6 bldC NB vB w.B
 rU : RowsQ 10 untC NU vU w.U
 dB : Disj NB NT
 dU : Disj NU (NB.un NT)
theorem zdn (w : Wld) (hT : w.G.T.length ≤ 1000000000) (hB : w.B.length ≤ 1000000000) (hU : w.U.length ≤ 1000000000) (R : AV → Store → Prop)
  (h : ∀ S vT vB vU NT NB NU, OwnQ S w vT vB vU NT NB NU → R (.agg (wld3 w vT vB vU)) S) : ACalls Tryz.prog 43 [.agg (wldC w)] Store.empty R := by
 refine ACalls.of_body (c := cfg 16) zd Tryz.func43 (by rfl) (by rfl) (by rfl) (by rfl) ?_
 refine ADraw.of_sched zd (by rfl) (by rfl) yb5 (by rfl) ?_
 refine ⟨zqc w.G hT _ _ (fun vT NT rT _ => ⟨(by repeat (first | exact trivial | refine ⟨rfl, ?_⟩ | refine ⟨optR (optR (optR (za _ (zb _ _ _) rfl))), ?_⟩)), ?_⟩), trivial⟩
 rw [za0]
 refine ⟨zav w.B hB _ _ (fun vB NB rB dB => ⟨(by repeat (first | exact trivial | refine ⟨rfl, ?_⟩ | refine ⟨optR (optR (optR (za _ (zb _ _ _) rfl))), ?_⟩)), ?_⟩), trivial⟩
 refine ⟨zkk w.U hU _ _ (fun vU NU rU dU => ⟨(by repeat (first | exact trivial | refine ⟨rfl, ?_⟩ | refine ⟨optR (optR (optR (za _ (zb _ _ _) rfl))), ?_⟩)), ?_⟩), trivial⟩
 have ho : OwnQ (NU.un (NB.un NT)) w vT vB vU NT NB NU := ⟨rfl, rT, rB, rU, dB, dU⟩
 obtain ⟨_, _, e1, _⟩ := rT.form
 obtain ⟨_, _, e2, _⟩ := rB.form
 obtain ⟨_, _, e3, _⟩ := rU.form
 subst e1 e2 e3
 refine ⟨⟨(by repeat (first | exact trivial | refine ⟨rfl, ?_⟩ | refine ⟨optR (optR (optR (za _ (zb _ _ _) rfl))), ?_⟩)), ?_⟩, trivial⟩
 refine ⟨⟨(by repeat (first | exact trivial | refine ⟨rfl, ?_⟩ | refine ⟨optR (optR (optR (za _ (zb _ _ _) rfl))), ?_⟩)), ?_⟩, trivial⟩
 refine ⟨⟨(by repeat (first | exact trivial | refine ⟨rfl, ?_⟩ | refine ⟨optR (optR (optR (za _ (zb _ _ _) rfl))), ?_⟩)), ?_⟩, trivial⟩
 exact ret (h _ _ _ _ _ _ _ ho)
theorem zcw {S NT NB NU : Store} {w : Wld} {vT vB vU : AV} (h : OwnQ S w vT vB vU NT NB NU) : RowsQ 1 u8C S vT w.G.T ∧ RowsQ 6 bldC S vB w.B ∧ RowsQ 10 untC S vU w.U := by
 have h1 := h.rT
 have h2 := h.rB.unL h.dB
 rw [h.e]
 exact ⟨(h1.un (a := NB)).un, h2.un, h.rU.unL h.dU⟩
theorem zjw {st NT NB NU : Store} {w : Wld} {vT vB vU : AV} (h : OwnQ st w vT vB vU NT NB NU) {Oth M : Nat → Nat → Prop} {W : World} (sto : StoreOK st Oth M W) {x : Value} (hx : VRel W (fun b o => M b o ∨ Oth b o) (.agg (wld3 w vT vB vU)) x) :
  VRel W (fun b o => (M b o ∨ Oth b o) ∧ st.obj b = none) (.agg (wldC w)) x := by
 obtain ⟨hT, hB, hU⟩ := zcw h
 cases hx with
 | agg _ c hl hc =>
  refine .agg _ c hl fun i x y hx hy => ?_
  match i with
  | 0 => simp only [wldC, List.getElem?_cons_zero, Option.some.injEq] at hx; subst hx; exact zw (hc 0 _ y rfl hy)
  | 1 => simp only [wldC, List.getElem?_cons_succ, List.getElem?_cons_zero, Option.some.injEq] at hx; subst hx; exact zw (hc 1 _ y rfl hy)
  | 2 => simp only [wldC, List.getElem?_cons_succ, List.getElem?_cons_zero, Option.some.injEq] at hx; subst hx; exact zw (hc 2 _ y rfl hy)
  | 3 => simp only [wldC, List.getElem?_cons_succ, List.getElem?_cons_zero, Option.some.injEq] at hx; subst hx; exact zw (hc 3 _ y rfl hy)
  | 4 => simp only [wldC, List.getElem?_cons_succ, List.getElem?_cons_zero, Option.some.injEq] at hx; subst hx; exact zw (hc 4 _ y rfl hy)
  | 5 => simp only [wldC, List.getElem?_cons_succ, List.getElem?_cons_zero, Option.some.injEq] at hx; subst hx; exact hT.borrow zft zy1 sto (hc 5 _ y rfl hy)
  | 6 => simp only [wldC, List.getElem?_cons_succ, List.getElem?_cons_zero, Option.some.injEq] at hx; subst hx; exact hB.borrow zy zgt sto (hc 6 _ y rfl hy)
  | 7 => simp only [wldC, List.getElem?_cons_succ, List.getElem?_cons_zero, Option.some.injEq] at hx; subst hx; exact hU.borrow qb zn3 sto (hc 7 _ y rfl hy)
  | i + 8 => simp [wldC] at hx
theorem vw {a b : Store} {i : Nat} (h : (a.un b).obj i = none) : a.obj i = none ∧ b.obj i = none := by
 unfold Store.un at h
 dsimp only at h
 cases hb : b.obj i with
 | none => rw [hb] at h; exact ⟨h, rfl⟩
 | some y => rw [hb] at h; cases h
/-- A copy whose units alone may be written. -/
theorem zo8 (w : Wld) (hT : w.G.T.length ≤ 1000000000) (hB : w.B.length ≤ 1000000000) (hU : w.U.length ≤ 1000000000) (R : AV → Store → Prop)
  (h : ∀ v N, RowsQ 10 untC N v w.U → R (.agg (wldV w v)) N) : ACalls Tryz.prog 43 [.agg (wldC w)] Store.empty R := by
 refine (zdn w hT hB hU (fun r S => ∃ vT vB vU NT NB NU, OwnQ S w vT vB vU NT NB NU ∧ r = .agg (wld3 w vT vB vU)) fun S vT vB vU NT NB NU ho => ⟨vT, vB, vU, NT, NB, NU, ho, rfl⟩).frozenTo ?_
 rintro r S ⟨vT, vB, vU, NT, NB, NU, ho, rfl⟩
 have hk : ∃ N2 : Store, RowsQ 10 untC N2 vU w.U ∧ (∀ b x, N2.obj b = some x → NU.obj b = some x) ∧ (∀ b x, N2.tok b ≠ some x) := by
  refine ⟨⟨NU.obj, fun _ => none⟩, ho.rU.sub fun _ _ _ _ => rfl, fun b x hx => hx, fun b x => by simp⟩
 obtain ⟨N2, hN, hsub, htok⟩ := hk
 refine ⟨.agg (wldV w vU), N2, h vU N2 hN, fun b x hx => ?_, htok, fun Oth M W v sto hx => ?_⟩
 ·rw [ho.e]
  exact un_l ho.dU (hsub b x hx)
 ·obtain ⟨rT, rB, rU⟩ := zcw ho
  cases hx with
  | agg _ c hl hc =>
   have mono1 : ∀ {x : AV} {v : Value}, VRel W (fun b o => M b o ∨ Oth b o) x v → VRel W (fun b o => (M b o ∨ Oth b o) ∧ (S.obj b = none ∨ N2.obj b ≠ none)) x v := fun h => h.mono fun _ _ h => h.1
   have mono2 : ∀ {x : AV} {v : Value} {Z : Store}, (∀ b, N2.obj b ≠ none → Z.obj b = none) → (∀ b, S.obj b = none → Z.obj b = none) → VRel W (fun b o => (M b o ∨ Oth b o) ∧ Z.obj b = none) x v → VRel W (fun b o => (M b o ∨ Oth b o) ∧ (S.obj b = none ∨ N2.obj b ≠ none)) x v := fun hz1 hz2 h => h.mono fun b _ h => ⟨h.1, h.2.elim (hz2 b) (hz1 b)⟩
   have hS : ∀ b, S.obj b = none → NU.obj b = none ∧ NB.obj b = none ∧ NT.obj b = none := fun b hb => by
    rw [ho.e] at hb
    obtain ⟨h1, h2⟩ := vw hb
    exact ⟨h1, (vw h2).1, (vw h2).2⟩
   have hN2 : ∀ b, N2.obj b ≠ none → NB.obj b = none ∧ NT.obj b = none := fun b hb => by
    cases hx : N2.obj b with
    | none => exact absurd hx hb
    | some y =>
     have h1 := kq (hsub b y hx)
     have h2 := vx (ho.dU b h1)
     exact ⟨(vw h2.1).1, (vw h2.1).2⟩
   have sNB : StoreOK NB Oth M W := sto.weaken ⟨fun b x hx => by rw [ho.e]; exact un_r (un_l ho.dB hx), fun b x hx => by rw [ho.e]; exact zjg (zzg ho.dB hx)⟩
   have sNT : StoreOK NT Oth M W := sto.weaken ⟨fun b x hx => by rw [ho.e]; exact un_r (un_r hx), fun b x hx => by rw [ho.e]; exact zjg (zjg hx)⟩
   refine .agg _ c hl fun i x y hx hy => ?_
   match i with
   | 0 => simp only [wldV, List.getElem?_cons_zero, Option.some.injEq] at hx; subst hx; exact mono1 (hc 0 _ y rfl hy)
   | 1 => simp only [wldV, List.getElem?_cons_succ, List.getElem?_cons_zero, Option.some.injEq] at hx; subst hx; exact mono1 (hc 1 _ y rfl hy)
   | 2 => simp only [wldV, List.getElem?_cons_succ, List.getElem?_cons_zero, Option.some.injEq] at hx; subst hx; exact mono1 (hc 2 _ y rfl hy)
   | 3 => simp only [wldV, List.getElem?_cons_succ, List.getElem?_cons_zero, Option.some.injEq] at hx; subst hx; exact mono1 (hc 3 _ y rfl hy)
   | 4 => simp only [wldV, List.getElem?_cons_succ, List.getElem?_cons_zero, Option.some.injEq] at hx; subst hx; exact mono1 (hc 4 _ y rfl hy)
   | 5 => simp only [wldV, List.getElem?_cons_succ, List.getElem?_cons_zero, Option.some.injEq] at hx; subst hx; exact mono2 (fun b hb => (hN2 b hb).2) (fun b hb => (hS b hb).2.2) (ho.rT.borrow zft zy1 sNT (hc 5 _ y rfl hy))
   | 6 => simp only [wldV, List.getElem?_cons_succ, List.getElem?_cons_zero, Option.some.injEq] at hx; subst hx; exact mono2 (fun b hb => (hN2 b hb).1) (fun b hb => (hS b hb).2.1) (ho.rB.borrow zy zgt sNB (hc 6 _ y rfl hy))
   | 7 => simp only [wldV, List.getElem?_cons_succ, List.getElem?_cons_zero, Option.some.injEq] at hx; subst hx; exact mono1 (hc 7 _ y rfl hy)
   | i + 8 => simp [wldV] at hx
end Go.Proofs
namespace Go.Proofs
open Go Go.V
theorem hasE (st : Store) : st.Has Store.empty := ⟨fun b x h => (by cases h), fun b x h => (by cases h)⟩
end Go.Proofs
namespace Go.Proofs
open Go Go.V
theorem yn (n lo hi : Int) (st : Store) (R : AV → Store → Prop) (h : ∀ b : Bool, (b = true ↔ lo ≤ n ∧ n ≤ hi) → R (bool b) st) : ACalls Tryz.prog 117 [int n, int lo, int hi] st R := by
 refine ACalls.of_body (c := cfg 15) zd Tryz.func117 (by rfl) (by rfl) (by rfl) (by rfl) ?_
 refine ze (fun h1 => ?_) (fun h1 => ⟨_, st, ar_ _, Store.Has.refl st, h _ ?_⟩)
 ·refine ⟨_, st, ar_ _, Store.Has.refl st, h _ ?_⟩
  simp at h1 ⊢; omega
 ·simp at h1 ⊢; omega
theorem zf7 (n : Int) (st : Store) (R : AV → Store → Prop) (h : ∀ b : Bool, (b = true ↔ 0 ≤ n ∧ n ≤ 3) → R (bool b) st) : ACalls Tryz.prog 105 [int n] st R := by
 refine ACalls.of_body (c := cfg 9) zd Tryz.func105 (by rfl) (by rfl) (by rfl) (by rfl) ?_
 refine ze (fun h1 => ?_) (fun h1 => ⟨_, st, ar_ _, Store.Has.refl st, h _ ?_⟩)
 ·refine ⟨_, st, ar_ _, Store.Has.refl st, h _ ?_⟩
  simp at h1 ⊢; omega
 ·simp at h1 ⊢; omega
theorem zjt (x y : Int) (st : Store) (R : AV → Store → Prop) (h : ∀ b : Bool, (b = true ↔ yg x y) → R (bool b) st) : ACalls Tryz.prog 160 [.agg [int x, int y]] st R := by
 refine ACalls.of_body (c := cfg 21) zd Tryz.func160 (by rfl) (by rfl) (by rfl) (by rfl) ?_
 refine ze (fun h1 => ?_) (fun h1 => ⟨_, st, ar_ _, Store.Has.refl st, h _ (by unfold yg; simp at h1 ⊢; omega)⟩)
 refine ze (fun h2 => ?_) (fun h1 => ⟨_, st, ar_ _, Store.Has.refl st, h _ (by unfold yg; simp at h1 ⊢; omega)⟩)
 refine ze (fun h3 => ?_) (fun h1 => ⟨_, st, ar_ _, Store.Has.refl st, h _ (by unfold yg; simp at h1 ⊢; omega)⟩)
 refine ⟨_, st, ar_ _, Store.Has.refl st, h _ ?_⟩
 unfold yg
 simp at h1 h2 h3 ⊢; omega
end Go.Proofs
namespace Go.Proofs
open Go Go.V
theorem zal (l : List Int) (hl : l.length ≤ 1000000000000) (st : Store) (R : AV → Store → Prop) (h : ∀ b : Bool, (b = true ↔ k0 l) → R (bool b) st) : ACalls Tryz.prog 161 [ints l] st R := by
 refine ACalls.of_body (c := cfg 40) zd Tryz.func161 (by rfl) (by rfl) (by rfl) (by rfl) ?_
 refine AWp.loop (σ := Nat) ⟨fun i => [(0, .av (ints l)), (5, .av (ints l)), (6, .av (int l.length)), (7, .av (int i))], fun _ => [],
  fun i st' => i ≤ l.length ∧ st' = st ∧ ∀ j, j < i → (1 ≤ l.getD j 0 ∧ l.getD j 0 ≤ 1099511627776) ∧ (0 < j → l.getD (j - 1) 0 < l.getD j 0), fun i => l.length - i⟩ zd ?_ ?_
 ·refine ⟨0, trivial, ⟨Nat.zero_le _, rfl, fun j hj => by omega⟩, ⟨lr_ _, lr_ _, ?_, lr_ _, trivial⟩, trivial⟩
  rw [← zh (f := intC) l]
  exact lr_ _
 ·rintro i st' ⟨hi, rfl, hall⟩
  refine ze (fun h1 => ?_) (fun h1 => ?_)
  ·have hlt : i < l.length := by simpa using h1
   have hget : l.getD i 0 = l[i] := by simp [hlt]
   refine ⟨i, rfl, za _ (zj hlt) ?_⟩
   have bad : ¬ ((1 ≤ l.getD i 0 ∧ l.getD i 0 ≤ 1099511627776) ∧ (0 < i → l.getD (i - 1) 0 < l.getD i 0)) → ∀ b : Bool, b = false → (b = true ↔ k0 l) := by
    rintro hb _ rfl
    simp only [Bool.false_eq_true, false_iff]
    exact fun hu => hb (hu.2 i hlt)
   have go : ((1 ≤ l.getD i 0 ∧ l.getD i 0 ≤ 1099511627776) ∧ (0 < i → l.getD (i - 1) 0 < l.getD i 0)) → ∀ j, j < i + 1 → (1 ≤ l.getD j 0 ∧ l.getD j 0 ≤ 1099511627776) ∧ (0 < j → l.getD (j - 1) 0 < l.getD j 0) := by
    intro hb j hj
    by_cases hji : j = i
    ·subst hji; exact hb
    ·exact hall j (by omega)
   refine ze (fun h2 => ⟨_, st', ar_ _, Store.Has.refl st', h _ (bad (by rw [hget]; simp at h2; omega) _ rfl)⟩) (fun h2 => ?_)
   refine ze (fun h3 => ⟨_, st', ar_ _, Store.Has.refl st', h _ (bad (by rw [hget]; simp at h3; omega) _ rfl)⟩) (fun h3 => ?_)
   refine ze (fun h4 => ?_) (fun h4 => ?_)
   ·have h4 : 0 < i := by simpa using h4
    have hget1 : l.getD (i - 1) 0 = l[i - 1] := by simp [show i - 1 < l.length by omega]
    refine ⟨⟨by omega, by omega⟩, ?_⟩
    refine ⟨i - 1, by omega, za _ (zj (show i - 1 < l.length by omega)) ?_⟩
    refine ze (fun h5 => ⟨_, st', ar_ _, Store.Has.refl st', h _ (bad (by rw [hget, hget1]; simp at h5; omega) _ rfl)⟩) (fun h5 => ?_)
    refine ⟨⟨by omega, by omega⟩, ?_⟩
    refine ⟨i + 1, ?_, ⟨hlt, rfl, go (by rw [hget, hget1]; simp at h2 h3 h5; omega)⟩, ⟨lr_ _, lr_ _, lr_ _, lr_ _, trivial⟩, trivial⟩
    show l.length - (i + 1) < l.length - i
    omega
   ·refine ⟨⟨by omega, by omega⟩, ?_⟩
    refine ⟨i + 1, ?_, ⟨hlt, rfl, go (by rw [hget]; simp at h2 h3 h4; omega)⟩, ⟨lr_ _, lr_ _, lr_ _, lr_ _, trivial⟩, trivial⟩
    show l.length - (i + 1) < l.length - i
    omega
  ·have hge : i = l.length := by
    have : ¬ i < l.length := by simpa using h1
    omega
   subst hge
   refine ze (fun h2 => ⟨_, st', ar_ _, Store.Has.refl st', h _ ?_⟩) (fun h2 => ⟨_, st', ar_ _, Store.Has.refl st', h _ ?_⟩)
   ·rw [zh] at h2 ⊢
    unfold k0
    simp only [decide_eq_true_eq] at h2 ⊢
    constructor
    ·intro h3
     exact ⟨by omega, hall⟩
    ·intro h3
     omega
   ·rw [zh] at h2
    unfold k0
    simp only [decide_eq_false_iff_not] at h2
    simp only [Bool.false_eq_true, false_iff]
    intro h3
    omega
end Go.Proofs
namespace Go.Proofs
open Go Go.V
set_option maxHeartbeats 4000000 in
set_option maxRecDepth 20000 in
theorem zmx (c : Cmd) (hc : c.fits) (st : Store) (R : AV → Store → Prop) (h : ∀ b : Bool, (b = true ↔ c.okP) → R (.tup [.agg (cmdC c.only), bool b]) st) : ACalls Tryz.prog 116 [.agg (cmdC c)] st R := by
 refine ACalls.of_body (c := cfg 119) zd Tryz.func116 (by rfl) (by rfl) (by rfl) (by rfl) ?_
 refine ze (fun k1 => ?_) (fun k1 => ?_)
 ·have k1 : c.K = 1 := by simpa using k1
  have fin : ∀ b : Bool, (b = true ↔ _) → R (.tup [.agg (cmdC _), bool b]) st := fun b hb => h b (hb.trans (Cmd.ok1 k1).symm)
  rw [Cmd.only1 k1] at fin
  refine ADraw.of_sched zd (by rfl) (by rfl) zxg (by rfl) ?_
  refine ⟨⟨(by repeat (first | exact trivial | refine ⟨rfl, ?_⟩ | refine ⟨optR (optR (optR (za _ (zb _ _ _) rfl))), ?_⟩)), ?_⟩, trivial⟩
  refine ⟨⟨trivial, ?_⟩, trivial⟩
  refine zf7 c.N _ _ (fun b0 hb0 => ?_)
  cases b0 with
  | false =>
   refine ⟨_, st, ?_, Store.Has.refl st, fin false (by simp only [Bool.false_eq_true, false_iff] at hb0 ⊢; simp [j6, idP, hb0])⟩
   exact AV.le_tupL ⟨AV.le_aggL ⟨ar_ _, ar_ _, ar_ _, ar_ _, AV.le_nil 1, ar_ _, ar_ _, ar_ _, ar_ _, ar_ _, trivial⟩, ar_ _, trivial⟩
  | true =>
   refine zjt c.X c.Y _ _ (fun b1 hb1 => ?_)
   refine ⟨_, st, ?_, Store.Has.refl st, fin b1 (by have q0 := hb0.1 rfl; rw [hb1]; simp [j6, idP, q0])⟩
   exact AV.le_tupL ⟨AV.le_aggL ⟨ar_ _, ar_ _, ar_ _, ar_ _, AV.le_nil 1, ar_ _, ar_ _, ar_ _, ar_ _, ar_ _, trivial⟩, ar_ _, trivial⟩
 have k1 : c.K ≠ 1 := by simpa using k1
 refine ze (fun k2 => ?_) (fun k2 => ?_)
 ·have k2 : c.K = 2 := by simpa using k2
  have fin : ∀ b : Bool, (b = true ↔ _) → R (.tup [.agg (cmdC _), bool b]) st := fun b hb => h b (hb.trans (Cmd.ok2 k2).symm)
  rw [Cmd.only2 k2] at fin
  refine ADraw.of_sched zd (by rfl) (by rfl) zxf (by rfl) ?_
  refine ⟨⟨(by repeat (first | exact trivial | refine ⟨rfl, ?_⟩ | refine ⟨optR (optR (optR (za _ (zb _ _ _) rfl))), ?_⟩)), ?_⟩, trivial⟩
  refine ⟨⟨trivial, ?_⟩, trivial⟩
  refine zal c.U hc _ _ (fun b0 hb0 => ?_)
  cases b0 with
  | false =>
   refine ⟨_, st, ?_, Store.Has.refl st, fin false (by simp only [Bool.false_eq_true, false_iff] at hb0 ⊢; simp [j6, idP, hb0])⟩
   exact AV.le_tupL ⟨AV.le_aggL ⟨ar_ _, ar_ _, ar_ _, ar_ _, ar_ _, ar_ _, ar_ _, ar_ _, ar_ _, ar_ _, trivial⟩, ar_ _, trivial⟩
  | true =>
   refine yn c.T 0 16383 _ _ (fun b1 hb1 => ?_)
   refine ⟨_, st, ?_, Store.Has.refl st, fin b1 (by have q0 := hb0.1 rfl; rw [hb1]; simp [j6, idP, q0])⟩
   exact AV.le_tupL ⟨AV.le_aggL ⟨ar_ _, ar_ _, ar_ _, ar_ _, ar_ _, ar_ _, ar_ _, ar_ _, ar_ _, ar_ _, trivial⟩, ar_ _, trivial⟩
 have k2 : c.K ≠ 2 := by simpa using k2
 refine ze (fun k3 => ?_) (fun k3 => ?_)
 ·have k3 : c.K = 3 := by simpa using k3
  have fin : ∀ b : Bool, (b = true ↔ _) → R (.tup [.agg (cmdC _), bool b]) st := fun b hb => h b (hb.trans (Cmd.ok3 k3).symm)
  rw [Cmd.only3 k3] at fin
  refine zal c.U hc _ _ (fun b0 hb0 => ?_)
  refine ⟨_, st, ?_, Store.Has.refl st, fin b0 (hb0)⟩
  exact AV.le_tupL ⟨AV.le_aggL ⟨ar_ _, ar_ _, ar_ _, ar_ _, ar_ _, ar_ _, ar_ _, ar_ _, ar_ _, ar_ _, trivial⟩, ar_ _, trivial⟩
 have k3 : c.K ≠ 3 := by simpa using k3
 refine ze (fun k4 => ?_) (fun k4 => ?_)
 ·have k4 : c.K = 4 := by simpa using k4
  have fin : ∀ b : Bool, (b = true ↔ _) → R (.tup [.agg (cmdC _), bool b]) st := fun b hb => h b (hb.trans (Cmd.ok4 k4).symm)
  rw [Cmd.only4 k4] at fin
  refine ADraw.of_sched zd (by rfl) (by rfl) zop (by rfl) ?_
  refine ⟨⟨(by repeat (first | exact trivial | refine ⟨rfl, ?_⟩ | refine ⟨optR (optR (optR (za _ (zb _ _ _) rfl))), ?_⟩)), ?_⟩, trivial⟩
  refine ⟨⟨(by repeat (first | exact trivial | refine ⟨rfl, ?_⟩ | refine ⟨optR (optR (optR (za _ (zb _ _ _) rfl))), ?_⟩)), ?_⟩, trivial⟩
  refine ⟨⟨trivial, ?_⟩, trivial⟩
  refine yn c.T 0 16383 _ _ (fun b0 hb0 => ?_)
  cases b0 with
  | false =>
   refine ⟨_, st, ?_, Store.Has.refl st, fin false (by simp only [Bool.false_eq_true, false_iff] at hb0 ⊢; simp [j6, idP, hb0])⟩
   exact AV.le_tupL ⟨AV.le_aggL ⟨ar_ _, ar_ _, ar_ _, ar_ _, AV.le_nil 1, ar_ _, ar_ _, ar_ _, ar_ _, ar_ _, trivial⟩, ar_ _, trivial⟩
  | true =>
   refine yn c.W 1 4 _ _ (fun b1 hb1 => ?_)
   cases b1 with
   | false =>
    refine ⟨_, st, ?_, Store.Has.refl st, fin false (by simp only [Bool.false_eq_true, false_iff] at hb1 ⊢; simp [j6, idP, hb1])⟩
    exact AV.le_tupL ⟨AV.le_aggL ⟨ar_ _, ar_ _, ar_ _, ar_ _, AV.le_nil 1, ar_ _, ar_ _, ar_ _, ar_ _, ar_ _, trivial⟩, ar_ _, trivial⟩
   | true =>
    refine yn c.H 1 4 _ _ (fun b2 hb2 => ?_)
    refine ⟨_, st, ?_, Store.Has.refl st, fin b2 (by have q0 := hb0.1 rfl; have q1 := hb1.1 rfl; rw [hb2]; simp [j6, idP, q0, q1])⟩
    exact AV.le_tupL ⟨AV.le_aggL ⟨ar_ _, ar_ _, ar_ _, ar_ _, AV.le_nil 1, ar_ _, ar_ _, ar_ _, ar_ _, ar_ _, trivial⟩, ar_ _, trivial⟩
 have k4 : c.K ≠ 4 := by simpa using k4
 refine ze (fun k5 => ?_) (fun k5 => ?_)
 ·have k5 : c.K = 5 := by simpa using k5
  have fin : ∀ b : Bool, (b = true ↔ _) → R (.tup [.agg (cmdC _), bool b]) st := fun b hb => h b (hb.trans (Cmd.ok5 k5).symm)
  rw [Cmd.only5 k5] at fin
  refine yn c.N 1 1099511627776 _ _ (fun b0 hb0 => ?_)
  refine ⟨_, st, ?_, Store.Has.refl st, fin b0 (hb0)⟩
  exact AV.le_tupL ⟨AV.le_aggL ⟨ar_ _, ar_ _, ar_ _, ar_ _, AV.le_nil 1, ar_ _, ar_ _, ar_ _, ar_ _, ar_ _, trivial⟩, ar_ _, trivial⟩
 have k5 : c.K ≠ 5 := by simpa using k5
 refine ze (fun k6 => ?_) (fun k6 => ?_)
 ·have k6 : c.K = 6 := by simpa using k6
  have fin : ∀ b : Bool, (b = true ↔ _) → R (.tup [.agg (cmdC _), bool b]) st := fun b hb => h b (hb.trans (Cmd.ok6 k6).symm)
  rw [Cmd.only6 k6] at fin
  refine ADraw.of_sched zd (by rfl) (by rfl) zoo (by rfl) ?_
  refine ⟨⟨(by repeat (first | exact trivial | refine ⟨rfl, ?_⟩ | refine ⟨optR (optR (optR (za _ (zb _ _ _) rfl))), ?_⟩)), ?_⟩, trivial⟩
  refine ⟨⟨trivial, ?_⟩, trivial⟩
  refine zal c.U hc _ _ (fun b0 hb0 => ?_)
  cases b0 with
  | false =>
   refine ⟨_, st, ?_, Store.Has.refl st, fin false (by simp only [Bool.false_eq_true, false_iff] at hb0 ⊢; simp [j6, idP, hb0])⟩
   exact AV.le_tupL ⟨AV.le_aggL ⟨ar_ _, ar_ _, ar_ _, ar_ _, ar_ _, ar_ _, ar_ _, ar_ _, ar_ _, ar_ _, trivial⟩, ar_ _, trivial⟩
  | true =>
   refine yn c.N 1 1099511627776 _ _ (fun b1 hb1 => ?_)
   refine ⟨_, st, ?_, Store.Has.refl st, fin b1 (by have q0 := hb0.1 rfl; rw [hb1]; simp [j6, idP, q0])⟩
   exact AV.le_tupL ⟨AV.le_aggL ⟨ar_ _, ar_ _, ar_ _, ar_ _, ar_ _, ar_ _, ar_ _, ar_ _, ar_ _, ar_ _, trivial⟩, ar_ _, trivial⟩
 have k6 : c.K ≠ 6 := by simpa using k6
 refine ze (fun k7 => ?_) (fun k7 => ?_)
 ·have k7 : c.K = 7 := by simpa using k7
  have fin : ∀ b : Bool, (b = true ↔ _) → R (.tup [.agg (cmdC _), bool b]) st := fun b hb => h b (hb.trans (Cmd.ok7 k7).symm)
  rw [Cmd.only7 k7] at fin
  refine ADraw.of_sched zd (by rfl) (by rfl) zon (by rfl) ?_
  refine ⟨⟨(by repeat (first | exact trivial | refine ⟨rfl, ?_⟩ | refine ⟨optR (optR (optR (za _ (zb _ _ _) rfl))), ?_⟩)), ?_⟩, trivial⟩
  refine ⟨⟨trivial, ?_⟩, trivial⟩
  refine yn c.N 1 1099511627776 _ _ (fun b0 hb0 => ?_)
  cases b0 with
  | false =>
   refine ⟨_, st, ?_, Store.Has.refl st, fin false (by simp only [Bool.false_eq_true, false_iff] at hb0 ⊢; simp [j6, idP, hb0])⟩
   exact AV.le_tupL ⟨AV.le_aggL ⟨ar_ _, ar_ _, ar_ _, ar_ _, AV.le_nil 1, ar_ _, ar_ _, ar_ _, ar_ _, ar_ _, trivial⟩, ar_ _, trivial⟩
  | true =>
   refine yn c.T 0 16383 _ _ (fun b1 hb1 => ?_)
   refine ⟨_, st, ?_, Store.Has.refl st, fin b1 (by have q0 := hb0.1 rfl; rw [hb1]; simp [j6, idP, q0])⟩
   exact AV.le_tupL ⟨AV.le_aggL ⟨ar_ _, ar_ _, ar_ _, ar_ _, AV.le_nil 1, ar_ _, ar_ _, ar_ _, ar_ _, ar_ _, trivial⟩, ar_ _, trivial⟩
 have k7 : c.K ≠ 7 := by simpa using k7
 have fin : R (.tup [.agg (cmdC c.only), bool false]) st := h false (by simpa using Cmd.ok0 k1 k2 k3 k4 k5 k6 k7)
 rw [Cmd.only0 k1 k2 k3 k4 k5 k6 k7] at fin
 refine ⟨_, st, ?_, Store.Has.refl st, fin⟩
 exact AV.le_tupL ⟨AV.le_aggL ⟨ar_ _, ar_ _, ar_ _, ar_ _, AV.le_nil 1, ar_ _, ar_ _, ar_ _, ar_ _, ar_ _, trivial⟩, ar_ _, trivial⟩
end Go.Proofs
namespace Go.Proofs
open Go Go.V
set_option maxHeartbeats 4000000 in
set_option maxRecDepth 20000 in
theorem zir (c : Cmd) (hc : c.fits) (st : Store) (R : AV → Store → Prop) (h : ∀ b : Bool, (b = true ↔ cmdP c) → R (bool b) st) : ACalls Tryz.prog 78 [.agg (cmdC c)] st R := by
 refine ACalls.of_body (c := cfg 65) zd Tryz.func78 (by rfl) (by rfl) (by rfl) (by rfl) ?_
 refine zmx c hc _ _ (fun b hb => ?_)
 have no : ¬ cmdP c → R (bool false) st := fun hn => h false (by simpa using hn)
 cases b with
 | false => exact ⟨_, st, ar_ _, Store.Has.refl st, no (fun hp => by have := hb.2 hp.1; cases this)⟩
 | true =>
  refine yn c.P 1 8 _ _ (fun b1 hb1 => ?_)
  cases b1 with
  | false => exact ⟨_, st, ar_ _, Store.Has.refl st, no (fun hp => by have := hb1.2 hp.2.1; cases this)⟩
  | true =>
   refine yn c.S 0 1099511627776 _ _ (fun b2 hb2 => ?_)
   cases b2 with
   | false => exact ⟨_, st, ar_ _, Store.Has.refl st, no (fun hp => by have := hb2.2 hp.2.2.1; cases this)⟩
   | true =>
    have hP : c.only.P = c.P ∧ c.only.S = c.S ∧ c.only.K = c.K ∧ (c.only.U = c.U ∨ c.only.U = []) := by
     unfold Cmd.only
     repeat' split
     all_goals exact ⟨rfl, rfl, rfl, by simp⟩
    refine ze (fun w1 => ?_) (fun w1 => ⟨_, st, ar_ _, Store.Has.refl st, no (fun hp => by rw [hp.2.2.2] at w1; simp at w1)⟩)
    refine ze (fun w2 => ?_) (fun w2 => ⟨_, st, ar_ _, Store.Has.refl st, no (fun hp => by rw [hp.2.2.2] at w2; simp at w2)⟩)
    refine ze (fun w3 => ?_) (fun w3 => ⟨_, st, ar_ _, Store.Has.refl st, no (fun hp => by rw [hp.2.2.2] at w3; simp at w3)⟩)
    refine ze (fun w4 => ?_) (fun w4 => ⟨_, st, ar_ _, Store.Has.refl st, no (fun hp => by rw [hp.2.2.2] at w4; simp at w4)⟩)
    refine ze (fun w5 => ?_) (fun w5 => ⟨_, st, ar_ _, Store.Has.refl st, no (fun hp => by rw [hp.2.2.2] at w5; simp at w5)⟩)
    refine ⟨_, st, ar_ _, Store.Has.refl st, h _ ?_⟩
    rw [zh, zh]
    constructor
    ·intro w6
     refine ⟨hb.1 rfl, hb1.1 rfl, hb2.1 rfl, ?_⟩
     have hU : c.only.U = c.U := by
      rcases hP.2.2.2 with e | e
      ·exact e
      ·rw [e] at w6
       simp at w6
       rw [e, eq_comm, ← List.length_eq_zero_iff]
       omega
     simp only [beq_iff_eq, Bool.and_eq_true, and_true] at w1 w2 w3 w4 w5
     exact Cmd.eq_of hP.1 hP.2.1 hP.2.2.1 w1 hU w3 w4 w5 w2.1 w2.2
    ·intro hp
     rw [hp.2.2.2]
     simp
end Go.Proofs
namespace Go.Proofs
open Go Go.V
end Go.Proofs
