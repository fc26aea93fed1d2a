/- Ground of laws of thronglaw24: contracts and plain lemmas; no condition beyond the row's own. -/
import Derived.Test.YtieceacpbjcddaaGreatKQ
import Derived.Test.YtieceacpbjcddaaGreatKJ
set_option linter.unusedSimpArgs false
set_option linter.unusedVariables false
set_option linter.defProp false
namespace Go.Proofs
open Go Go.V
set_option maxRecDepth 4000
theorem zq3 (g : Gnd) (hg : zi g) (t : Nat) (ht : (t : Int) < g.W * g.H) (st : Store) (R : AV -> Store -> Prop) (h : R (.agg (zy (tx g t + 32768, ty g t + 32768))) st) : ACalls Tryz.prog 145 [.agg (zr g), int (t : Nat)] st R := by
 have htb := wo hg ht
 have hq := Cg (t := t) hg.1.1
 have hq2 := Ch (t := t) hg.1.1
 have hg1 := hg.1
 have hg2 := hg.2.1
 unfold tx ty at h
 refine ACalls.of_body (c := cfg 18) zb Tryz.func145 (by rfl) (by rfl) (by rfl) (by rfl) ?_
 refine ADraw.of_sched zb (by rfl) (by rfl) zmw (by rfl) ?_
 refine ⟨by omega, ?_⟩
 refine zc (by rw [hq]; omega) ?_
 refine zc (by rw [hq]; omega) ?_
 refine ⟨by omega, ?_⟩
 refine zc (by rw [hq2]; omega) ?_
 refine zc (by rw [hq2]; omega) ?_
 refine zc (by rw [hq2]; omega) ?_
 refine ⟨⟨(by repeat (first | exact Tv | refine ⟨rfl, ?_⟩ | refine ⟨optR (optR (optR (za _ (zd _ _ _) rfl))), ?_⟩)), ?_⟩, Tv⟩
 rw [<- hq, <- hq2] at h
 exact ret h
theorem zq2 (g : Gnd) (hg : zi g) (t : Nat) (ht : (t : Int) < g.W * g.H) (x : Int) (hx : x = (t : Int)) (st : Store) (R : AV -> Store -> Prop) (h : R (.agg (zy (tx g t + 32768, ty g t + 32768))) st) : ACalls Tryz.prog 145 [.agg (zr g), int x] st R := by
 subst hx
 exact zq3 g hg t ht st R h
theorem Kp (g : Gnd) (hg : zi g) (t : Nat) (ht : t < g.T.length) (x : Int) (hx : x = (t : Int)) (st : Store) (R : AV -> Store -> Prop) (h : R (.agg (zy (zg g t))) st) : ACalls Tryz.prog 145 [.agg (zr g), int x] st R :=
 zq2 g hg t (by have := yw hg; omega) x hx st R h
theorem Rb (g : Gnd) (hg : zi g) (t : Nat) (ht : t < g.T.length) (tI : Int) (htI : tI = (t : Int)) (st : Store) (R : AV -> Store -> Prop) (h : R (.agg (zy (zg g t))) st) : ACalls Tryz.prog 16 [.agg (zr g), int tI] st R := by
 subst htI
 have ha := yw hg
 have htb := wo hg (t := t) (by omega)
 have hq := Cg (t := t) hg.1.1
 have hq2 := Ch (t := t) hg.1.1
 have hg1 := hg.1
 have hg2 := hg.2.1
 unfold zg tx ty at h
 rw [<- hq, <- hq2] at h
 refine ACalls.of_body (c := cfg 18) zb Tryz.func16 (by rfl) (by rfl) (by rfl) (by rfl) ?_
 refine ADraw.of_sched zb (by rfl) (by rfl) zmh (by rfl) ?_
 refine ⟨by omega, ?_⟩
 refine zc (by omega) ?_
 refine zc (by omega) ?_
 refine ⟨by omega, ?_⟩
 refine zc (by omega) ?_
 refine zc (by omega) ?_
 refine zc (by omega) ?_
 refine ⟨⟨(by repeat (first | exact Tv | refine ⟨rfl, ?_⟩ | refine ⟨optR (optR (optR (za _ (zd _ _ _) rfl))), ?_⟩)), ?_⟩, Tv⟩
 exact ret h
theorem N6 (g : Gnd) (hg : zi g) (p : Vc) (h0 : (0 <= p.1 /\ p.1 < g.W * 65536) /\ (0 <= p.2 /\ p.2 < g.H * 65536)) (st : Store) (R : AV -> Store -> Prop) (h : R (int (zq g p : Nat)) st) : ACalls Tryz.prog 11 [.agg (zr g), .agg (zy p)] st R := by
 have hs := hg.1
 have hs2 := hg.2.1
 obtain ⟨e1, e2, _⟩ := wq hg h0
 have ha := yw hg
 refine ACalls.of_body (c := cfg 39) zb Tryz.func11 (by rfl) (by rfl) (by rfl) (by rfl) ?_
 refine bcd (fun c1 => absurd c1 (by omega)) (fun c1 => ?_)
 refine zc (by omega) ?_
 refine bcd (fun c1 => absurd c1 (by omega)) (fun c1 => ?_)
 refine bcd (fun c1 => absurd c1 (by omega)) (fun c1 => ?_)
 refine zc (by omega) ?_
 refine bcd (fun c1 => absurd c1 (by omega)) (fun c1 => ?_)
 have q1 : p.1.tdiv 65536 = p.1 / 65536 := Int.tdiv_eq_ediv_of_nonneg (by omega)
 have q2 : p.2.tdiv 65536 = p.2 / 65536 := Int.tdiv_eq_ediv_of_nonneg (by omega)
 have hx : 0 <= p.1 / 65536 /\ p.1 / 65536 <= 128 := by omega
 have hy : 0 <= p.2 / 65536 /\ p.2 / 65536 <= 128 := by omega
 have hm : 0 <= g.W * (p.2 / 65536) /\ g.W * (p.2 / 65536) <= 128 * 128 := ⟨Int.mul_nonneg (by omega) hy.1, Int.mul_le_mul hs.2 hy.2 hy.1 (by decide)⟩
 refine ⟨by decide, ?_⟩
 refine zc (by rw [q1]; omega) ?_
 refine ⟨by decide, ?_⟩
 refine zc (by rw [q2]; omega) ?_
 refine zc (by rw [q2]; omega) ?_
 refine zc (by rw [q1, q2]; omega) ?_
 rw [q1, q2, <- e1]
 exact ret h
theorem ni (g : Gnd) (hg : zi g) (p : Vc) (h0 : (0 <= p.1 /\ p.1 < g.W * 65536) /\ (0 <= p.2 /\ p.2 < g.H * 65536)) (st : Store) (R : AV -> Store -> Prop) (h : R (int (zq g p : Nat)) st) : ACalls Tryz.prog 147 [.agg (zr g), .agg (zy p)] st R := by
 have hs := hg.1
 have hs2 := hg.2.1
 obtain ⟨e1, e2, _⟩ := wq hg h0
 have ha := yw hg
 refine ACalls.of_body (c := cfg 39) zb Tryz.func147 (by rfl) (by rfl) (by rfl) (by rfl) ?_
 refine bcd (fun c1 => absurd c1 (by omega)) (fun c1 => ?_)
 refine zc (by omega) ?_
 refine bcd (fun c1 => absurd c1 (by omega)) (fun c1 => ?_)
 refine bcd (fun c1 => absurd c1 (by omega)) (fun c1 => ?_)
 refine zc (by omega) ?_
 refine bcd (fun c1 => absurd c1 (by omega)) (fun c1 => ?_)
 have q1 : p.1.tdiv 65536 = p.1 / 65536 := Int.tdiv_eq_ediv_of_nonneg (by omega)
 have q2 : p.2.tdiv 65536 = p.2 / 65536 := Int.tdiv_eq_ediv_of_nonneg (by omega)
 have hx : 0 <= p.1 / 65536 /\ p.1 / 65536 <= 128 := by omega
 have hy : 0 <= p.2 / 65536 /\ p.2 / 65536 <= 128 := by omega
 have hm : 0 <= g.W * (p.2 / 65536) /\ g.W * (p.2 / 65536) <= 128 * 128 := ⟨Int.mul_nonneg (by omega) hy.1, Int.mul_le_mul hs.2 hy.2 hy.1 (by decide)⟩
 refine ⟨by decide, ?_⟩
 refine zc (by rw [q1]; omega) ?_
 refine ⟨by decide, ?_⟩
 refine zc (by rw [q2]; omega) ?_
 refine zc (by rw [q2]; omega) ?_
 refine zc (by rw [q1, q2]; omega) ?_
 rw [q1, q2, <- e1]
 exact ret h
theorem xg {i : TI} {cells row rest : List AV} {K : LV -> Prop} (ha : k6 i.ty = true) (hs : i.size = row.length) (hc : cells = row ++ rest) (h : K (.av (.agg row))) : partK i cells K := by
 subst hc
 unfold partK
 rw [ha, cond_true, hs]
 have : Nat.ble row.length (row ++ rest).length = true := by simp
 rw [this, cond_true]
 refine D6 ?_
 rw [List.take_append_of_le_length (Nat.le_refl _), List.take_length]
 exact h
theorem V5 {α : Type} {k : Nat} {f : α -> List AV} (hf : ∀ x, (f x).length = k) {l : List α} {L : List AV} {i : Nat} (hi : i < l.length) : List.drop (0 + i * k) ((rws f l).flatten ++ L) = f l[i] ++ ((rws f (l.drop (i + 1))).flatten ++ L) := by
 have h1 : (rws f (l.take i)).flatten.length = i * k := by rw [Dp hf, List.length_take, Nat.min_eq_left (by omega)]
 rw [Nat.zero_add, Kd hi, List.append_assoc, <- h1, List.drop_left, List.append_assoc]
theorem zwh {S : Store} (R : AV -> Store -> Prop) (h : ∀ F p, CellsOf F p [] -> zv F S -> R (ptr p) (F.un S)) : ACalls Tryz.prog 132 [] S R := by
 have := ACalls.frame (a := Store.empty) (g := S) (fun i h1 => by rcases h1 with h1 | h1 <;> exact absurd rfl h1) (gk (fun r a' => ∃ p, r = ptr p /\ CellsOf a' p []) (fun a p h => ⟨p, rfl, h⟩)) (R' := R) (fun r a' ⟨p, e, hc⟩ hd => e ▸ h a' p hc hd)
 rwa [C8] at this
/-- A stand whose units are cells of an object. -/
def svC (w : Wld) (v o0 o1 o2 : AV) (p : Nat) : List AV := j6 w v ++ [o0, o1, o2, ptr p]
def svS (G : Store) (s : Nat) (w : Wld) (v o0 o1 o2 : AV) (p : Nat) : Store := G.setObj s (.cells (svC w v o0 o1 o2 p))
structure StandR (F G : Store) (s p : Nat) (w : Wld) (v : AV) (L : List Ent) (o0 o1 o2 : AV) : Prop where
 hc : CellsOf F p L
 hd : zv F (svS G s w v o0 o1 o2 p)
 hs : G.obj s = none
 hu : RowsQ 10 zp G v w.U
 h0 : F8 w 0 o0
 h1 : F8 w 1 o1
 h2 : F8 w 2 o2
theorem vp (G : Store) (s : Nat) (w : Wld) (v o0 o1 o2 : AV) (p : Nat) : (svS G s w v o0 o1 o2 p).obj s = some (.cells (svC w v o0 o1 o2 p)) := zd _ _ _
theorem Ng {G : Store} {s : Nat} {w : Wld} {v o0 o1 o2 : AV} {p : Nat} {u : AV} {l : List Unt} (hs : G.obj s = none) (h : RowsQ 10 zp G u l) : RowsQ 10 zp (svS G s w v o0 o1 o2 p) u l := by
 rcases h with (h | ⟨b, cap, L, h1, h2, h3⟩) | h
 ·exact .inl (.inl h)
 ·refine .inl (.inr ⟨b, cap, L, h1, ?_, h3⟩)
  have : b ≠ s := fun e => by subst e; rw [hs] at h2; cases h2
  show (G.setObj s _).obj b = _
  rw [zw this]
  exact h2
 ·exact .inr h
theorem svS_has {G : Store} {s : Nat} {w : Wld} {v o0 o1 o2 : AV} {p i : Nat} : (svS G s w v o0 o1 o2 p).has i ↔ i = s \/ G.has i := by
 unfold svS Store.has
 by_cases hi : i = s
 ·subst hi
  simp [zd]
 ·rw [zw hi]
  simp [hi, Store.setObj]
theorem Py {F G : Store} {s : Nat} {w w' : Wld} {v o0 o1 o2 v' q0 q1 q2 : AV} {p : Nat} (h : zv F (svS G s w v o0 o1 o2 p)) : zv F (svS G s w' v' q0 q1 q2 p) := fun i h1 h2 => h i h1 (svS_has.2 (svS_has.1 h2))
theorem zp5 (w : Wld) (v : AV) (G : Store) (hu : RowsQ 10 zp G v w.U) (hU : w.U.length <= 1000000) (hn : ∀ u ∈ w.U, u.pos.ok) (R : AV -> Store -> Prop)
  (h : ∀ F s p L o0 o1 o2, Fresh G s -> StandR F G s p w v L o0 o1 o2 -> L.length <= w.U.length -> (yq w.U -> ∀ e, e ∈ L ↔ ∃ u ∈ w.U, u.inn = 0 /\ e = (u.id, u.pos)) -> R (ptr s) (F.un (svS G s w v o0 o1 o2 p))) : ACalls Tryz.prog 73 [.agg (j6 w v)] G R := by
 obtain ⟨oa, cap, hv, hget⟩ := hu.form
 subst hv
 refine ACalls.of_body (c := cfg 31 [9] []) zb Tryz.func73 (by rfl) (by rfl) (by rfl) (by rfl) ?_
 refine ADraw.of_sched zb (by rfl) (by rfl) Vt (by rfl) ?_
 refine ⟨zwh _ (fun F p hc hdF => ⟨(by repeat (first | exact Tv | refine ⟨rfl, ?_⟩ | refine ⟨optR (optR (optR (za _ (zd _ _ _) rfl))), ?_⟩)), ?_⟩), Tv⟩
 refine ⟨fun s hs => ⟨Tv, ?_⟩, Tv⟩
 refine ⟨⟨Tv, ?_⟩, Tv⟩
 have hs1 : ¬ F.has s /\ ¬ G.has s := by
  have := fresh_iff.1 hs
  exact ⟨fun h => this (un_has.2 (.inl h)), fun h => this (un_has.2 (.inr h))⟩
 have hsG : G.obj s = none := (Bk hs1.2).1
 have e0 : (F.un G).setObj s (.cells (svC w (.s (.slice oa w.U.length cap)) (.s (.slice none 0 0)) (.s (.slice none 0 0)) (.s (.slice none 0 0)) p)) = F.un (svS G s w (.s (.slice oa w.U.length cap)) (.s (.slice none 0 0)) (.s (.slice none 0 0)) (.s (.slice none 0 0)) p) := by
  exact qk F G s _
 have h0 : StandR F G s p w (.s (.slice oa w.U.length cap)) [] (.s (.slice none 0 0)) (.s (.slice none 0 0)) (.s (.slice none 0 0)) := ⟨hc, fun i h1 h2 => by
  rcases svS_has.1 h2 with rfl | h2
  ·exact hs1.1 h1
  ·exact hdF i h1 h2, hsG, hu, .inl rfl, .inl rfl, .inl rfl⟩
 have hsf : Fresh G s := fresh_iff.2 hs1.2
 refine AWp.loop (σ := Nat × Store × List Ent) ⟨fun q => [(3, .av (ptr s)), (11, .av (.s (.slice oa w.U.length cap))), (12, .av (int (w.U.length : Nat))), (13, .av (int (q.1 : Nat)))], fun _ => [],
  fun q st' => st' = q.2.1.un (svS G s w (.s (.slice oa w.U.length cap)) (.s (.slice none 0 0)) (.s (.slice none 0 0)) (.s (.slice none 0 0)) p) /\ StandR q.2.1 G s p w (.s (.slice oa w.U.length cap)) q.2.2 (.s (.slice none 0 0)) (.s (.slice none 0 0)) (.s (.slice none 0 0)) /\ q.1 <= w.U.length /\ q.2.2.length <= q.1 /\ (∀ e ∈ q.2.2, e.2.ok) /\ (yq w.U -> ∀ e, e ∈ q.2.2 ↔ ∃ u ∈ w.U.take q.1, u.inn = 0 /\ e = (u.id, u.pos)), fun q => w.U.length - q.1⟩ zb ?_ ?_
 ·exact ⟨(0, F, []), Tv, ⟨e0, h0, Nat.zero_le _, Nat.le_refl _, fun e he => (by cases he), fun _ e => (by simp)⟩, ⟨Tq, Tq, Tq, Tq, Tv⟩, Tv⟩
 rintro ⟨i, F1, L⟩ st' ⟨rfl, hS, hi, hL, hok, hmem⟩
 dsimp only at hS hi hL hok hmem ⊢
 refine bcd (fun h1 => ?_) (fun h1 => ?_)
 rotate_left
 ·have : i = w.U.length := by omega
  subst this
  rw [List.take_length] at hmem
  exact ret (h F1 s p L _ _ _ hsf hS hL hmem)
 have hlt : i < w.U.length := by omega
 obtain ⟨b, J, rfl, hob0⟩ := hget i hlt
 have hbs : b ≠ s := fun e => by subst e; rw [hsG] at hob0; cases hob0
 have hob : (F1.un (svS G s w (.s (.slice (some ⟨b, 0, none⟩) w.U.length cap)) (.s (.slice none 0 0)) (.s (.slice none 0 0)) (.s (.slice none 0 0)) p)).obj b = some (.cells ((rws zp w.U).flatten ++ J)) := ze (by
  show (G.setObj s _).obj b = _
  rw [zw hbs]; exact hob0)
 refine ⟨i, rfl, hlt, ?_⟩
 refine za (o := (F1.un (svS G s w _ _ _ _ p)).obj b) _ hob ?_
 refine xg (i := ti38) (row := zp w.U[i]) rfl rfl (V5 Ce hlt) ?_
 have hn2 := hn w.U[i] (List.getElem_mem hlt)
 refine yj (fun c1 => ?_) (fun c1 => ?_)
 ·refine ADraw.of_sched zb (by rfl) (by rfl) Vs (by rfl) ?_
  refine za (o := (F1.un (svS G s w _ _ _ _ p)).obj s) _ (ze (vp G s w _ _ _ _ p)) ?_
  refine ⟨Rf hS.hc hS.hd (by omega) hok w.U[i].id w.U[i].pos hn2 _ (fun F2 h2 h3 => ⟨Tv, ?_⟩), Tv⟩
  have hlen : (yu L w.U[i].id ++ [(w.U[i].id, w.U[i].pos)]).length <= i + 1 := by
   rw [List.length_append]
   have : (yu L w.U[i].id).length <= L.length := List.length_filter_le _ _
   simp only [List.length_singleton]; omega
  refine zc (by omega) ?_
  refine ⟨(i + 1, F2, _), ?_, ⟨rfl, ⟨h2, h3, hsG, hu, .inl rfl, .inl rfl, .inl rfl⟩, by dsimp only; omega, hlen, fun e he => ?_, fun hr e => ?_⟩, ⟨Tq, Tq, Tq, Tq, Tv⟩, Tv⟩
  ·show w.U.length - (i + 1) < w.U.length - i
   omega
  ·rcases List.mem_append.1 he with he | he
   ·exact hok e (mem_dropId.1 he).1
   ·simp at he; subst he; exact hn2
  ·dsimp only
   rw [List.take_succ_eq_append_getElem hlt, List.mem_append, mem_dropId, hmem hr e]
   constructor
   ·rintro (⟨⟨u, hu, h4⟩, _⟩ | he)
    ·exact ⟨u, List.mem_append.2 (.inl hu), h4⟩
    ·simp at he
     exact ⟨w.U[i], List.mem_append.2 (.inr (by simp)), c1, he⟩
   ·rintro ⟨u, hu, h4, h5⟩
    rcases List.mem_append.1 hu with hu | hu
    ·refine .inl ⟨⟨u, hu, h4, h5⟩, ?_⟩
     obtain ⟨j, hj, rfl⟩ := List.getElem_of_mem hu
     rw [List.length_take] at hj
     rw [List.getElem_take] at h5
     have := Ny hr (a := j) (b := i) (by omega) hlt
     subst h5
     show w.U[j].id ≠ w.U[i].id
     omega
    ·simp at hu
     subst hu
     exact .inr (by simp [h5])
 ·refine zc (by omega) ?_
  refine ⟨(i + 1, F1, L), ?_, ⟨rfl, hS, by dsimp only; omega, by dsimp only; omega, hok, fun hr e => ?_⟩, ⟨Tq, Tq, Tq, Tq, Tv⟩, Tv⟩
  ·show w.U.length - (i + 1) < w.U.length - i
   omega
  ·dsimp only
   rw [hmem hr e, List.take_succ_eq_append_getElem hlt]
   constructor
   ·rintro ⟨u, hu, h3⟩; exact ⟨u, List.mem_append.2 (.inl hu), h3⟩
   ·rintro ⟨u, hu, h3, h4⟩
    rcases List.mem_append.1 hu with hu | hu
    ·exact ⟨u, hu, h3, h4⟩
    ·simp at hu
     subst hu
     exact absurd h3 c1
theorem zj5 {F : Store} {s p : Nat} {G : Store} {w : Wld} {v : AV} {L : List Ent} {o0 o1 o2 : AV} (hS : StandR F G s p w v L o0 o1 o2) (hg : zi w.G) (hB : w.B.length <= 1000000000000) (hb : ∀ b ∈ w.B, yc b /\ onP w.G b) (c : Int) (hc : c = 0 \/ c = 1 \/ c = 2) (R : AV -> Store -> Prop)
  (h : ∀ q0 q1 q2, StandR F G s p w v L q0 q1 q2 -> R (opV w.G w.B c) (F.un (svS G s w v q0 q1 q2 p))) : ACalls Tryz.prog 219 [ptr s, int c] (F.un (svS G s w v o0 o1 o2 p)) R := by
 have ho := ze (a := F) (vp G s w v o0 o1 o2 p)
 obtain ⟨x0, y0, hne0⟩ := vx hg w.B 0
 obtain ⟨x1, y1, hne1⟩ := vx hg w.B 1
 obtain ⟨x2, y2, hne2⟩ := vx hg w.B 2
 rcases hc with rfl | rfl | rfl
 ·rcases hS.h0 with e | e
  ·subst e
   refine ACalls.of_body (c := cfg 35) zb Tryz.func219 (by rfl) (by rfl) (by rfl) (by rfl) ?_
   refine ⟨0, rfl, by decide, ?_⟩
   refine za (o := (F.un (svS G s w v _ _ _ p)).obj s) _ ho ?_
   refine ADraw.of_sched zb (by rfl) (by rfl) Fz (by rfl) ?_
   refine za (o := (F.un (svS G s w v _ _ _ p)).obj s) _ ho ?_
   refine za (o := (F.un (svS G s w v _ _ _ p)).obj s) _ ho ?_
   refine ⟨D9 w.G hg w.B hB hb 0 _ _ ⟨Tv, ?_⟩, Tv⟩
   refine ⟨0, rfl, by decide, ?_⟩
   have ho2 := ze (a := F) (vp G s w v (opV w.G w.B 0) o1 o2 p)
   have hc2 := Gw (vx hg w.B 0)
   refine ⟨?_, Tv⟩
   refine za _ rfl (kk rfl (j8 (v := opV w.G w.B 0) rfl rfl rfl rfl ?_))
   refine y7 (i := ti50) (v := opV w.G w.B 0) (b := s) (o := 0 + 8 + 0 * ti50.size) (l := svC w v _ o1 o2 p) (st2 := F.un (svS G s w v (opV w.G w.B 0) o1 o2 p)) hc2.1 hc2.2 rfl ho (show 8 + 1 <= 12 by decide) ?_ ?_
   ·rw [qk]
    unfold svS
    rw [yx]
    rfl
   refine ⟨Tv, ?_⟩
   refine ⟨0, rfl, by decide, ?_⟩
   refine za (o := (F.un (svS G s w v _ _ _ p)).obj s) _ ho2 ?_
   exact ret (h _ _ _ ⟨hS.hc, Py hS.hd, hS.hs, hS.hu, .inr rfl, hS.h1, hS.h2⟩)
  ·rw [hne0] at e
   subst e
   refine ACalls.of_body (c := cfg 35) zb Tryz.func219 (by rfl) (by rfl) (by rfl) (by rfl) ?_
   refine ⟨0, rfl, by decide, ?_⟩
   refine za (o := (F.un (svS G s w v _ _ _ p)).obj s) _ ho ?_
   refine fun bb hbb => ?_
   have hbf : bb = false := by grind
   subst hbf
   refine ⟨0, rfl, by decide, ?_⟩
   refine za (o := (F.un (svS G s w v _ _ _ p)).obj s) _ ho ?_
   refine ret ?_
   have := h _ _ _ hS
   rw [hne0] at this
   exact this
 ·rcases hS.h1 with e | e
  ·subst e
   refine ACalls.of_body (c := cfg 35) zb Tryz.func219 (by rfl) (by rfl) (by rfl) (by rfl) ?_
   refine ⟨1, rfl, by decide, ?_⟩
   refine za (o := (F.un (svS G s w v _ _ _ p)).obj s) _ ho ?_
   refine ADraw.of_sched zb (by rfl) (by rfl) Fz (by rfl) ?_
   refine za (o := (F.un (svS G s w v _ _ _ p)).obj s) _ ho ?_
   refine za (o := (F.un (svS G s w v _ _ _ p)).obj s) _ ho ?_
   refine ⟨D9 w.G hg w.B hB hb 1 _ _ ⟨Tv, ?_⟩, Tv⟩
   refine ⟨1, rfl, by decide, ?_⟩
   have ho2 := ze (a := F) (vp G s w v o0 (opV w.G w.B 1) o2 p)
   have hc2 := Gw (vx hg w.B 1)
   refine ⟨?_, Tv⟩
   refine za _ rfl (kk rfl (j8 (v := opV w.G w.B 1) rfl rfl rfl rfl ?_))
   refine y7 (i := ti50) (v := opV w.G w.B 1) (b := s) (o := 0 + 8 + 1 * ti50.size) (l := svC w v o0 _ o2 p) (st2 := F.un (svS G s w v o0 (opV w.G w.B 1) o2 p)) hc2.1 hc2.2 rfl ho (show 9 + 1 <= 12 by decide) ?_ ?_
   ·rw [qk]
    unfold svS
    rw [yx]
    rfl
   refine ⟨Tv, ?_⟩
   refine ⟨1, rfl, by decide, ?_⟩
   refine za (o := (F.un (svS G s w v _ _ _ p)).obj s) _ ho2 ?_
   exact ret (h _ _ _ ⟨hS.hc, Py hS.hd, hS.hs, hS.hu, hS.h0, .inr rfl, hS.h2⟩)
  ·rw [hne1] at e
   subst e
   refine ACalls.of_body (c := cfg 35) zb Tryz.func219 (by rfl) (by rfl) (by rfl) (by rfl) ?_
   refine ⟨1, rfl, by decide, ?_⟩
   refine za (o := (F.un (svS G s w v _ _ _ p)).obj s) _ ho ?_
   refine fun bb hbb => ?_
   have hbf : bb = false := by grind
   subst hbf
   refine ⟨1, rfl, by decide, ?_⟩
   refine za (o := (F.un (svS G s w v _ _ _ p)).obj s) _ ho ?_
   refine ret ?_
   have := h _ _ _ hS
   rw [hne1] at this
   exact this
 ·rcases hS.h2 with e | e
  ·subst e
   refine ACalls.of_body (c := cfg 35) zb Tryz.func219 (by rfl) (by rfl) (by rfl) (by rfl) ?_
   refine ⟨2, rfl, by decide, ?_⟩
   refine za (o := (F.un (svS G s w v _ _ _ p)).obj s) _ ho ?_
   refine ADraw.of_sched zb (by rfl) (by rfl) Fz (by rfl) ?_
   refine za (o := (F.un (svS G s w v _ _ _ p)).obj s) _ ho ?_
   refine za (o := (F.un (svS G s w v _ _ _ p)).obj s) _ ho ?_
   refine ⟨D9 w.G hg w.B hB hb 2 _ _ ⟨Tv, ?_⟩, Tv⟩
   refine ⟨2, rfl, by decide, ?_⟩
   have ho2 := ze (a := F) (vp G s w v o0 o1 (opV w.G w.B 2) p)
   have hc2 := Gw (vx hg w.B 2)
   refine ⟨?_, Tv⟩
   refine za _ rfl (kk rfl (j8 (v := opV w.G w.B 2) rfl rfl rfl rfl ?_))
   refine y7 (i := ti50) (v := opV w.G w.B 2) (b := s) (o := 0 + 8 + 2 * ti50.size) (l := svC w v o0 o1 _ p) (st2 := F.un (svS G s w v o0 o1 (opV w.G w.B 2) p)) hc2.1 hc2.2 rfl ho (show 10 + 1 <= 12 by decide) ?_ ?_
   ·rw [qk]
    unfold svS
    rw [yx]
    rfl
   refine ⟨Tv, ?_⟩
   refine ⟨2, rfl, by decide, ?_⟩
   refine za (o := (F.un (svS G s w v _ _ _ p)).obj s) _ ho2 ?_
   exact ret (h _ _ _ ⟨hS.hc, Py hS.hd, hS.hs, hS.hu, hS.h0, hS.h1, .inr rfl⟩)
  ·rw [hne2] at e
   subst e
   refine ACalls.of_body (c := cfg 35) zb Tryz.func219 (by rfl) (by rfl) (by rfl) (by rfl) ?_
   refine ⟨2, rfl, by decide, ?_⟩
   refine za (o := (F.un (svS G s w v _ _ _ p)).obj s) _ ho ?_
   refine fun bb hbb => ?_
   have hbf : bb = false := by grind
   subst hbf
   refine ⟨2, rfl, by decide, ?_⟩
   refine za (o := (F.un (svS G s w v _ _ _ p)).obj s) _ ho ?_
   refine ret ?_
   have := h _ _ _ hS
   rw [hne2] at this
   exact this
theorem zt9 (cs : List Value) : d9 (.tup (cs.map AV.s)) := by
 intro w T w' T' v h
 cases h with
 | tup _ c hl h =>
  refine .tup _ c hl fun i x y hx hy => ?_
  rw [List.getElem?_map] at hx
  cases hc : cs[i]? with
  | none => rw [hc] at hx; cases hx
  | some z =>
   rw [hc] at hx
   cases hx
   have := h i (.s z) y (by grind) hy
   cases this
   exact .s _
theorem im {g : Store} {v : AV} {l : List Unt} (hv : RowsQ 10 zp g v l) (hl : l.length <= 1000000000000) (hr : yq l) (id : Int) (R : AV -> Store -> Prop)
  (h : ∀ i, H0 l id i -> ∀ z : Bool, (z = true ↔ ∃ hi : i < l.length, l[i].id = id) -> R (.tup [int (i : Nat), V.bool z]) g) : ACalls Tryz.prog 75 [v, int id] g R :=
 ACalls.read (ys := [lst 10 zp l, int id]) (Q := fun r => ∃ (i : Nat) (z : Bool), r = .tup [int (i : Nat), V.bool z] /\ H0 l id i /\ (z = true ↔ ∃ hi : i < l.length, l[i].id = id)) (fun Oth M W vs sto hr => by
  obtain ⟨x, y, rfl, h1, h2⟩ := Hn hr
  exact Reads.cons (hv.borrow Ce Sd sto h1) (Reads.cons (Av h2) Reads.nil)) (Mb l hl hr id _ _ fun i hi z hz => ⟨i, z, rfl, hi, hz⟩) (fun r ⟨i, z, e, _⟩ => e ▸ zt9 [_, _]) (fun r ⟨i, z, e, hi, hz⟩ => e ▸ h i hi z hz)
theorem Vk {F : Store} {s p : Nat} {G : Store} {w : Wld} {v : AV} {L : List Ent} {o0 o1 o2 : AV} (hS : StandR F G s p w v L o0 o1 o2) (hr : yq w.U) (hU : w.U.length <= 1000000) (hn : ∀ u ∈ w.U, u.pos.ok) (hLl : L.length <= w.U.length) (hL : ww w L) (q : Vc) (hq : q.ok) (r : Int) (hrr : 0 < r /\ r <= 262144) (R : AV -> Store -> Prop)
  (h : ∀ F' us, StandR F' G s p w v L o0 o1 o2 -> Dv w q (r + 81920) us -> (us.map (·.id)).Pairwise (· < ·) -> us.length <= 1000000 -> R (lst 10 zp us) (F'.un (svS G s w v o0 o1 o2 p))) : ACalls Tryz.prog 140 [ptr s, .agg (zy q), int r] (F.un (svS G s w v o0 o1 o2 p)) R := by
 have ho := ze (a := F) (vp G s w v o0 o1 o2 p)
 refine ACalls.of_body (c := cfg 47) zb Tryz.func140 (by rfl) (by rfl) (by rfl) (by rfl) ?_
 refine ADraw.of_sched zb (by rfl) (by rfl) Vv (by rfl) ?_
 refine za (o := (F.un (svS G s w v _ _ _ p)).obj s) _ ho ?_
 refine zc (by omega) ?_
 refine ⟨gr hS.hc hS.hd (by omega) (Om hL hn) hq (r := r + 81920) ⟨by omega, by omega⟩ _ (fun F' N nv ns g1 g2 g3 g4 g5 g6 => ⟨Tv, ?_⟩), Tv⟩
 have hS' : StandR F' G s p w v L o0 o1 o2 := ⟨g1, g3, hS.hs, hS.hu, hS.h0, hS.h1, hS.h2⟩
 have ho' : ((F'.un N).un (svS G s w v o0 o1 o2 p)).obj s = some (.cells (svC w v o0 o1 o2 p)) := ze (vp G s w v o0 o1 o2 p)
 have g4' : zv (F'.un N) (svS G s w v o0 o1 o2 p) := disj_un.2 ⟨g3, g4⟩
 have hv : ∃ oa cap, nv = .s (.slice oa ns.length cap) /\ ∀ i, i < ns.length -> ∃ b J, oa = some ⟨b, 0, none⟩ /\ ((F'.un N).un (svS G s w v o0 o1 o2 p)).obj b = some (.cells (ns.map aI ++ J)) := by
  rcases H1 g5 with ⟨rfl, rfl⟩ | ⟨b, cap, J, rfl, hob, _⟩
  ·grind
  simp_all[qj,ze]
 obtain ⟨oa, cap, rfl, hget⟩ := hv
 have hrow : RowsQ 10 zp ((F'.un N).un (svS G s w v o0 o1 o2 p)) v w.U := (Ng hS.hs hS.hu).un
 have hnl : ns.length <= w.U.length := by
  have := List.Nodup.length_le_of_subset (l₂ := L.map (·.1)) (g6.1.imp fun h => by omega) (fun id hid => by
   obtain ⟨e, he, h2, _⟩ := (g6.2 id).1 hid
   grind)
  grind
 have hfin : ∀ us : List Unt, us.map (·.id) = ns -> (∀ u ∈ us, u ∈ w.U /\ u.inn = 0) -> R (lst 10 zp us) (F'.un (svS G s w v o0 o1 o2 p)) := fun us e1 e2 =>
  h F' us hS' (bh hr hL g6 e1 e2) (by rw [e1]; exact g6.1) (by grind)
 have hback := dg (S := svS G s w v o0 o1 o2 p) g2
 generalize (F'.un N).un (svS G s w v o0 o1 o2 p) = st1 at *
 refine AWp.loop (σ := Nat × AV × List Unt) ⟨fun x => [(0, .av (ptr s)), (6, .av x.2.1), (18, .av (.s (.slice oa ns.length cap))), (19, .av (int (ns.length : Nat))), (20, .av (int (x.1 : Nat)))], fun _ => [],
  fun x st' => x.1 <= ns.length /\ App 10 st1 x.2.1 (rws zp x.2.2) st' /\ x.2.2.map (·.id) = ns.take x.1 /\ ∀ u ∈ x.2.2, u ∈ w.U /\ u.inn = 0, fun x => ns.length - x.1⟩ zb ?_ ?_
 ·exact ⟨(0, _, []), Tv, ⟨Nat.zero_le _, App.start 10 st1, rfl, fun u hu => (by cases hu)⟩, ⟨Tq, Tq, Tq, Tq, Tq, Tv⟩, Tv⟩
 rintro ⟨i, v2, us⟩ st' ⟨hi, ha, hus, hin⟩
 dsimp only at hi ha hus hin ⊢
 refine bcd (fun h1 => ?_) (fun h1 => ?_)
 rotate_left
 ·have : i = ns.length := by omega
  subst this
  rw [List.take_length] at hus
  exact ⟨_, _, AV.le_trans ha.le (Tt), ha.has.trans hback, hfin us hus hin⟩
 have hlt : i < ns.length := by omega
 obtain ⟨b, J, rfl, hob⟩ := hget i hlt
 have hob' : st'.obj b = some (.cells (ns.map aI ++ J)) := by rw [ha.obj]; exact hob
 have hrow' : RowsQ 10 zp st' v w.U := by
  exact hrow.sub fun _ _ _ _ => by rw [ha.obj]
 have hos : st'.obj s = some (.cells (svC w v o0 o1 o2 p)) := by rw [ha.obj]; exact ho'
 refine ⟨i, rfl, hlt, ?_⟩
 refine za (o := st'.obj b) _ hob' ?_
 refine za (o := List.head? _) (int ns[i]) (by
  rw [List.head?_drop, show 0 + i * ti3.size = i from by show 0 + i * 1 = i; omega, List.getElem?_append_left (by simpa using hlt), List.getElem?_map, List.getElem?_eq_getElem hlt]; rfl) ?_
 refine za (o := st'.obj s) _ hos ?_
 refine im hrow' (by omega) hr ns[i] _ (fun k hk z hz => ?_)
 obtain ⟨e, he, hid, _⟩ := (g6.2 ns[i]).1 (List.getElem_mem hlt)
 obtain ⟨u, hu, hu0, rfl⟩ := (hL e).1 he
 have hfound : ∃ hk2 : k < w.U.length, w.U[k].id = ns[i] := by
  obtain ⟨j, hj, rfl⟩ := List.getElem_of_mem hu
  have h5 : j >= k := Decidable.byContradiction fun hn2 => by
   have := hk.2.1 j hj (by omega)
   grind
  have h7 : k < w.U.length := by omega
  refine ⟨h7, ?_⟩
  have h8 := hk.2.2 k h7 (Nat.le_refl _)
  have h6 : (w.U[j]).id = ns[i] := hid
  by_cases e : k = j
  ·subst e; exact h6
  ·have := Bi hr (show k < j by omega) hj
   omega
 obtain ⟨hk2, hk3⟩ := hfound
 refine za (o := st'.obj s) _ hos ?_
 obtain ⟨oa2, cap2, hv2, hget2⟩ := hrow'.form
 obtain ⟨b2, J2, rfl, hob2⟩ := hget2 k hk2
 subst hv2
 refine ⟨k, rfl, hk2, ?_⟩
 refine za (o := st'.obj b2) _ hob2 ?_
 refine xg (i := ti38) (row := zp w.U[k]) rfl rfl (V5 Ce hk2) ?_
 refine ⟨by decide, ?_⟩
 have hul : us.length = i := by
  have := congrArg List.length hus
  grind
 refine By (ie := ti38) (rows' := [zp w.U[k]]) ha ?_ ?_ ⟨?_, ?_⟩ (fun v3 st3 ha3 => ?_)
 ·rfl
 ·rfl
 ·simp only [zl, List.length_singleton, ti38]; omega
 ·grind[zl]
 refine zc (by omega) ?_
 have huk : w.U[k] = u := Ds hr (List.getElem_mem hk2) hu (by rw [hk3]; exact hid.symm)
 refine ⟨(i + 1, v3, us ++ [w.U[k]]), ?_, ⟨by dsimp only; omega, ?_, ?_, fun u2 hu2 => ?_⟩, ⟨Tq, Tq, Tq, Tq, Tq, Tv⟩, Tv⟩
 ·grind
 ·dsimp only
  unfold rws at ha3 ⊢
  rw [List.map_append]
  exact ha3
 ·simp_all
 grind
theorem zkp {F : Store} {s p : Nat} {G : Store} {w : Wld} {v : AV} {L : List Ent} {o0 o1 o2 : AV} (hS : StandR F G s p w v L o0 o1 o2) (hr : yq w.U) (hU : w.U.length <= 1000000) (hn : ∀ u ∈ w.U, u.pos.ok) (hLl : L.length <= w.U.length) (hL : ww w L) (q : Vc) (hq : q.ok) (r : Int) (hrr : 0 < r /\ r <= 262144) (R : AV -> Store -> Prop)
  (h : ∀ F' us, StandR F' G s p w v L o0 o1 o2 -> Dv w q (r + 81920) us -> us.length <= 1000000 -> R (lst 10 zp us) (F'.un (svS G s w v o0 o1 o2 p))) : ACalls Tryz.prog 140 [ptr s, .agg (zy q), int r] (F.un (svS G s w v o0 o1 o2 p)) R :=
 Vk hS hr hU hn hLl hL q hq r hrr R fun F' us a b _ d => h F' us a b d
theorem zkf {F : Store} {s p : Nat} {G : Store} {w : Wld} {v : AV} {L : List Ent} {o0 o1 o2 : AV} (hS : StandR F G s p w v L o0 o1 o2) (hg : zi w.G) (hB : w.B.length <= 1000000000000) (hb : ∀ b ∈ w.B, yc b /\ onP w.G b) (hr : yq w.U) (hU : w.U.length <= 1000000) (hn : ∀ u ∈ w.U, u.pos.ok) (hLl : L.length <= w.U.length) (hL : ww w L)
  (id k : Int) (q : Vc) (hq : q.ok) (R : AV -> Store -> Prop)
  (h : ∀ z F' q0 q1 q2, (z = true ↔ qh w id k q) -> StandR F' G s p w v L q0 q1 q2 -> R (V.bool z) (F'.un (svS G s w v q0 q1 q2 p))) : ACalls Tryz.prog 130 [ptr s, int id, int k, .agg (zy q)] (F.un (svS G s w v o0 o1 o2 p)) R := by
 have ho := ze (a := F) (vp G s w v o0 o1 o2 p)
 have hk := Ax k
 have hc := Hz k
 refine ACalls.of_body (c := cfg 56) zb Tryz.func130 (by rfl) (by rfl) (by rfl) (by rfl) ?_
 refine xx k _ _ ?_
 refine ADraw.of_sched zb (by rfl) (by rfl) Vy (by rfl) ?_
 refine za (o := (F.un (svS G s w v _ _ _ p)).obj s) _ ho ?_
 refine ⟨zj5 hS hg hB hb (zm k) hc _ (fun a0 a1 a2 hS1 => ⟨?_, ?_⟩), Tv⟩
 ·have ho1 := ze (a := F) (vp G s w v a0 a1 a2 p)
  repeat (first | exact Tv | refine ⟨rfl, ?_⟩ | refine ⟨za (o := (F.un (svS G s w v a0 a1 a2 p)).obj s) _ ho1 rfl, ?_⟩)
 refine ⟨ec w.G hg w.B (zm k) q hq (zk k) ⟨hk.1, by omega⟩ _ _ (fun z hz => ⟨Tv, ?_⟩), Tv⟩
 refine yf ?_
 refine zh (fun c1 => ?_) (fun c1 => ret (h false _ _ _ _ (by simp only [Bool.false_eq_true, false_iff]; exact fun hh => by have := hz.2 hh.1; rw [this] at c1; cases c1) hS1))
 have hfree := hz.1 c1
 refine zkp hS1 hr hU hn hLl hL q hq (zk k) ⟨hk.1, by omega⟩ _ (fun F' us hS2 hus hul => ?_)
 have hci := f7 (id := id) hfree hus
 have no : ¬ qh w id k q -> R (V.bool false) (F'.un (svS G s w v a0 a1 a2 p)) := fun hh => h false _ _ _ _ (by simp only [Bool.false_eq_true, false_iff]; exact hh) hS2
 refine AWp.loop (σ := Nat) ⟨fun i => [(1, .av (int id)), (7, .bx 7 0), (9, .bx 9 0), (32, .av (lst 10 zp us)), (33, .av (int (us.length : Nat))), (34, .av (int (i : Nat)))], fun _ => [(7, zy q), (9, v8 k)],
  fun i st' => st' = F'.un (svS G s w v a0 a1 a2 p) /\ i <= us.length /\ ∀ j, (hj : j < us.length) -> j < i -> us[j].id ≠ id -> xq q (zk k) us[j].pos (zk us[j].kind) = true, fun i => us.length - i⟩ zb ?_ ?_
 ·refine ⟨0, Tv, ⟨rfl, Nat.zero_le _, fun j _ hj => by omega⟩, ⟨Tq, Tq, Tq, Tq, ?_, Tq, Tv⟩, ⟨rfl, rfl, Tv⟩⟩
  rw [<- zl (f := zp) us]; exact Tq
 rintro i st' ⟨rfl, hi, hall⟩
 refine bcd (fun h1 => ?_) (fun h1 => ?_)
 rotate_left
 ·refine ret (h true _ _ _ _ (by
   simp only [true_iff]
   refine hci.2 fun u hu hne => ?_
   obtain ⟨j, hj, rfl⟩ := List.getElem_of_mem hu
   exact hall j hj (by omega) hne) hS2)
 have hlt : i < us.length := by omega
 have hui := (hus us[i]).1 (List.getElem_mem hlt)
 have next : (us[i].id ≠ id -> xq q (zk k) us[i].pos (zk us[i].kind) = true) -> ∀ j, (hj : j < us.length) -> j < i + 1 -> us[j].id ≠ id -> xq q (zk k) us[j].pos (zk us[j].kind) = true := fun hh j hj hji => by
  by_cases e : j = i
  ·subst e; exact hh
  ·exact hall j hj (by omega)
 refine ⟨i, rfl, za _ (zn hlt) ?_⟩
 refine ADraw.of_sched zb (by rfl) (by rfl) Vx (by rfl) ?_
 refine xd (fun c2 => ?_) (fun c2 => ?_)
 ·refine ⟨xx us[i].kind _ _ ⟨(by repeat (first | exact Tv | refine ⟨rfl, ?_⟩ | refine ⟨optR (optR (optR (za _ (zd _ _ _) rfl))), ?_⟩)), ?_⟩, Tv⟩
  have hk2 := Ax us[i].kind
  refine ⟨iw q (zk k) us[i].pos (zk us[i].kind) hq (hn _ hui.1.1) ⟨hk.1, by omega⟩ ⟨hk2.1, by omega⟩ _ _ ⟨Tv, ?_⟩, Tv⟩
  refine yf ?_
  refine zh (fun c3 => ?_) (fun c3 => ?_)
  ·refine zc (by omega) ?_
   refine ⟨i + 1, ?_, ⟨rfl, by omega, next fun _ => c3⟩, ⟨Tq, Tq, Tq, Tq, Tq, Tq, Tv⟩, ⟨rfl, rfl, Tv⟩⟩
   show us.length - (i + 1) < us.length - i
   omega
  ·refine ret (no fun hh => ?_)
   have := hci.1 hh us[i] (List.getElem_mem hlt) c2
   rw [this] at c3; cases c3
 ·refine ⟨⟨(by repeat (first | exact Tv | refine ⟨rfl, ?_⟩ | refine ⟨optR (optR (optR (za _ (zd _ _ _) rfl))), ?_⟩)), ?_⟩, Tv⟩
  refine ⟨⟨Tv, ?_⟩, Tv⟩
  refine zc (by omega) ?_
  refine ⟨i + 1, ?_, ⟨rfl, by omega, next fun hne => absurd c2 hne⟩, ⟨Tq, Tq, Tq, Tq, Tq, Tq, Tv⟩, ⟨rfl, rfl, Tv⟩⟩
  show us.length - (i + 1) < us.length - i
  omega
theorem zpc {F G : Store} {s p : Nat} {w : Wld} {v : AV} {L : List Ent} {o0 o1 o2 : AV} (hS : StandR F G s p w v L o0 o1 o2) (hos : Aq v s) (hr : yq w.U) (hU : w.U.length <= 1000000) (hL : L.length <= 1000000) (hok : ∀ e ∈ L, e.2.ok) {i : Nat} (hi : i < w.U.length) (u : Unt) (hid : w.U[i].id = u.id) (hp : u.pos.ok) (R : AV -> Store -> Prop)
  (h : ∀ F' G', StandR F' G' s p { w with U := w.U.set i u } v (D8 L u) o0 o1 o2 -> (∀ q, Aq v q -> G'.obj q = G.obj q) -> R (.tup []) (F'.un (svS G' s { w with U := w.U.set i u } v o0 o1 o2 p))) :
  ACalls Tryz.prog 150 [ptr s, .agg (zp u)] (F.un (svS G s w v o0 o1 o2 p)) R := by
 have hrow : RowsQ 10 zp (F.un (svS G s w v o0 o1 o2 p)) v w.U := (Ng hS.hs hS.hu).un
 have hs0 : (F.un (svS G s w v o0 o1 o2 p)).obj s = some (.cells (svC w v o0 o1 o2 p)) := ze (vp _ _ _ _ _ _ _ _)
 rcases hS.hu with (⟨_, hl0⟩ | ⟨b, cap, J, rfl, ho, hc1, hc2, hc3⟩) | ⟨_, _, _, hl0⟩
 ·rw [hl0] at hi; exact absurd hi (Nat.not_lt_zero i)
 rotate_left
 ·rw [hl0] at hi; exact absurd hi (Nat.not_lt_zero i)
 have hbs : b ≠ s := hos b _ _ rfl (by omega)
 have hob : (F.un (svS G s w (.s (.slice (some ⟨b, 0, none⟩) w.U.length cap)) o0 o1 o2 p)).obj b = some (.cells ((rws zp w.U).flatten ++ J)) := ze (by
  show (G.setObj s _).obj b = _
  rw [zw hbs]; exact ho)
 refine ACalls.of_body (c := cfg 44) zb Tryz.func150 (by rfl) (by rfl) (by rfl) (by rfl) ?_
 refine ADraw.of_sched zb (by rfl) (by rfl) zmo (by rfl) ?_
 refine za (o := (F.un (svS G s w _ o0 o1 o2 p)).obj s) _ hs0 ?_
 refine ⟨im hrow (by omega) hr u.id _ (fun k hk z hz => ⟨(by repeat (first | exact Tv | refine ⟨rfl, ?_⟩ | refine ⟨optR (optR (optR (za _ (zd _ _ _) rfl))), ?_⟩)), ?_⟩), Tv⟩
 have hki : k = i := by
  by_cases h1 : k < i
  ·have := hk.2.2 k (by omega) (Nat.le_refl _)
   have := Ny hr h1 hi
   omega
  ·by_cases h2 : i < k
   ·have := hk.2.1 i hi h2; omega
   ·omega
 subst hki
 refine ⟨⟨Tv, ?_⟩, Tv⟩
 refine ⟨⟨Tv, ?_⟩, Tv⟩
 refine ADraw.of_sched zb (by rfl) (by rfl) zmn (by rfl) ?_
 refine za (o := (F.un (svS G s w _ o0 o1 o2 p)).obj s) _ hs0 ?_
 refine ⟨k, rfl, hi, ?_⟩
 refine ⟨?_, Tv⟩
 refine za _ rfl (kk rfl (j8 (v := .agg (zp u)) rfl rfl rfl rfl ?_))
 refine wt (i := ti38) (v := .agg (zp u)) (xs := zp u) (b := b) (o := 0 + k * 10) (l := (rws zp w.U).flatten ++ J) rfl rfl rfl hob (by rw [List.length_append, Dp Ce, Ce]; omega) ?_
 have e0 : (F.un (svS G s w (.s (.slice (some ⟨b, 0, none⟩) w.U.length cap)) o0 o1 o2 p)).setObj b (.cells (z7 ((rws zp w.U).flatten ++ J) (0 + k * 10) (zp u))) = F.un (svS (G.setObj b (.cells ((rws zp (w.U.set k u)).flatten ++ J))) s { w with U := w.U.set k u } (.s (.slice (some ⟨b, 0, none⟩) w.U.length cap)) o0 o1 o2 p) := by
  rw [Nat.zero_add, zno Ce hi u J, qk]
  unfold svS
  rw [Fx hbs]
  rfl
 rw [e0]
 have hG : ∀ q, q ≠ b -> (G.setObj b (.cells ((rws zp (w.U.set k u)).flatten ++ J))).obj q = G.obj q := fun q hq => zw hq
 have hS' : StandR F (G.setObj b (.cells ((rws zp (w.U.set k u)).flatten ++ J))) s p { w with U := w.U.set k u } (.s (.slice (some ⟨b, 0, none⟩) w.U.length cap)) L o0 o1 o2 := by
  refine ⟨hS.hc, fun j h1 h2 => hS.hd j h1 (svS_has.2 ?_), ?_, .inl (.inr ⟨b, cap, J, by rw [List.length_set], zd _ _ _, by rw [List.length_set]; exact hc1, by rw [List.length_set]; exact hc2, hc3⟩), hS.h0, hS.h1, hS.h2⟩
  ·rcases svS_has.1 h2 with h2 | h2
   ·exact .inl h2
   ·rcases has_setObj_iff.1 h2 with rfl | h2
    ·exact .inr (Bq ho)
    ·exact .inr h2
  ·rw [hG s (Ne.symm hbs)]; exact hS.hs
 have hoffG : ∀ q, Aq (.s (.slice (some ⟨b, 0, none⟩) w.U.length cap)) q -> (G.setObj b (.cells ((rws zp (w.U.set k u)).flatten ++ J))).obj q = G.obj q := fun q hq => hG q (Ne.symm (hq b _ _ rfl (by omega)))
 generalize G.setObj b _ = G1 at hS' hoffG ⊢
 have hs1 : (F.un (svS G1 s { w with U := w.U.set k u } (.s (.slice (some ⟨b, 0, none⟩) w.U.length cap)) o0 o1 o2 p)).obj s = some (.cells (svC w (.s (.slice (some ⟨b, 0, none⟩) w.U.length cap)) o0 o1 o2 p)) := ze (vp _ _ _ _ _ _ _ _)
 refine ⟨Tv, ?_⟩
 refine yj (fun c1 => ?_) (fun c1 => ?_)
 ·refine ADraw.of_sched zb (by rfl) (by rfl) zmm (by rfl) ?_
  refine za (o := (F.un (svS G1 s _ _ o0 o1 o2 p)).obj s) _ hs1 ?_
  refine ⟨Rf hS'.hc hS'.hd (by omega) hok u.id u.pos hp _ (fun F2 h2 h3 => ⟨Tv, ?_⟩), Tv⟩
  have e9 : D8 L u = yu L u.id ++ [(u.id, u.pos)] := if_pos c1
  exact ret (h F2 G1 ⟨by rw [e9]; exact h2, h3, hS'.hs, hS'.hu, hS'.h0, hS'.h1, hS'.h2⟩ hoffG)
 ·refine ADraw.of_sched zb (by rfl) (by rfl) zml (by rfl) ?_
  refine za (o := (F.un (svS G1 s _ _ o0 o1 o2 p)).obj s) _ hs1 ?_
  refine ⟨zwg hS'.hc hS'.hd (by omega) hok u.id _ (fun F2 h2 h3 => ⟨Tv, ?_⟩), Tv⟩
  have e9 : D8 L u = yu L u.id := if_neg c1
  exact ret (h F2 G1 ⟨by rw [e9]; exact h2, h3, hS'.hs, hS'.hu, hS'.h0, hS'.h1, hS'.h2⟩ hoffG)
theorem zns (m : Int) (hm : 0 <= m) (st : Store) (R : AV -> Store -> Prop) (h : ∀ r, Bo m r -> R (int r) st) : ACalls Tryz.prog 311 [.agg (q9 m)] st R := by
 refine ACalls.of_body (c := cfg 22) zb Tryz.func311 (by rfl) (by rfl) (by rfl) (by rfl) ?_
 refine AWp.loop (σ := Nat × Int) ⟨fun x => [(1, .bx 1 0), (3, .av (u64 x.2)), (4, .av (int ((x.1 : Int) - 1)))], fun _ => [(1, q9 m)],
  fun x st' => x.1 <= 63 /\ st' = st /\ Cm m x.2 x.1, fun x => x.1⟩ zb ?_ ?_
 ·exact ⟨(63, 0), Tv, ⟨Nat.le_refl _, rfl, znv hm⟩, ⟨Tq, Tq, Tq, Tv⟩, ⟨rfl, Tv⟩⟩
 rintro ⟨k, r⟩ st' ⟨hk, rfl, hr⟩
 dsimp only at hk hr ⊢
 refine bcd (fun h1 => ?_) (fun h1 => ?_)
 rotate_left
 ·have : k = 0 := by omega
  subst this
  have hi := znx hr
  have h2 := h r hi
  have hi0 := hi.1
  exact ⟨⟨by omega, hi.2.1⟩, ret h2⟩
 cases k with
 | zero => omega
 | succ k =>
  obtain ⟨e1, e2, e3, e4⟩ := zny hr
  have e5 : ((k + 1 : Nat) : Int) - 1 = (k : Int) := by omega
  refine ⟨by omega, ?_⟩
  have e7 : j5 .or .u64 r (IntKind.u64.wrap (1 * 2 ^ (min (((k + 1 : Nat) : Int) - 1).toNat IntKind.u64.bits))) = r + 2 ^ k := by rw [e5, zkv (by omega), e1]
  have e8 : ∀ X, X = r + 2 ^ k -> 0 <= X /\ X < 18446744073709551616 /\ 0 <= X * X := fun X hX => by subst hX; exact ⟨by omega, by omega, Int.mul_nonneg (by omega) (by omega)⟩
  have e8 := e8 _ e7
  refine ADraw.of_sched zb (by rfl) (by rfl) zly (by rfl) ?_
  refine ⟨K9 _ e8.1 e8.2.1 _ _ ⟨(by repeat (first | exact Tv | refine ⟨rfl, ?_⟩ | refine ⟨optR (optR (optR (za _ (zd _ _ _) rfl))), ?_⟩)), ?_⟩, Tv⟩
  refine ⟨ii m _ hm e8.2.2 _ _ ⟨(by repeat (first | exact Tv | refine ⟨rfl, ?_⟩ | refine ⟨optR (optR (optR (za _ (zd _ _ _) rfl))), ?_⟩)), ?_⟩, Tv⟩
  have no := fun hh => znw hr hh
  have yes := fun hh => znu hr hh
  rw [<- e7] at no yes
  generalize j5 .or .u64 r (IntKind.u64.wrap (1 * 2 ^ (min (((k + 1 : Nat) : Int) - 1).toNat IntKind.u64.bits))) = X at *
  refine yf ?_
  refine bcd (fun c1 => ?_) (fun c1 => ?_)
  ·refine ⟨by unfold ye; omega, ?_⟩
   refine ⟨(k, r), ?_, ⟨by dsimp only; omega, rfl, no c1⟩, ⟨Tq, Tq, ?_, Tv⟩, ⟨rfl, Tv⟩⟩
   ·show k < k + 1
    omega
   ·rw [e5]; exact Tq
  ·refine ⟨by unfold ye; omega, ?_⟩
   refine ⟨(k, X), ?_, ⟨by dsimp only; omega, rfl, yes (by omega)⟩, ⟨Tq, Tq, ?_, Tv⟩, ⟨rfl, Tv⟩⟩
   ·show k < k + 1
    omega
   ·rw [e5]; exact Tq
theorem cn (v : Vc) (hv : v.ok) (st : Store) (R : AV -> Store -> Prop) (h : ∀ r, Bo (sqr v) r -> R (int r) st) : ACalls Tryz.prog 231 [.agg (zy v)] st R := by
 have hb := Hg hv
 refine ACalls.of_body (c := cfg 6) zb Tryz.func231 (by rfl) (by rfl) (by rfl) (by rfl) ?_
 refine Vd v hv _ _ ?_
 refine zns (sqr v) (by unfold sqr; omega) _ _ (fun r hr => ?_)
 exact ret (h r hr)
theorem R4 (v : Vc) (st : Store) (R : AV -> Store -> Prop) (h : R (.agg (zy (qi v))) st) : ACalls Tryz.prog 232 [.agg (zy v)] st R := by
 refine ACalls.of_body (c := cfg 10) zb Tryz.func232 (by rfl) (by rfl) (by rfl) (by rfl) ?_
 refine ADraw.of_sched zb (by rfl) (by rfl) zl3 (by rfl) ?_
 refine ⟨Du v.1 _ _ ⟨(by repeat (first | exact Tv | refine ⟨rfl, ?_⟩ | refine ⟨optR (optR (optR (za _ (zd _ _ _) rfl))), ?_⟩)), ?_⟩, Tv⟩
 refine ⟨Du v.2 _ _ ⟨(by repeat (first | exact Tv | refine ⟨rfl, ?_⟩ | refine ⟨optR (optR (optR (za _ (zd _ _ _) rfl))), ?_⟩)), ?_⟩, Tv⟩
 refine ⟨⟨(by repeat (first | exact Tv | refine ⟨rfl, ?_⟩ | refine ⟨optR (optR (optR (za _ (zd _ _ _) rfl))), ?_⟩)), ?_⟩, Tv⟩
 exact ret h
theorem Sa (a b : Vc) (ha : a.ok) (hb : b.ok) (st : Store) (R : AV -> Store -> Prop) (h : R (.agg (zy (qv a b))) st) : ACalls Tryz.prog 141 [.agg (zy a), .agg (zy b)] st R := by
 refine ACalls.of_body (c := cfg 16) zb Tryz.func141 (by rfl) (by rfl) (by rfl) (by rfl) ?_
 refine ADraw.of_sched zb (by rfl) (by rfl) zm1 (by rfl) ?_
 refine ⟨Df a.1 b.1 ha.1 hb.1 _ _ ⟨(by repeat (first | exact Tv | refine ⟨rfl, ?_⟩ | refine ⟨optR (optR (optR (za _ (zd _ _ _) rfl))), ?_⟩)), ?_⟩, Tv⟩
 refine ⟨Df a.2 b.2 ha.2 hb.2 _ _ ⟨(by repeat (first | exact Tv | refine ⟨rfl, ?_⟩ | refine ⟨optR (optR (optR (za _ (zd _ _ _) rfl))), ?_⟩)), ?_⟩, Tv⟩
 refine ⟨⟨(by repeat (first | exact Tv | refine ⟨rfl, ?_⟩ | refine ⟨optR (optR (optR (za _ (zd _ _ _) rfl))), ?_⟩)), ?_⟩, Tv⟩
 exact ret h
theorem zu6 (lo y : Int) (h0 : 0 <= lo) (h1 : lo < 18446744073709551616) (h2 : 0 < y) (h3 : y < 18446744073709551616) (st : Store) (R : AV -> Store -> Prop) (h : R (.tup [u64 (lo / y), u64 (lo % y)]) st) : ACalls Tryz.prog 313 [u64 0, u64 lo, u64 y] st R := by
 have e1 : lo.tdiv y = lo / y := Int.tdiv_eq_ediv_of_nonneg h0
 have e2 : lo.tmod y = lo % y := Int.tmod_eq_emod_of_nonneg h0
 have b1 : lo / y <= lo := Int.ediv_le_self _ h0
 have b0 : 0 <= lo / y := Int.ediv_nonneg h0 (by omega)
 have w : IntKind.u64.wrap (lo.tdiv y) = lo / y := by rw [e1]; exact ks b0 (by omega)
 refine ACalls.of_body (c := cfg 135) zb Tryz.func313 (by rfl) (by rfl) (by rfl) (by rfl) ?_
 refine yj (fun c1 => absurd c1 (by omega)) (fun c1 => ?_)
 refine bcd (fun c2 => absurd c2 (by omega)) (fun c2 => ?_)
 refine ADraw.of_sched zb (by rfl) (by rfl) zlx (by rfl) ?_
 refine ⟨by omega, ?_⟩
 refine ⟨by omega, ?_⟩
 refine ⟨⟨(by repeat (first | exact Tv | refine ⟨rfl, ?_⟩ | refine ⟨optR (optR (optR (za _ (zd _ _ _) rfl))), ?_⟩)), ⟨⟨Tv, ?_⟩, Tv⟩⟩, Tv⟩
 rw [w, e2]
 exact ret h
theorem nrm_lt {n : Int} : nrm n < 0 ↔ n < 0 := by unfold nrm; split <;> omega
theorem zw2 {c : Int} (h : -4611686018427387904 <= c /\ c <= 4611686018427387904) : asz c = if c < 0 then -c else c := by
 unfold asz
 rw [wx (by omega)]
theorem Wt (c most long : Int) (hc : -1099511627776 <= c /\ c <= 1099511627776) (hm : 0 <= most /\ most <= 1048576) (hl : 0 < long /\ long < 9223372036854775808) (st : Store) (R : AV -> Store -> Prop) (h : R (int (xh c most long)) st) :
  ACalls Tryz.prog 233 [int c, int most, int long] st R := by
 have hasz := zw2 (c := c) (by omega)
 obtain ⟨x, hx⟩ : ∃ x, x = asz c := ⟨_, rfl⟩
 have hx0 : 0 <= x /\ x <= 1099511627776 := by rw [hx, hasz]; split <;> omega
 have hp0 : 0 <= x * most := Int.mul_nonneg hx0.1 hm.1
 have hp1 : x * most <= 1099511627776 * 1048576 := Int.mul_le_mul hx0.2 hm.2 hm.1 (by omega)
 have hq1 : x * most / long <= x * most := Int.ediv_le_self _ hp0
 have hq0 : 0 <= x * most / long := Int.ediv_nonneg hp0 (by omega)
 have w1 : IntKind.u64.wrap most = most := ks (by omega) (by omega)
 have w2 : IntKind.u64.wrap long = long := ks (by omega) (by omega)
 refine ACalls.of_body (c := cfg 39) zb Tryz.func233 (by rfl) (by rfl) (by rfl) (by rfl) ?_
 refine Ro c ⟨by omega, by omega⟩ _ _ ?_
 rw [<- hx]
 show ACalls _ _ [u64 x, u64 (IntKind.u64.wrap most)] _ _
 rw [w1]
 refine Ow x most hx0.1 (by omega) hm.1 (by omega) _ _ ?_
 have e2 : q9 (x * most) = [u64 0, u64 (x * most)] := by
  unfold q9
  rw [Int.ediv_eq_zero_of_lt hp0 (by omega), Int.emod_eq_of_lt hp0 (by omega)]
 rw [e2]
 show ACalls _ _ [u64 0, u64 (x * most), u64 (IntKind.u64.wrap long)] _ _
 rw [w2]
 refine zu6 _ _ hp0 (by omega) hl.1 (by omega) _ _ ?_
 unfold xh at h
 refine bcd (fun c1 => ?_) (fun c1 => ?_)
 ·have c1 := nrm_lt.1 c1
  rw [if_pos c1] at h
  rw [if_pos c1] at hasz
  refine zc (by omega) ?_
  refine zc (by omega) ?_
  have e : 0 - x * most / long = -(-c * most / long) := by rw [hx, hasz]; omega
  rw [e]
  exact ret h
 ·have c1 : ¬ c < 0 := fun hh => c1 (nrm_lt.2 hh)
  rw [if_neg c1] at h
  rw [if_neg c1] at hasz
  refine zc (by omega) ?_
  rw [hx, hasz]
  exact ret h
theorem ml {v : Vc} (h : j9 v) : qi v = v := (Al (Dk h)).2.1
theorem Lx (v : Vc) (most : Int) (hv : j9 v) (hm : -9223372036854775808 <= most /\ most <= 1048576) (st : Store) (R : AV -> Store -> Prop) (h : R (.agg (zy (xa v most))) st) :
  ACalls Tryz.prog 144 [.agg (zy v), int most] st R := by
 have hn := ml hv
 have hsq := (Al (Dk hv)).2.2.1
 have hri := Dr hsq
 unfold xa at h
 rw [<- Gc] at h
 have hmx : 0 <= max2 most 0 /\ max2 most 0 <= 1048576 := by rw [Gc]; omega
 obtain ⟨r0, r1, _, _⟩ := hri
 refine ACalls.of_body (c := cfg 27) zb Tryz.func144 (by rfl) (by rfl) (by rfl) (by rfl) ?_
 refine R4 v _ _ ?_
 rw [hn] at h ⊢
 refine cn v (om hv) _ _ (fun r hr => ?_)
 have hr := V9 hsq hr
 subst hr
 generalize max2 most 0 = m at *
 generalize xm (sqr v) = L at *
 refine bcd (fun c1 => ?_) (fun c1 => ?_)
 ·rw [if_pos c1] at h
  exact ret h
 rw [if_neg c1] at h
 have e1 : nrm v.1 = v.1 := congrArg Prod.fst hn
 have e2 : nrm v.2 = v.2 := congrArg Prod.snd hn
 rw [e1, e2] at h
 refine ADraw.of_sched zb (by rfl) (by rfl) zmx (by rfl) ?_
 refine ⟨Wt v.1 m L hv.1 hmx (by omega) _ _ ⟨(by repeat (first | exact Tv | refine ⟨rfl, ?_⟩ | refine ⟨optR (optR (optR (za _ (zd _ _ _) rfl))), ?_⟩)), ?_⟩, Tv⟩
 refine ⟨Wt v.2 m L hv.2 hmx (by omega) _ _ ⟨(by repeat (first | exact Tv | refine ⟨rfl, ?_⟩ | refine ⟨optR (optR (optR (za _ (zd _ _ _) rfl))), ?_⟩)), ?_⟩, Tv⟩
 refine ⟨⟨(by repeat (first | exact Tv | refine ⟨rfl, ?_⟩ | refine ⟨optR (optR (optR (za _ (zd _ _ _) rfl))), ?_⟩)), ?_⟩, Tv⟩
 exact ret h
theorem og (p q : Vc) (s : Int) (hp : yr p) (hq : yr q) (hs : 0 <= s /\ s <= 1048576) (st : Store) (R : AV -> Store -> Prop) (h : R (.agg (zy (jo p q s))) st) : ACalls Tryz.prog 151 [.agg (zy p), .agg (zy q), int s] st R := by
 have hp' : p.ok := by unfold yr at hp; exact ⟨⟨by omega, by omega⟩, ⟨by omega, by omega⟩⟩
 have hq' : q.ok := by unfold yr at hq; exact ⟨⟨by omega, by omega⟩, ⟨by omega, by omega⟩⟩
 refine ACalls.of_body (c := cfg 12) zb Tryz.func151 (by rfl) (by rfl) (by rfl) (by rfl) ?_
 refine Mq q p hq' hp' _ _ ?_
 refine Lx _ s (Iw hp hq) (by omega) _ _ ?_
 exact ret h
set_option maxRecDepth 20000 in
theorem Hr (a b : Int × Int) (st : Store) (R : AV -> Store -> Prop) (h : ∀ z : Bool, (z = true ↔ qlt a b) -> R (bool z) st) : ACalls Tryz.prog 458 [.agg (itC a), .agg (itC b)] st R := by
 refine ACalls.of_body (c := cfg 24) zb Tryz.func458 (by rfl) (by rfl) (by rfl) (by rfl) ?_
 repeat' (first | refine bcd (fun _ => ?_) (fun _ => ?_) | refine zh (fun _ => ?_) (fun _ => ?_) | refine zc (by omega) ?_ | fail)
 all_goals
  refine ret (h _ ?_)
  unfold qlt
  simp only [decide_eq_true_eq, decide_eq_false_iff_not, Bool.false_eq_true, false_iff, true_iff, beq_iff_eq, bne_iff_ne, beq_eq_false_iff_ne, ne_eq, reduceCtorEq] at *
  omega
theorem zo4 (S : Store) (R : AV -> Store -> Prop) (h : ∀ p, Fresh S p -> R (ptr p) (S.setObj p (.cells [.s (.slice none 0 0)]))) : ACalls Tryz.prog 454 [] S R := by
 refine ACalls.of_body (c := cfg 3 [2] []) zb Tryz.func454 (by rfl) (by rfl) (by rfl) (by rfl) ?_
 intro p hp
 exact ret (h p hp)
set_option maxHeartbeats 1000000 in
theorem zow {F : Store} {p : Nat} {l : List (Int × Int)} (hq : QOf F p l) (hl : l.length <= 1000000) (hh : x9 l) (x : Int × Int) (R : AV -> Store -> Prop)
  (h : ∀ F' l', QOf F' p l' -> x9 l' -> l'.Perm (x :: l) -> R (.tup []) F') : ACalls Tryz.prog 455 [ptr p, int x.1, int x.2] F R := by
 obtain ⟨v, hp, hr, hne⟩ := hq.rows
 refine ACalls.of_body (c := cfg 74) zb Tryz.func455 (by rfl) (by rfl) (by rfl) (by rfl) ?_
 refine za (o := F.obj p) _ hp ?_
 refine ⟨by decide, ?_⟩
 refine zxb (ie := ti507) rfl D2 (by decide) hr x rfl (by omega) (fun b cap L q1 q2 q3 q4 => ?_)
 have hbp : b ≠ p := by
  rcases q1 with q1 | ⟨c0, q1⟩
  ·exact fun e => by have := q1.1; rw [e, hp] at this; cases this
  ·exact hne b c0 q1
 have hp2 : (F.setObj b (.cells ((rws itC (l ++ [x])).flatten ++ L))).obj p = some (.cells [v]) := by rw [zw (Ne.symm hbp)]; exact hp
 refine Fu (i := ti503) (v := .s (.slice (some ⟨b, 0, none⟩) (l ++ [x]).length cap)) (b := p) (o := 0) (l := [v]) rfl rfl rfl hp2 (Nat.le_refl 1) ?_
 have hQ : QAt ((F.setObj b (.cells ((rws itC (l ++ [x])).flatten ++ L))).setObj p (.cells (z7 [v] 0 [.s (.slice (some ⟨b, 0, none⟩) (l ++ [x]).length cap)]))) p b cap (l ++ [x]) L :=
  ⟨zd _ _ _, by rw [zw hbp]; exact zd _ _ _, hbp, q2, q3, q4⟩
 have hU := zoy hh x
 have hP := zox l x
 have hlen : (l ++ [x]).length = l.length + 1 := by simp
 generalize hm : l ++ [x] = m at hQ hU hP hlen ⊢
 generalize (F.setObj b (.cells ((rws itC m).flatten ++ L))).setObj p _ = F1 at hQ ⊢
 refine za (o := F1.obj p) _ hQ.hp ?_
 refine zc (by omega) ?_
 refine AWp.loop (σ := Nat × Store × List (Int × Int)) ⟨fun q => [(0, .av (ptr p)), (6, .av (int (q.1 : Nat)))], fun _ => [],
  fun q st' => st' = q.2.1 /\ QAt q.2.1 p b cap q.2.2 L /\ UpF (qat q.2.2) q.2.2.length q.1 /\ q.2.2.Perm (x :: l) /\ q.2.2.length = l.length + 1 /\ q.1 < q.2.2.length, fun q => q.1⟩ zb ?_ ?_
 ·refine ⟨(l.length, F1, m), Tv, ⟨rfl, hQ, hU, hP, hlen, by dsimp only; omega⟩, ⟨Tq, ?_, Tv⟩, Tv⟩
  show LV.le (.av (int ((m.length : Int) - 1))) (.av (int (l.length : Nat)))
  rw [show (m.length : Int) - 1 = (l.length : Nat) by omega]
  exact Tq
 rintro ⟨i, F2', m2⟩ F2 ⟨rfl, hQ, hU, hP, hlen, hi⟩
 dsimp only at hQ hU hP hlen hi ⊢
 refine bcd (fun c1 => ?_) (fun c1 => ?_)
 rotate_left
 ·have : i = 0 := by omega
  subst this
  exact ret (h F2 m2 (.inr ⟨b, cap, L, hQ⟩) (Wi hU (.inl rfl)) hP)
 have hpar : ((i : Int) - 1).tdiv 2 = (par i : Nat) := by
  unfold par
  rw [Int.tdiv_eq_ediv_of_nonneg (by omega)]
  omega
 have hpl : par i < m2.length := by have := vh (show 0 < i by omega); omega
 refine zc (by omega) ?_
 refine ⟨by decide, ?_⟩
 refine zc (by rw [hpar]; omega) ?_
 refine ADraw.of_sched zb (by rfl) (by rfl) zlk (by rfl) ?_
 refine za (o := F2.obj p) _ hQ.hp ?_
 refine ⟨i, rfl, hi, ?_⟩
 refine za (o := F2.obj b) _ hQ.hb ?_
 refine xg (i := ti507) (row := itC (qat m2 i)) rfl rfl (x6 hi) ?_
 refine za (o := F2.obj p) _ hQ.hp ?_
 refine ⟨par i, hpar, hpl, ?_⟩
 refine za (o := F2.obj b) _ hQ.hb ?_
 refine xg (i := ti507) (row := itC (qat m2 (par i))) rfl rfl (x6 hpl) ?_
 refine ⟨Hr _ _ _ _ (fun z hz => ⟨Tv, ?_⟩), Tv⟩
 refine yf ?_
 refine zh (fun c2 => ?_) (fun c2 => ?_)
 rotate_left
 ·exact ret (h F2 m2 (.inr ⟨b, cap, L, hQ⟩) (Wi hU (.inr fun hh => by rw [hz.2 hh] at c2; cases c2)) hP)
 obtain ⟨hU2, hP2⟩ := zov hU (by omega) hi (hz.1 c2)
 have hS1 := hQ.set hi (qat m2 (par i))
 have hpl2 : par i < (m2.set i (qat m2 (par i))).length := by rw [List.length_set]; exact hpl
 have hS2 := hS1.set hpl2 (qat m2 i)
 refine ADraw.of_sched zb (by rfl) (by rfl) zlj (by rfl) ?_
 refine za (o := F2.obj p) _ hQ.hp ?_
 refine za (o := F2.obj p) _ hQ.hp ?_
 refine za (o := F2.obj p) _ hQ.hp ?_
 refine ⟨par i, hpar, hpl, ?_⟩
 refine za (o := F2.obj b) _ hQ.hb ?_
 refine xg (i := ti507) (row := itC (qat m2 (par i))) rfl rfl (x6 hpl) ?_
 refine za (o := F2.obj p) _ hQ.hp ?_
 refine ⟨i, rfl, hi, ?_⟩
 refine za (o := F2.obj b) _ hQ.hb ?_
 refine xg (i := ti507) (row := itC (qat m2 i)) rfl rfl (x6 hi) ?_
 refine ⟨i, rfl, hi, ?_⟩
 refine ⟨?_, Tv⟩
 refine za _ rfl (kk rfl (j8 (v := .agg (itC (qat m2 (par i)))) rfl rfl rfl rfl ?_))
 refine wt (i := ti507) (xs := itC (qat m2 (par i))) rfl rfl rfl hQ.hb (Bn hi _) ?_
 refine ⟨Tv, ?_⟩
 refine ⟨par i, hpar, hpl, ?_⟩
 refine ⟨?_, Tv⟩
 refine za _ rfl (kk rfl (j8 (v := .agg (itC (qat m2 i))) rfl rfl rfl rfl ?_))
 refine wt (i := ti507) (xs := itC (qat m2 i)) rfl rfl rfl hS1.hb (Bn hpl2 _) ?_
 refine ⟨Tv, ?_⟩
 have hlen2 : (xz m2 i (par i)).length = m2.length := Fq _ _ _
 refine ⟨(par i, _, xz m2 i (par i)), ?_, ⟨rfl, hS2, hU2, hP2.trans hP, by dsimp only; omega, by dsimp only; omega⟩, ⟨Tq, ?_, Tv⟩, Tv⟩
 ·show par i < i
  exact vh (by omega)
 ·rw [hpar]; exact Tq
theorem LV.le_int {a b : Int} (h : a = b) : LV.le (.av (int a)) (.av (int b)) := by subst h; exact Tq
set_option maxHeartbeats 2000000 in
theorem zoz {F : Store} {p : Nat} {l : List (Int × Int)} (hq : QOf F p l) (hl : l.length <= 1000000) (hh : x9 l) (R : AV -> Store -> Prop)
  (h0 : l = [] -> R (.tup [int 0, int 0, V.bool false]) F)
  (h1 : 0 < l.length -> ∀ F' l', QOf F' p l' -> x9 l' -> l.Perm (qat l 0 :: l') -> R (.tup [int (qat l 0).1, int (qat l 0).2, V.bool true]) F') : ACalls Tryz.prog 456 [ptr p] F R := by
 by_cases hz : l.length = 0
 ·have hnil : l = [] := List.eq_nil_of_length_eq_zero hz
  obtain ⟨v, hp, hr, hne⟩ := hq.rows
  have hv : ∃ a c, v = .s (.slice a 0 c) := by
   rcases hr with ⟨rfl, _⟩ | ⟨b, cap, L, rfl, _⟩
   ·exact ⟨_, _, rfl⟩
   ·exact ⟨_, _, by rw [hz]⟩
  obtain ⟨a, c, rfl⟩ := hv
  refine ACalls.of_body (c := cfg 121) zb Tryz.func456 (by rfl) (by rfl) (by rfl) (by rfl) ?_
  refine za (o := F.obj p) _ hp ?_
  refine zc (by omega) ?_
  exact ret (h0 hnil)
 obtain ⟨b, cap, L, hQ⟩ := hq.pos (by omega)
 obtain ⟨n, hn⟩ : ∃ n, l.length = n + 1 := ⟨l.length - 1, by omega⟩
 have hc1 := hQ.h1
 have h0l : 0 < l.length := by omega
 have hnl : n < l.length := by omega
 have hnI : (l.length : Int) - 1 = (n : Nat) := by omega
 refine ACalls.of_body (c := cfg 121) zb Tryz.func456 (by rfl) (by rfl) (by rfl) (by rfl) ?_
 refine za (o := F.obj p) _ hQ.hp ?_
 refine zc (by omega) ?_
 refine bcd (fun c1 => absurd c1 (by omega)) (fun c1 => ?_)
 refine za (o := F.obj p) _ hQ.hp ?_
 refine ⟨0, rfl, h0l, ?_⟩
 refine za (o := F.obj b) _ hQ.hb ?_
 refine xg (i := ti507) (row := itC (qat l 0)) rfl rfl (x6 h0l) ?_
 refine ADraw.of_sched zb (by rfl) (by rfl) zlh (by rfl) ?_
 refine za (o := F.obj p) _ hQ.hp ?_
 refine za (o := F.obj p) _ hQ.hp ?_
 refine ⟨n, hnI, hnl, ?_⟩
 refine za (o := F.obj b) _ hQ.hb ?_
 refine xg (i := ti507) (row := itC (qat l n)) rfl rfl (x6 hnl) ?_
 refine ⟨0, rfl, h0l, ?_⟩
 refine ⟨?_, Tv⟩
 refine za _ rfl (kk rfl (j8 (v := .agg (itC (qat l n))) rfl rfl rfl rfl ?_))
 refine wt (i := ti507) (xs := itC (qat l n)) rfl rfl rfl hQ.hb (Bn h0l _) ?_
 refine ⟨Tv, ?_⟩
 have hQ1 := hQ.set h0l (qat l n)
 have hls : (l.set 0 (qat l n)).length = n + 1 := by rw [List.length_set]; exact hn
 refine za _ hQ1.hp ?_
 refine ⟨0, n, rfl, hnI, Nat.zero_le _, by omega, .inl ⟨by omega, ?_⟩⟩
 refine Fu (i := ti503) (v := .s (.slice (some ⟨b, 0, none⟩) n cap)) (b := p) (o := 0) (l := [.s (.slice (some ⟨b, 0, none⟩) (l.set 0 (qat l n)).length cap)]) rfl rfl rfl hQ1.hp (Nat.le_refl 1) ?_
 have hQ2 := hQ1.cut (n := n) (by omega)
 have hD := zo2 hn hh
 have hpm := zo0 hn
 have hln : ((l.set 0 (qat l n)).take n).length = n := by rw [List.length_take]; omega
 have hfin : ∀ F' l', QOf F' p l' -> x9 l' -> l'.Perm ((l.set 0 (qat l n)).take n) -> R (.tup [int (qat l 0).1, int (qat l 0).2, V.bool true]) F' := fun F' l' g1 g2 g3 => h1 h0l F' l' g1 g2 (hpm.trans (List.Perm.cons _ g3.symm))
 generalize (rws itC ((l.set 0 (qat l n)).drop n)).flatten ++ L = L2 at hQ2
 generalize ((l.set 0 (qat l n)).take n) = m0 at hQ2 hD hln hfin
 refine AWp.loop (σ := Nat × Store × List (Int × Int)) ⟨fun q => [(0, .av (ptr p)), (5, .av (int (n : Nat))), (6, .bx 6 0), (7, .av (int (q.1 : Nat)))], fun _ => [(6, itC (qat l 0))],
  fun q st' => st' = q.2.1 /\ QAt q.2.1 p b cap q.2.2 L2 /\ Bz (qat q.2.2) q.2.2.length q.1 /\ q.2.2.Perm m0 /\ q.2.2.length = n /\ q.1 <= n, fun q => n - q.1⟩ zb ?_ ?_
 ·exact ⟨(0, _, m0), Tv, ⟨rfl, hQ2, hD, List.Perm.refl _, hln, Nat.zero_le _⟩, ⟨Tq, LV.le_int hnI, Tq, Tq, Tv⟩, ⟨rfl, Tv⟩⟩
 rintro ⟨i, F2', m⟩ F2 ⟨rfl, hQ, hD, hP, hlen, hin⟩
 dsimp only at hQ hD hP hlen hin ⊢
 refine zc (by omega) ?_
 refine zc (by omega) ?_
 refine bcd (fun c1 => ?_) (fun c1 => ?_)
 ·have hF := hfin F2 m (.inr ⟨b, cap, _, hQ⟩) (zo3 hD (by omega)) hP
  refine ADraw.of_sched zb (by rfl) (by rfl) Kc (by rfl) ?_
  refine ⟨⟨⟨rfl, Tv⟩, ⟨⟨Tv, ⟨⟨Tv, ?_⟩, Tv⟩⟩, Tv⟩⟩, Tv⟩
  exact ret hF
 have hil : i < m.length := by omega
 refine ADraw.of_sched zb (by rfl) (by rfl) zli (by rfl) ?_
 refine zc (by omega) ?_
 refine bcd (fun c3 => ?_) (fun c3 => ?_)
 rotate_left
 ·refine ⟨⟨Tv, ?_⟩, Tv⟩
  have hkl : 2 * i + 1 < m.length := by omega
  have hki : par (2 * i + 1) = i := (Ht (by omega)).2 (.inl rfl)
  have hmin := P9 (f := qat m) (n := m.length) (i := i) (k := 2 * i + 1) (.inl ⟨rfl, fun hx => by omega⟩)
  refine ADraw.of_sched zb (by rfl) (by rfl) Nv (by rfl) ?_
  refine za (o := F2.obj p) _ hQ.hp ?_
  refine ⟨2 * i + 1, by omega, hkl, ?_⟩
  refine za (o := F2.obj b) _ hQ.hb ?_
  refine xg (i := ti507) (row := itC (qat m (2 * i + 1))) rfl rfl (x6 hkl) ?_
  refine za (o := F2.obj p) _ hQ.hp ?_
  refine ⟨i, rfl, hil, ?_⟩
  refine za (o := F2.obj b) _ hQ.hb ?_
  refine xg (i := ti507) (row := itC (qat m i)) rfl rfl (x6 hil) ?_
  refine ⟨Hr _ _ _ _ (fun z hz => ⟨Tv, ?_⟩), Tv⟩
  refine yf ?_
  refine zh (fun c2 => ?_) (fun c2 => ?_)
  rotate_left
  ·have hF := hfin F2 m (.inr ⟨b, cap, _, hQ⟩) (N8 hD hmin (fun hh => by rw [hz.2 hh] at c2; cases c2)) hP
   refine ADraw.of_sched zb (by rfl) (by rfl) Kc (by rfl) ?_
   refine ⟨⟨⟨rfl, Tv⟩, ⟨⟨Tv, ⟨⟨Tv, ?_⟩, Tv⟩⟩, Tv⟩⟩, Tv⟩
   exact ret hF
  obtain ⟨hD2, hP2⟩ := N9 hD (by omega) hkl hki hmin (hz.1 c2)
  have hS1 := hQ.set hil (qat m (2 * i + 1))
  have hkl2 : 2 * i + 1 < (m.set i (qat m (2 * i + 1))).length := by rw [List.length_set]; exact hkl
  have hS2 := hS1.set hkl2 (qat m i)
  refine ADraw.of_sched zb (by rfl) (by rfl) Nu (by rfl) ?_
  refine za (o := F2.obj p) _ hQ.hp ?_
  refine za (o := F2.obj p) _ hQ.hp ?_
  refine za (o := F2.obj p) _ hQ.hp ?_
  refine ⟨2 * i + 1, by omega, hkl, ?_⟩
  refine za (o := F2.obj b) _ hQ.hb ?_
  refine xg (i := ti507) (row := itC (qat m (2 * i + 1))) rfl rfl (x6 hkl) ?_
  refine za (o := F2.obj p) _ hQ.hp ?_
  refine ⟨i, rfl, hil, ?_⟩
  refine za (o := F2.obj b) _ hQ.hb ?_
  refine xg (i := ti507) (row := itC (qat m i)) rfl rfl (x6 hil) ?_
  refine ⟨i, rfl, hil, ?_⟩
  refine ⟨?_, Tv⟩
  refine za _ rfl (kk rfl (j8 (v := .agg (itC (qat m (2 * i + 1)))) rfl rfl rfl rfl ?_))
  refine wt (i := ti507) (xs := itC (qat m (2 * i + 1))) rfl rfl rfl hQ.hb (Bn hil _) ?_
  refine ⟨Tv, ?_⟩
  refine ⟨2 * i + 1, by omega, hkl, ?_⟩
  refine ⟨?_, Tv⟩
  refine za _ rfl (kk rfl (j8 (v := .agg (itC (qat m i))) rfl rfl rfl rfl ?_))
  refine wt (i := ti507) (xs := itC (qat m i)) rfl rfl rfl hS1.hb (Bn hkl2 _) ?_
  refine ⟨Tv, ?_⟩
  have hlen2 : (xz m i (2 * i + 1)).length = m.length := Fq _ _ _
  refine ⟨(2 * i + 1, _, xz m i (2 * i + 1)), ?_, ⟨rfl, hS2, hD2, hP2.trans hP, by dsimp only; omega, by dsimp only; omega⟩, ⟨Tq, Tq, Tq, ?_, Tv⟩, ⟨rfl, Tv⟩⟩
  ·show n - (2 * i + 1) < n - i
   omega
  ·exact LV.le_int (by omega)
 refine za (o := F2.obj p) _ hQ.hp ?_
 refine zc (by omega) ?_
 have hkl1 : 2 * i + 2 < m.length := by omega
 have hkl0 : 2 * i + 1 < m.length := by omega
 refine ⟨2 * i + 2, by omega, hkl1, ?_⟩
 refine za (o := F2.obj b) _ hQ.hb ?_
 refine xg (i := ti507) (row := itC (qat m (2 * i + 2))) rfl rfl (x6 hkl1) ?_
 refine za (o := F2.obj p) _ hQ.hp ?_
 refine ⟨2 * i + 1, by omega, hkl0, ?_⟩
 refine za (o := F2.obj b) _ hQ.hb ?_
 refine xg (i := ti507) (row := itC (qat m (2 * i + 1))) rfl rfl (x6 hkl0) ?_
 refine ⟨Hr _ _ _ _ (fun z hz1 => ⟨Tv, ?_⟩), Tv⟩
 refine zh (fun c4 => ?_) (fun c4 => ?_)
 ·refine zc (by omega) ?_
  have hkl : 2 * i + 2 < m.length := hkl1
  have hki : par (2 * i + 2) = i := (Ht (by omega)).2 (.inr rfl)
  have hmin := P9 (f := qat m) (n := m.length) (i := i) (k := 2 * i + 2) (.inr ⟨rfl, hz1.1 c4⟩)
  refine ADraw.of_sched zb (by rfl) (by rfl) Nv (by rfl) ?_
  refine za (o := F2.obj p) _ hQ.hp ?_
  refine ⟨2 * i + 2, by omega, hkl, ?_⟩
  refine za (o := F2.obj b) _ hQ.hb ?_
  refine xg (i := ti507) (row := itC (qat m (2 * i + 2))) rfl rfl (x6 hkl) ?_
  refine za (o := F2.obj p) _ hQ.hp ?_
  refine ⟨i, rfl, hil, ?_⟩
  refine za (o := F2.obj b) _ hQ.hb ?_
  refine xg (i := ti507) (row := itC (qat m i)) rfl rfl (x6 hil) ?_
  refine ⟨Hr _ _ _ _ (fun z hz => ⟨Tv, ?_⟩), Tv⟩
  refine yf ?_
  refine zh (fun c2 => ?_) (fun c2 => ?_)
  rotate_left
  ·have hF := hfin F2 m (.inr ⟨b, cap, _, hQ⟩) (N8 hD hmin (fun hh => by rw [hz.2 hh] at c2; cases c2)) hP
   refine ADraw.of_sched zb (by rfl) (by rfl) Kc (by rfl) ?_
   refine ⟨⟨⟨rfl, Tv⟩, ⟨⟨Tv, ⟨⟨Tv, ?_⟩, Tv⟩⟩, Tv⟩⟩, Tv⟩
   exact ret hF
  obtain ⟨hD2, hP2⟩ := N9 hD (by omega) hkl hki hmin (hz.1 c2)
  have hS1 := hQ.set hil (qat m (2 * i + 2))
  have hkl2 : 2 * i + 2 < (m.set i (qat m (2 * i + 2))).length := by rw [List.length_set]; exact hkl
  have hS2 := hS1.set hkl2 (qat m i)
  refine ADraw.of_sched zb (by rfl) (by rfl) Nu (by rfl) ?_
  refine za (o := F2.obj p) _ hQ.hp ?_
  refine za (o := F2.obj p) _ hQ.hp ?_
  refine za (o := F2.obj p) _ hQ.hp ?_
  refine ⟨2 * i + 2, by omega, hkl, ?_⟩
  refine za (o := F2.obj b) _ hQ.hb ?_
  refine xg (i := ti507) (row := itC (qat m (2 * i + 2))) rfl rfl (x6 hkl) ?_
  refine za (o := F2.obj p) _ hQ.hp ?_
  refine ⟨i, rfl, hil, ?_⟩
  refine za (o := F2.obj b) _ hQ.hb ?_
  refine xg (i := ti507) (row := itC (qat m i)) rfl rfl (x6 hil) ?_
  refine ⟨i, rfl, hil, ?_⟩
  refine ⟨?_, Tv⟩
  refine za _ rfl (kk rfl (j8 (v := .agg (itC (qat m (2 * i + 2)))) rfl rfl rfl rfl ?_))
  refine wt (i := ti507) (xs := itC (qat m (2 * i + 2))) rfl rfl rfl hQ.hb (Bn hil _) ?_
  refine ⟨Tv, ?_⟩
  refine ⟨2 * i + 2, by omega, hkl, ?_⟩
  refine ⟨?_, Tv⟩
  refine za _ rfl (kk rfl (j8 (v := .agg (itC (qat m i))) rfl rfl rfl rfl ?_))
  refine wt (i := ti507) (xs := itC (qat m i)) rfl rfl rfl hS1.hb (Bn hkl2 _) ?_
  refine ⟨Tv, ?_⟩
  have hlen2 : (xz m i (2 * i + 2)).length = m.length := Fq _ _ _
  refine ⟨(2 * i + 2, _, xz m i (2 * i + 2)), ?_, ⟨rfl, hS2, hD2, hP2.trans hP, by dsimp only; omega, by dsimp only; omega⟩, ⟨Tq, Tq, Tq, ?_, Tv⟩, ⟨rfl, Tv⟩⟩
  ·show n - (2 * i + 2) < n - i
   omega
  ·exact LV.le_int (by omega)
 ·have hkl : 2 * i + 1 < m.length := hkl0
  have hki : par (2 * i + 1) = i := (Ht (by omega)).2 (.inl rfl)
  have hmin := P9 (f := qat m) (n := m.length) (i := i) (k := 2 * i + 1) (.inl ⟨rfl, fun hx hh => by rw [hz1.2 hh] at c4; cases c4⟩)
  refine ADraw.of_sched zb (by rfl) (by rfl) Nv (by rfl) ?_
  refine za (o := F2.obj p) _ hQ.hp ?_
  refine ⟨2 * i + 1, by omega, hkl, ?_⟩
  refine za (o := F2.obj b) _ hQ.hb ?_
  refine xg (i := ti507) (row := itC (qat m (2 * i + 1))) rfl rfl (x6 hkl) ?_
  refine za (o := F2.obj p) _ hQ.hp ?_
  refine ⟨i, rfl, hil, ?_⟩
  refine za (o := F2.obj b) _ hQ.hb ?_
  refine xg (i := ti507) (row := itC (qat m i)) rfl rfl (x6 hil) ?_
  refine ⟨Hr _ _ _ _ (fun z hz => ⟨Tv, ?_⟩), Tv⟩
  refine yf ?_
  refine zh (fun c2 => ?_) (fun c2 => ?_)
  rotate_left
  ·have hF := hfin F2 m (.inr ⟨b, cap, _, hQ⟩) (N8 hD hmin (fun hh => by rw [hz.2 hh] at c2; cases c2)) hP
   refine ADraw.of_sched zb (by rfl) (by rfl) Kc (by rfl) ?_
   refine ⟨⟨⟨rfl, Tv⟩, ⟨⟨Tv, ⟨⟨Tv, ?_⟩, Tv⟩⟩, Tv⟩⟩, Tv⟩
   exact ret hF
  obtain ⟨hD2, hP2⟩ := N9 hD (by omega) hkl hki hmin (hz.1 c2)
  have hS1 := hQ.set hil (qat m (2 * i + 1))
  have hkl2 : 2 * i + 1 < (m.set i (qat m (2 * i + 1))).length := by rw [List.length_set]; exact hkl
  have hS2 := hS1.set hkl2 (qat m i)
  refine ADraw.of_sched zb (by rfl) (by rfl) Nu (by rfl) ?_
  refine za (o := F2.obj p) _ hQ.hp ?_
  refine za (o := F2.obj p) _ hQ.hp ?_
  refine za (o := F2.obj p) _ hQ.hp ?_
  refine ⟨2 * i + 1, by omega, hkl, ?_⟩
  refine za (o := F2.obj b) _ hQ.hb ?_
  refine xg (i := ti507) (row := itC (qat m (2 * i + 1))) rfl rfl (x6 hkl) ?_
  refine za (o := F2.obj p) _ hQ.hp ?_
  refine ⟨i, rfl, hil, ?_⟩
  refine za (o := F2.obj b) _ hQ.hb ?_
  refine xg (i := ti507) (row := itC (qat m i)) rfl rfl (x6 hil) ?_
  refine ⟨i, rfl, hil, ?_⟩
  refine ⟨?_, Tv⟩
  refine za _ rfl (kk rfl (j8 (v := .agg (itC (qat m (2 * i + 1)))) rfl rfl rfl rfl ?_))
  refine wt (i := ti507) (xs := itC (qat m (2 * i + 1))) rfl rfl rfl hQ.hb (Bn hil _) ?_
  refine ⟨Tv, ?_⟩
  refine ⟨2 * i + 1, by omega, hkl, ?_⟩
  refine ⟨?_, Tv⟩
  refine za _ rfl (kk rfl (j8 (v := .agg (itC (qat m i))) rfl rfl rfl rfl ?_))
  refine wt (i := ti507) (xs := itC (qat m i)) rfl rfl rfl hS1.hb (Bn hkl2 _) ?_
  refine ⟨Tv, ?_⟩
  have hlen2 : (xz m i (2 * i + 1)).length = m.length := Fq _ _ _
  refine ⟨(2 * i + 1, _, xz m i (2 * i + 1)), ?_, ⟨rfl, hS2, hD2, hP2.trans hP, by dsimp only; omega, by dsimp only; omega⟩, ⟨Tq, Tq, Tq, ?_, Tv⟩, ⟨rfl, Tv⟩⟩
  ·show n - (2 * i + 1) < n - i
   omega
  ·exact LV.le_int (by omega)
theorem v7 {p : Vc} (h : yr p) : p.ok := by
 unfold yr at h
 exact ⟨⟨by omega, by omega⟩, ⟨by omega, by omega⟩⟩
theorem zpj {p q : Vc} (hp : yr p) (hq : yr q) : j9 (if y6 p q = (0, 0) then (65536, 0) else y6 p q) := by
 split
 ·unfold j9; decide
 ·exact Iw hq hp
theorem znt {v : Vc} (h : j9 v) : 0 <= xm (sqr v) := (Dr (Al (Dk h)).2.2.1).1
set_option maxRecDepth 10000 in
theorem zkw (p : Vc) (r : Int) (q : Vc) (hp : yr p) (hq : yr q) (hr : 0 <= r /\ r <= 1048576) (st : Store) (R : AV -> Store -> Prop) (h : R (.agg (zy (j2 p r q))) st) :
  ACalls Tryz.prog 142 [.agg (zy p), int r, .agg (zy q)] st R := by
 have ht := Iw hq hp
 have hsq := (Al (Dk ht)).2.2.1
 have hr0 := znt ht
 have harg := zpj hp hq
 have hri := Dr hsq
 unfold j2 at h
 refine ACalls.of_body (c := cfg 29) zb Tryz.func142 (by rfl) (by rfl) (by rfl) (by rfl) ?_
 refine Iu p q r (v7 hp) (v7 hq) (by omega) _ _ ?_
 refine yf ?_
 refine zh (fun c1 => ?_) (fun c1 => ?_)
 rotate_left
 ·rw [if_neg (by rw [c1]; decide)] at h
  exact ret h
 rw [if_pos c1] at h
 refine Mq p q (v7 hp) (v7 hq) _ _ ?_
 refine cn _ (G9 p q) _ _ (fun L hL => ?_)
 have hL2 := V9 hsq hL
 subst hL2
 have hLb : xm (sqr (y6 p q)) <= 1099511627776 * 2 := by
  obtain ⟨_, _, h3, _⟩ := hri
  have e := (Al (Dk ht)).1
  unfold j9 at ht
  generalize xm (sqr (y6 p q)) = L at *
  by_cases hh : L <= 1099511627776 * 2
  ·exact hh
  ·exfalso
   have h4 : (1099511627776 * 2 + 1) * (1099511627776 * 2 + 1) <= L * L := Int.mul_le_mul (by omega) (by omega) (by omega) (by omega)
   have h5 : (y6 p q).1 * (y6 p q).1 <= 1099511627776 * 1099511627776 := by
    rw [Dg]
    exact Int.mul_le_mul (by omega) (by omega) (by omega) (by omega)
   have h6 : (y6 p q).2 * (y6 p q).2 <= 1099511627776 * 1099511627776 := by
    rw [Dg]
    exact Int.mul_le_mul (by omega) (by omega) (by omega) (by omega)
   omega
 have hfs : yh r (xm (sqr (y6 p q))) = r - xm (sqr (y6 p q)) := by
  unfold yh
  rw [wx (by omega), Bv (by omega) (by omega)]
  omega
 refine Ck _ _ ⟨by omega, by omega⟩ ⟨by omega, by omega⟩ _ _ ?_
 rw [hfs]
 generalize xm (sqr (y6 p q)) = L at *
 generalize y6 p q = d at *
 refine zh (fun c2 => ?_) (fun c2 => ?_)
 ·have c2 : d = (0, 0) := by
   simp only [Bool.and_eq_true, beq_iff_eq] at c2
   exact Prod.ext c2.1 c2.2.1
  rw [if_pos c2] at h harg
  subst c2
  refine Lx (65536, 0) (r - L) harg (by omega) _ _ ?_
  exact ret h
 ·have c2 : ¬ d = (0, 0) := fun e => by
   rw [e] at c2
   exact absurd c2 (by decide)
  rw [if_neg c2] at h harg
  refine Lx d (r - L) harg (by omega) _ _ ?_
  exact ret h
theorem R6 {v : Vc} {m : Int} (hs : j9 v) : (xa v m).ok := by
 by_cases hm : 0 <= m
 ·have := (f8 (Dk hs) hm).1
  unfold xe at this
  exact ⟨⟨by omega, by omega⟩, ⟨by omega, by omega⟩⟩
 ·have e : xa v m = xa v 0 := by
   unfold xa
   rw [show max m 0 = max 0 0 by omega]
  rw [e]
  have := (f8 (Dk hs) (Int.le_refl 0)).1
  unfold xe at this
  exact ⟨⟨by omega, by omega⟩, ⟨by omega, by omega⟩⟩
end Go.Proofs
