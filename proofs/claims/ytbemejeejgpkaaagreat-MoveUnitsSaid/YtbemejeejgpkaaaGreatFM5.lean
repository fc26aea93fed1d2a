/- The ground on which laws of thronglaw24 are proved: contracts of functions and plain lemmas; no condition beyond the row's own. -/
import Derived.Test.YtbemejeejgpkaaaGreatRows
import Derived.Test.YtbemejeejgpkaaaGreatVJ
import Derived.Test.YtbemejeejgpkaaaGreatFMA
import Derived.Test.YtbemejeejgpkaaaGreatSK
set_option linter.unusedSimpArgs false
set_option linter.unusedVariables false
namespace Go.Proofs
open Go Go.V
set_option maxRecDepth 4000
theorem qt {U : List Unt} {J : List AV} {i j : Nat} (hi : i < U.length) (hj : j < 10) {y : AV} (hy : (untC U[i])[j]? = some y) : (((rws untC U).flatten ++ J).drop (0 + i * 10 + j)).head? = some y := by
 have hd := kw (f := untC) (L := J) y5 hi
 rw [<- List.drop_drop, hd, List.head?_drop, List.getElem?_append_left (by rw [y5]; exact hj)]
 exact hy
theorem vo {U : List Unt} {J : List AV} {i : Nat} (hi : i < U.length) : List.drop (0 + i * 10 + 3) ((rws untC U).flatten ++ J) = vecC U[i].pos ++ (List.drop 5 (untC U[i]) ++ ((rws untC (U.drop (i + 1))).flatten ++ J)) := by
 rw [<- List.drop_drop, kw (f := untC) (k := 10) y5 hi]
 rfl
theorem yj8 {N E : Store} (hd : Disj N E) {b : Nat} {X : AObj} (hE : ¬ E.has b) : (N.un E).setObj b X = E.un (N.setObj b X) := by
 have hE := v8 hE
 show Store.mk _ _ = Store.mk _ _
 congr 1
 ·funext i
  show (bif Nat.beq i b then some X else (N.un E).obj i) = match (bif Nat.beq i b then some X else N.obj i) with | some x => some x | none => E.obj i
  cases hb : Nat.beq i b with
  | true => rfl
  | false =>
   show (match E.obj i with | some x => some x | none => N.obj i) = match N.obj i with | some x => some x | none => E.obj i
   cases h1 : N.obj i with
   | none => cases E.obj i <;> rfl
   | some x => rw [(v8 (hd i (js h1))).1]
 ·funext i
  show (match E.tok i with | some x => some x | none => N.tok i) = match N.tok i with | some x => some x | none => E.tok i
  cases h1 : N.tok i with
  | none => cases E.tok i <;> rfl
  | some x => rw [(v8 (hd i (zdb h1))).2]
theorem yiy {N E : Store} (hd : Disj N E) {b : Nat} {X : AObj} (hE : ¬ E.has b) : Disj E (N.setObj b X) := by
 intro i hi hj
 by_cases hb : i = b
 ·exact hE (hb ▸ hi)
 ·refine hd i ?_ hi
  rcases hj with h | h
  ·exact .inl (by rwa [zf hb] at h)
  ·exact .inr h
theorem zry (l : List Int) (hl : l.length <= 1000000000000) (n : Int) (st : Store) (R : AV -> Store -> Prop) (h : ∀ z : Int, (z < 0 ↔ l.contains n = false) -> R (int z) st) : ACalls Tryz.prog 51 [ints l, int n] st R := by
 refine ACalls.of_body (c := cfg 19) zc Tryz.func51 (by rfl) (by rfl) (by rfl) (by rfl) ?_
 refine AWp.loop (σ := Nat) ⟨fun i => [(0, .av (ints l)), (1, .av (int n)), (5, .av (int (i : Nat)))], fun _ => [], fun i st' => st' = st /\ i <= l.length /\ ∀ j (hj : j < i) (hl : j < l.length), n ≠ l[j], fun i => l.length - i⟩ zc ?_ ?_
 ·exact ⟨0, Tv, ⟨rfl, Nat.zero_le _, fun j hj => (by omega)⟩, ⟨Tq, Tq, Tq, Tv⟩, Tv⟩
 rintro i st' ⟨rfl, hi, hno⟩
 refine zd (fun h1 => ?_) (fun h1 => ?_)
 ·have hlt : i < l.length := qz h1
  refine ⟨i, rfl, za _ (zh hlt) ?_⟩
  refine bceq (fun h2 => ?_) (fun h2 => ?_)
  ·refine ret (h _ ?_)
   have hc : l.contains n = true := by
    rw [List.contains_iff_mem]
    have h2 : l[i] = n := h2
    exact h2 ▸ List.getElem_mem hlt
   rw [hc]
   constructor
   ·intro hh; omega
   ·intro hh; cases hh
  ·refine ⟨⟨by omega, by omega⟩, ?_⟩
   refine ⟨i + 1, ?_, ⟨rfl, hlt, fun j hj hl => ?_⟩, ⟨Tq, Tq, Tq, Tv⟩, Tv⟩
   ·show l.length - (i + 1) < l.length - i
    omega
   ·by_cases hji : j = i
    ·subst hji; exact fun e => h2 e.symm
    ·exact hno j (by omega) hl
 ·have hge : i = l.length := x3 h1 hi
  subst hge
  refine ret (h (-1) ?_)
  refine ⟨fun _ => ?_, fun _ => by decide⟩
  rw [<- Bool.not_eq_true, List.contains_iff_mem]
  intro hm
  obtain ⟨j, hj, e⟩ := List.getElem_of_mem hm
  exact hno j hj hj e.symm
set_option maxHeartbeats 4000000 in
set_option maxRecDepth 20000 in
theorem zuv {fb : Nat} (w : Wld) (hw : playW w) {i : Nat} (hi : i < w.U.length) (h0 : w.U[i].inn = 0) (R : AV -> Store -> Prop)
  (h : ∀ S v, RowsQ 10 untC S v (vi w w.U[i]).U -> R (.agg (wldV (vi w w.U[i]) v)) S) :
  ACalls Tryz.prog 18 [.agg (wldC w), int w.U[i].id, ptr fb] (Store.empty.setObj fb (.cells [nil, nil, nil, nil])) R := by
 have f := mayF hw.1
 have hU := f.hU
 have hkk := f.hk _ (List.getElem_mem hi)
 refine ACalls.of_awp (c := cfg 225) zc Tryz.func18 (by rfl) (by rfl) (by rfl) (by rfl) ?_
 refine AWp.seq (AWp.of_vc zc ?_)
 refine AWp.seq (AWp.of_vc zc ?_)
 refine zg5 w f.fits (by omega) _ _ (fun v N hv hd => ?_)
 rcases hv with ⟨_, e⟩ | ⟨b, cap, L, rfl, ho, g1, g2, g3⟩
 ·rw [e] at hi; exact absurd hi (Nat.not_lt_zero i)
 have hvQ : RowsQ 10 untC (N.un (Store.empty.setObj fb (.cells [nil, nil, nil, nil]))) (.s (.slice (some ⟨b, 0, none⟩) w.U.length cap)) w.U := RowsO.q ((show RowsO 10 untC N _ w.U from .inr ⟨b, cap, L, rfl, ho, g1, g2, g3⟩).unL hd)
 have hoS : (N.un (Store.empty.setObj fb (.cells [nil, nil, nil, nil]))).obj b = _ := un_l hd ho
 refine AWp.seq (AWp.of_vc zc ?_)
 refine zc1 hvQ hw hi w.U[i].id rfl _ ?_
 refine AWp.seq (AWp.of_vc zc ?_)
 refine ⟨i, rfl, hi, ?_⟩
 have hdr := kw (L := L) y5 hi
 refine AWp.seq (AWp.of_vc zc ?_)
 refine za (o := (N.un (Store.empty.setObj fb (.cells [nil, nil, nil, nil]))).obj b) _ hoS ?_
 refine za _ (qt hi (j := 2) (by decide) rfl) ?_
 refine jm w.U[i].kind hkk _ _ ?_
 refine AWp.seq (AWp.of_vc zc ?_)
 refine za (o := (N.un (Store.empty.setObj fb (.cells [nil, nil, nil, nil]))).obj b) _ hoS ?_
 refine za _ (qt hi (j := 5) (by decide) rfl) ?_
 unfold vi at h
 refine bceq (fun c1 => ?_) (fun c1 => ?_)
 ·rw [if_pos c1] at h
  have hsp := zds w.U[i].kind
  have e4 : (yl w.U[i].kind).tdiv 4 = yl w.U[i].kind / 4 := Int.tdiv_eq_ediv_of_nonneg (by omega)
  have hq4 : yi ((yl w.U[i].kind).tdiv 4) := ⟨by omega, by omega⟩
  have ht : wh (zbf w w.U[i]) := zmj (za8 hw.1 (List.getElem_mem hi) h0) (fun x hx h1 => za8 hw.1 hx h1) hU
  have hcl := fun st2 R2 => kx (zbf w w.U[i]) ((yl w.U[i].kind).tdiv 4) ht (by omega) st2 R2
  refine ADraw.of_sched zc (by rfl) (by rfl) ynn (by rfl) ?_
  refine ⟨by decide, in64 hq4 ?_⟩
  refine ⟨zb5 hvQ hw hi h0 _ ⟨(by repeat (first | exact Tv | refine ⟨rfl, ?_⟩ | refine ⟨⟨by decide, in64 hq4 rfl⟩, ?_⟩)), ?_⟩, ⟨⟨(by repeat (first | exact Tv | refine ⟨rfl, ?_⟩ | refine ⟨⟨by decide, in64 hq4 rfl⟩, ?_⟩)), ⟨zb5 hvQ hw hi h0 _ ⟨(by repeat (first | exact Tv | refine ⟨rfl, ?_⟩ | refine ⟨⟨by decide, in64 hq4 rfl⟩, ?_⟩)), ?_⟩, Tv⟩⟩, Tv⟩⟩
  refine ⟨hcl _ _ ⟨(by repeat (first | exact Tv | refine ⟨rfl, ?_⟩ | refine ⟨⟨by decide, in64 hq4 rfl⟩, ?_⟩)), ⟨⟨(by repeat (first | exact Tv | refine ⟨rfl, ?_⟩ | refine ⟨⟨by decide, in64 hq4 rfl⟩, ?_⟩)), ⟨⟨(by repeat (first | exact Tv | refine ⟨rfl, ?_⟩ | refine ⟨⟨by decide, in64 hq4 rfl⟩, ?_⟩)), ?_⟩, Tv⟩⟩, Tv⟩⟩, ⟨⟨(by repeat (first | exact Tv | refine ⟨rfl, ?_⟩ | refine ⟨⟨by decide, in64 hq4 rfl⟩, ?_⟩)), ⟨hcl _ _ ⟨(by repeat (first | exact Tv | refine ⟨rfl, ?_⟩ | refine ⟨⟨by decide, in64 hq4 rfl⟩, ?_⟩)), ⟨⟨(by repeat (first | exact Tv | refine ⟨rfl, ?_⟩ | refine ⟨⟨by decide, in64 hq4 rfl⟩, ?_⟩)), ?_⟩, Tv⟩⟩, Tv⟩⟩, Tv⟩⟩
  rotate_left 2
  refine ⟨hcl _ _ ⟨(by repeat (first | exact Tv | refine ⟨rfl, ?_⟩ | refine ⟨⟨by decide, in64 hq4 rfl⟩, ?_⟩)), ⟨⟨(by repeat (first | exact Tv | refine ⟨rfl, ?_⟩ | refine ⟨⟨by decide, in64 hq4 rfl⟩, ?_⟩)), ?_⟩, Tv⟩⟩, Tv⟩
  all_goals
   have hidle : zow w w.U[i] = tryW w w.U[i] (yz (zbf w w.U[i]) ((yl w.U[i].kind).tdiv 4)) := rfl
   have hvo := kq (m := (yl w.U[i].kind).tdiv 4) ht
   rw [hidle] at h
   clear hidle hcl
   generalize yz (zbf w w.U[i]) ((yl w.U[i].kind).tdiv 4) = dv at *
   obtain ⟨dx, dy⟩ := dv
   have hTry := fun R2 h2 => zh9 hvQ hw hi h0 (dx, dy) hvo R2 h2
   refine bceq (fun c2 => ?_) (fun c2 => ?_)
   refine bceq (fun c3 => ?_) (fun c3 => ?_)
   ·have e2 : dx = 0 := c2
    have e3 : dy = 0 := c3
    subst e2 e3
    rw [(zyu w w.U[i]).2] at h
    exact ret (h _ _ hvQ)
   all_goals
    refine hTry _ (fun v2 N2 hv2 hd2 => ?_)
    have hv3 := hv2
    obtain ⟨oa2, cp2, rfl, _⟩ := hv3.form
    exact ret (h _ _ hv2)
 rw [if_neg c1] at h
 have hut := zpu hw.1 hi
 obtain ⟨goal, hgq, hgl⟩ : ∃ k : Nat, w.U[i].goal = k /\ k < w.G.T.length := by
  rcases zbo f.hg hut.2.1.1 with h1 | h1
  ·exact absurd h1 c1
  ·exact h1
 have hgoes : zd7 w w.U[i] = if w.U[i].pos = cenV w.G goal then putU w (endU 2 w.U[i]) else if jc w w.U[i] (qm w.G w.U[i].pos) then (if zac w w.U[i] (qm w.G w.U[i].pos) < 0 then putU w (endU 3 w.U[i]) else w7 w { w.U[i] with next := zac w w.U[i] (qm w.G w.U[i].pos) }) else w7 w w.U[i] := by
  have e : w.U[i].goal.toNat = goal := by rw [hgq, Int.toNat_natCast]
  unfold zd7
  rw [e]
 rw [hgoes] at h
 have hset : ∀ (S : Store) (u' : Unt), S.obj b = some (.cells ((rws untC (w.U.set i u')).flatten ++ L)) -> RowsQ 10 untC S (.s (.slice (some ⟨b, 0, none⟩) w.U.length cap)) (w.U.set i u') := fun S u' hS => RowsO.q (.inr ⟨b, cap, L, by rw [List.length_set], hS, by rw [List.length_set]; exact g1, by rw [List.length_set]; exact g2, g3⟩)
 refine AWp.seq (AWp.of_vc zc ?_)
 refine AWp.seq (AWp.of_vc zc ?_)
 refine ADraw.of_sched zc (by rfl) (by rfl) ygr (by rfl) ?_
 refine za (o := (N.un (Store.empty.setObj fb (.cells [nil, nil, nil, nil]))).obj b) _ hoS ?_
 refine zm (i := ti49) (row := vecC w.U[i].pos) rfl rfl (vo hi) ?_
 refine za (o := (N.un (Store.empty.setObj fb (.cells [nil, nil, nil, nil]))).obj b) _ hoS ?_
 refine za _ (qt hi (j := 5) (by decide) rfl) ?_
 refine ⟨ju w.G f.hg goal hgl w.U[i].goal hgq _ _ ⟨(by repeat (first | exact Tv | refine ⟨rfl, ?_⟩ | refine ⟨za (o := (N.un (Store.empty.setObj fb (.cells [nil, nil, nil, nil]))).obj b) _ hoS (zm (i := ti49) (row := vecC w.U[i].pos) rfl rfl (vo hi) rfl), ?_⟩)), ?_⟩, Tv⟩
 refine zd (fun c2 => ?_) (fun c2 => ?_)
 ·have e : w.U[i].pos = cenV w.G goal := by
   simp only [Bool.and_eq_true, beq_iff_eq] at c2
   exact Prod.ext c2.1 c2.2.1
  rw [if_pos e, qe hw.1.1.2.1 hi (u := endU 2 w.U[i]) rfl] at h
  refine zdu hoS hi 2 _ ?_
  exact ret (h _ _ (hset _ _ (zb _ _ _)))
 have e : ¬ w.U[i].pos = cenV w.G goal := fun e => by
  simp only [e, Bool.and_eq_false_iff, beq_eq_false_iff_ne] at c2
  rcases c2 with c2 | c2 | c2
  ·exact c2 rfl
  ·exact c2 rfl
  ·cases c2
 rw [if_neg e] at h
 have hon := zvy hw.1 hi h0
 have hown := zqe hw.1 hi h0
 refine AWp.seq (AWp.of_vc zc ?_)
 refine ADraw.of_sched zc (by rfl) (by rfl) ygq (by rfl) ?_
 refine za (o := (N.un (Store.empty.setObj fb (.cells [nil, nil, nil, nil]))).obj b) _ hoS ?_
 refine zm (i := ti49) (row := vecC w.U[i].pos) rfl rfl (vo hi) ?_
 refine ⟨yhz w.G f.hg w.U[i].pos hon _ _ ⟨(by repeat (first | exact Tv | refine ⟨rfl, ?_⟩ | refine ⟨za (o := (N.un (Store.empty.setObj fb (.cells [nil, nil, nil, nil]))).obj b) _ hoS (zm (i := ti49) (row := vecC w.U[i].pos) rfl rfl (vo hi) rfl), ?_⟩)), ?_⟩, Tv⟩
 refine ⟨⟨Tv, ?_⟩, Tv⟩
 generalize qm w.G w.U[i].pos = own at *
 have hN : (N.un (Store.empty.setObj fb (.cells [nil, nil, nil, nil]))).obj fb = some (.cells [nil, nil, nil, nil]) := un_r (zb _ _ _)
 refine AWp.meetA (σ := Nat) ⟨fun _ => [(1, .av (int w.U[i].id)), (3, .bx 3 0), (6, .bx 6 0), (7, .av (int (i : Nat))), (8, .av (.s (.pointer (some ⟨b, 0 + i * 10, none⟩)))), (9, .bx 9 0), (13, .bx 13 0)], fun _ => [(3, wldV w (.s (.slice (some ⟨b, 0, none⟩) w.U.length cap))), (6, wld0), (9, zd4 w.U[i].kind), (13, gndC w.G)],
  fun t st' => st'.obj b = some (.cells ((rws untC (w.U.set i { w.U[i] with next := (t : Int) })).flatten ++ L)) /\ t < w.G.T.length /\ zd7 w w.U[i] = w7 w { w.U[i] with next := (t : Int) }⟩ ?_ ?_
 ·refine AWp.meet (σ := Unit) ⟨fun _ => [(1, .av (int w.U[i].id)), (2, .av (ptr fb)), (3, .bx 3 0), (6, .bx 6 0), (7, .av (int (i : Nat))), (8, .av (.s (.pointer (some ⟨b, 0 + i * 10, none⟩)))), (9, .bx 9 0), (13, .bx 13 0), (14, .av (int (own : Nat))), (137, .av (V.bool (jc w w.U[i] own)))], fun _ => [(3, wldV w (.s (.slice (some ⟨b, 0, none⟩) w.U.length cap))), (6, wld0), (9, zd4 w.U[i].kind), (13, gndC w.G)],
   fun _ st' => st' = N.un (Store.empty.setObj fb (.cells [nil, nil, nil, nil]))⟩ zc ?_ ?_
  ·refine ADraw.of_sched zc (by rfl) (by rfl) ygp (by rfl) ?_
   refine za (o := (N.un (Store.empty.setObj fb (.cells [nil, nil, nil, nil]))).obj b) _ hoS ?_
   refine za _ (qt hi (j := 6) (by decide) rfl) ?_
   refine bceq (fun d1 => ?_) (fun d1 => ?_)
   ·have hlk : jc w w.U[i] own = true := by
     have d1 : w.U[i].next = -1 := d1
     unfold jc
     rw [d1]
     rfl
    rw [hlk]
    refine ⟨⟨⟨rfl, Tv⟩, ?_⟩, Tv⟩
    refine ⟨⟨⟨rfl, Tv⟩, ?_⟩, Tv⟩
    refine ⟨⟨⟨rfl, Tv⟩, ?_⟩, Tv⟩
    refine ⟨⟨Tv, ?_⟩, Tv⟩
    exact ⟨(), rfl, ⟨Tq, Tq, Tq, Tq, Tq, Tq, Tq, Tq, Tq, Tq, Tv⟩, ⟨rfl, rfl, rfl, rfl, Tv⟩⟩
   have d1 : ¬ w.U[i].next = -1 := d1
   obtain ⟨nx, hnq, hnl⟩ : ∃ k : Nat, w.U[i].next = k /\ k < w.G.T.length := by
    rcases zbo f.hg hut.2.1.2.1 with h1 | h1
    ·exact absurd h1 d1
    ·exact h1
   have hlk : jc w w.U[i] own = (decide (w.U[i].pos = cenV w.G nx) || !okU w w.U[i] nx || (decide (w.U[i].next ≠ own) && !(jq w.G own).contains w.U[i].next)) := by
    unfold jc
    rw [decide_eq_false d1, show w.U[i].next.toNat = nx by rw [hnq, Int.toNat_natCast]]
    rfl
   refine za (o := (N.un (Store.empty.setObj fb (.cells [nil, nil, nil, nil]))).obj b) _ hoS ?_
   refine zm (i := ti49) (row := vecC w.U[i].pos) rfl rfl (vo hi) ?_
   refine za (o := (N.un (Store.empty.setObj fb (.cells [nil, nil, nil, nil]))).obj b) _ hoS ?_
   refine za _ (qt hi (j := 6) (by decide) rfl) ?_
   refine ⟨ju w.G f.hg nx hnl w.U[i].next hnq _ _ ⟨⟨za (o := (N.un (Store.empty.setObj fb (.cells [nil, nil, nil, nil]))).obj b) _ hoS (zm (i := ti49) (row := vecC w.U[i].pos) rfl rfl (vo hi) rfl), Tv⟩, ?_⟩, Tv⟩
   refine zd (fun d2 => ?_) (fun d2 => ?_)
   ·have e2 : w.U[i].pos = cenV w.G nx := by
     simp only [Bool.and_eq_true, beq_iff_eq] at d2
     exact Prod.ext d2.1 d2.2.1
    rw [hlk, decide_eq_true e2, Bool.true_or, Bool.true_or]
    refine ⟨⟨⟨rfl, Tv⟩, ?_⟩, Tv⟩
    refine ⟨⟨⟨rfl, Tv⟩, ?_⟩, Tv⟩
    refine ⟨⟨Tv, ?_⟩, Tv⟩
    exact ⟨(), rfl, ⟨Tq, Tq, Tq, Tq, Tq, Tq, Tq, Tq, Tq, Tq, Tv⟩, ⟨rfl, rfl, rfl, rfl, Tv⟩⟩
   have e2 : ¬ w.U[i].pos = cenV w.G nx := fun e => by
    simp only [e, Bool.and_eq_false_iff, beq_eq_false_iff_ne] at d2
    rcases d2 with d2 | d2 | d2
    ·exact d2 rfl
    ·exact d2 rfl
    ·cases d2
   rw [decide_eq_false e2, Bool.false_or] at hlk
   refine za (o := (N.un (Store.empty.setObj fb (.cells [nil, nil, nil, nil]))).obj b) _ hoS ?_
   refine za _ (qt hi (j := 6) (by decide) rfl) ?_
   have hgl : nx < (blL w.G.T.length (zk w.G w.B (kCls w.U[i].kind) (yy w.U[i].kind))).length := by rw [yo]; exact hnl
   refine ⟨zie w.G f.hg w.B (by have := f.hB; omega) f.hb (kCls w.U[i].kind) (zmh _) (yy w.U[i].kind) (zj5 _).1 _ _ ⟨⟨za (o := (N.un (Store.empty.setObj fb (.cells [nil, nil, nil, nil]))).obj b) _ hoS (za _ (qt hi (j := 6) (by decide) rfl) rfl), Tv⟩, ?_⟩, Tv⟩
   refine ⟨nx, hnq, za _ (zh hgl) ?_⟩
   rw [je hnl]
   refine yk ?_
   refine zd (fun d3 => ?_) (fun d3 => ?_)
   rotate_left
   ·have e3 : okU w w.U[i] nx = false := d3
    rw [hlk, e3]
    refine ⟨⟨⟨rfl, Tv⟩, ?_⟩, Tv⟩
    refine ⟨⟨Tv, ?_⟩, Tv⟩
    exact ⟨(), rfl, ⟨Tq, Tq, Tq, Tq, Tq, Tq, Tq, Tq, Tq, Tq, Tv⟩, ⟨rfl, rfl, rfl, rfl, Tv⟩⟩
   have e3 : okU w w.U[i] nx = true := d3
   rw [e3] at hlk
   refine za (o := (N.un (Store.empty.setObj fb (.cells [nil, nil, nil, nil]))).obj b) _ hoS ?_
   refine za _ (qt hi (j := 6) (by decide) rfl) ?_
   refine bcne (fun d4 => ?_) (fun d4 => ?_)
   rotate_left
   ·have e4 : jc w w.U[i] own = false := by
     have d4 : w.U[i].next = own := d4
     rw [hlk, decide_eq_false (by rw [d4]; exact fun h => h rfl)]
     rfl
    rw [e4]
    refine ⟨⟨⟨rfl, Tv⟩, ?_⟩, Tv⟩
    refine ⟨⟨Tv, ?_⟩, Tv⟩
    exact ⟨(), rfl, ⟨Tq, Tq, Tq, Tq, Tq, Tq, Tq, Tq, Tq, Tq, Tv⟩, ⟨rfl, rfl, rfl, rfl, Tv⟩⟩
   have d4 : w.U[i].next ≠ own := d4
   rw [decide_eq_true d4, Bool.not_true, Bool.false_or, Bool.true_and] at hlk
   refine za (o := (N.un (Store.empty.setObj fb (.cells [nil, nil, nil, nil]))).obj b) _ hoS ?_
   refine za _ (qt hi (j := 6) (by decide) rfl) ?_
   refine ⟨wq w.G f.hg own hown _ _ ⟨⟨za (o := (N.un (Store.empty.setObj fb (.cells [nil, nil, nil, nil]))).obj b) _ hoS (za _ (qt hi (j := 6) (by decide) rfl) rfl), Tv⟩, ?_⟩, Tv⟩
   refine ⟨zry (jq w.G own) (by rw [k7]; decide) w.U[i].next _ _ (fun z hz => ⟨Tv, ?_⟩), Tv⟩
   have e5 : jc w w.U[i] own = decide (z < 0) := by
    rw [hlk]
    cases hc : (jq w.G own).contains w.U[i].next with
    | true => rw [decide_eq_false (fun h => by have := hz.1 h; rw [hc] at this; cases this)]; rfl
    | false => rw [decide_eq_true (hz.2 hc)]; rfl
   rw [e5]
   exact ⟨(), rfl, ⟨Tq, Tq, Tq, Tq, Tq, Tq, Tq, Tq, Tq, Tq, Tv⟩, ⟨rfl, rfl, rfl, rfl, Tv⟩⟩
  ·rintro _ st' rfl
   have hEb : ¬ (Store.empty.setObj fb (.cells [nil, nil, nil, nil])).has b := hd b (js ho)
   have e1 := vz (L := L) hi (j := 6) (by decide) (y := int (own : Nat)) (u' := { w.U[i] with next := (own : Int) }) rfl
   have hi1 : i < (w.U.set i { w.U[i] with next := (own : Int) }).length := by rw [List.length_set]; exact hi
   have hg1 : (w.U.set i { w.U[i] with next := (own : Int) })[i] = { w.U[i] with next := (own : Int) } := List.getElem_set_self ..
   refine AWp.cond (jc w w.U[i] own) rfl (zd (fun l1 => ?_) (fun l1 => ?_))
   rotate_left
   ·refine AWp.of_vc zc ?_
    have hn1 : w.U[i].next ≠ -1 := fun h1 => by
     have : jc w w.U[i] own = true := by unfold jc; rw [h1]; rfl
     rw [this] at l1; cases l1
    obtain ⟨nx, hnq, hnl⟩ : ∃ k : Nat, w.U[i].next = k /\ k < w.G.T.length := by
     rcases zbo f.hg hut.2.1.2.1 with h1 | h1
     ·exact absurd h1 hn1
     ·exact h1
    have hself : ({ w.U[i] with next := (nx : Int) } : Unt) = w.U[i] := by rw [<- hnq]
    refine ⟨nx, ⟨?_, hnl, ?_⟩, ⟨Tq, Tq, Tq, Tq, Tq, Tq, Tq, Tv⟩, ⟨rfl, rfl, rfl, rfl, Tv⟩⟩
    ·rw [hself, List.set_getElem_self]; exact hoS
    ·rw [hself, hgoes, if_neg e, if_neg (by rw [l1]; decide)]
   rw [if_neg e, if_pos l1] at hgoes
   rw [if_pos l1] at h
   refine AWp.seq (AWp.of_vc zc ?_)
   refine zj (i := ti3) (v := int (own : Nat)) (b := b) (o := 0 + i * 10 + 6) (l := (rws untC w.U).flatten ++ L) (st2 := (N.un (Store.empty.setObj fb (.cells [nil, nil, nil, nil]))).setObj b (.cells ((rws untC (w.U.set i { w.U[i] with next := (own : Int) })).flatten ++ L))) rfl rfl rfl hoS (zaa hi (by decide)) (by rw [e1]) ?_
   have hoS1 := zb (N.un (Store.empty.setObj fb (.cells [nil, nil, nil, nil]))) b (.cells ((rws untC (w.U.set i { w.U[i] with next := (own : Int) })).flatten ++ L))
   have hEq := yj8 (X := .cells ((rws untC (w.U.set i { w.U[i] with next := (own : Int) })).flatten ++ L)) hd hEb
   generalize hS1 : (N.un (Store.empty.setObj fb (.cells [nil, nil, nil, nil]))).setObj b (.cells ((rws untC (w.U.set i { w.U[i] with next := (own : Int) })).flatten ++ L)) = S1 at *
   have hpd := vo (J := L) hi1
   rw [hg1] at hpd
   refine AWp.seq (AWp.of_vc zc ?_)
   refine ADraw.of_sched zc (by rfl) (by rfl) ygo (by rfl) ?_
   refine za (o := S1.obj b) _ hoS1 ?_
   refine zm (i := ti49) (row := vecC w.U[i].pos) rfl rfl hpd ?_
   refine ⟨ju w.G f.hg own hown _ rfl _ _ ⟨⟨za (o := S1.obj b) _ hoS1 (zm (i := ti49) (row := vecC w.U[i].pos) rfl rfl hpd rfl), Tv⟩, ?_⟩, Tv⟩
   refine AWp.cond _ rfl (zd (fun l2 => ?_) (fun l2 => ?_))
   rotate_left
   ·refine AWp.of_vc zc ?_
    have e6 : w.U[i].pos ≠ cenV w.G own := fun e => by
     simp only [e, Bool.and_eq_false_iff, beq_eq_false_iff_ne] at l2
     rcases l2 with l2 | l2 | l2
     ·exact l2 rfl
     ·exact l2 rfl
     ·cases l2
    have hnt : zac w w.U[i] own = own := by unfold zac; rw [if_pos e6]
    rw [hnt, if_neg (by omega)] at hgoes
    exact ⟨own, ⟨hoS1, hown, hgoes⟩, ⟨Tq, Tq, Tq, Tq, Tq, Tq, Tq, Tv⟩, ⟨rfl, rfl, rfl, rfl, Tv⟩⟩
   have e6 : ¬ w.U[i].pos ≠ cenV w.G own := fun h => h (by
    simp only [Bool.and_eq_true, beq_iff_eq] at l2
    exact Prod.ext l2.1 l2.2.1)
   have hnt : zac w w.U[i] own = if wayF w.G (zk w.G w.B (kCls w.U[i].kind) (yy w.U[i].kind)) (kCls w.U[i].kind) (farF w.G (zk w.G w.B (kCls w.U[i].kind) (yy w.U[i].kind)) (kCls w.U[i].kind) goal) own < 0 then -1 else besN w.G own (wayF w.G (zk w.G w.B (kCls w.U[i].kind) (yy w.U[i].kind)) (kCls w.U[i].kind) (farF w.G (zk w.G w.B (kCls w.U[i].kind) (yy w.U[i].kind)) (kCls w.U[i].kind) goal) own).toNat := by
    unfold zac
    rw [if_neg e6, show w.U[i].goal.toNat = goal by rw [hgq, Int.toNat_natCast]]
    rfl
   rw [hnt] at hgoes h
   refine AWp.seq (AWp.of_vc zc ?_)
   refine ADraw.of_sched zc (by rfl) (by rfl) ygn (by rfl) ?_
   refine za (o := S1.obj b) _ hoS1 ?_
   refine za (x := int (goal : Nat)) (by have := qt (J := L) hi1 (j := 5) (by decide) (y := int (goal : Nat)) (by rw [hg1]; exact congrArg (fun x => some (int x)) hgq); exact this) ?_
   have hcall : ∀ R', (∀ b2 S2, S2.obj b2 = some (.cells (il w.G.T.length (wayF w.G (zk w.G w.B (kCls w.U[i].kind) (yy w.U[i].kind)) (kCls w.U[i].kind) (farF w.G (zk w.G w.B (kCls w.U[i].kind) (yy w.U[i].kind)) (kCls w.U[i].kind) goal)))) -> S2.obj b = some (.cells ((rws untC (w.U.set i { w.U[i] with next := (own : Int) })).flatten ++ L)) -> R' (.s (.slice (some ⟨b2, 0, none⟩) w.G.T.length w.G.T.length)) S2) ->
     ACalls Tryz.prog 53 [ptr fb, .agg (wldV w (.s (.slice (some ⟨b, 0, none⟩) w.U.length cap))), int (kCls w.U[i].kind), int (yy w.U[i].kind), int (goal : Nat)] S1 R' := fun R' hR' => by
    rw [hEq]
    refine ACalls.frame (yiy hd hEb) (zxi hw.1 _ _ _ (zmh _) (zj5 _).1 goal hgl (fun r S => ∃ b2, r = .s (.slice (some ⟨b2, 0, none⟩) w.G.T.length w.G.T.length) /\ S.obj b2 = some (.cells (il w.G.T.length (wayF w.G (zk w.G w.B (kCls w.U[i].kind) (yy w.U[i].kind)) (kCls w.U[i].kind) (farF w.G (zk w.G w.B (kCls w.U[i].kind) (yy w.U[i].kind)) (kCls w.U[i].kind) goal))))) (fun b2 S2 h2 => ⟨b2, rfl, h2⟩)) ?_
    rintro r a' ⟨b2, rfl, h2⟩ hd2
    exact hR' b2 _ (un_l hd2 h2) (un_r (zb _ _ _))
   have hway := yjg w.G (zk w.G w.B (kCls w.U[i].kind) (yy w.U[i].kind)) (kCls w.U[i].kind) (farF w.G (zk w.G w.B (kCls w.U[i].kind) (yy w.U[i].kind)) (kCls w.U[i].kind) goal) own
   have hhd := yx (f := wayF w.G (zk w.G w.B (kCls w.U[i].kind) (yy w.U[i].kind)) (kCls w.U[i].kind) (farF w.G (zk w.G w.B (kCls w.U[i].kind) (yy w.U[i].kind)) (kCls w.U[i].kind) goal)) hown
   refine ⟨hcall _ (fun b2 S2 h2 hb2 => ⟨Tv, ?_⟩), Tv⟩
   refine ⟨own, rfl, hown, ?_⟩
   refine za (o := S2.obj b2) _ h2 ?_
   refine za _ hhd ?_
   clear hcall h2 hhd
   generalize wayF w.G (zk w.G w.B (kCls w.U[i].kind) (yy w.U[i].kind)) (kCls w.U[i].kind) (farF w.G (zk w.G w.B (kCls w.U[i].kind) (yy w.U[i].kind)) (kCls w.U[i].kind) goal) own = way at *
   refine ⟨⟨Tv, ?_⟩, Tv⟩
   refine AWp.of_vc zc ?_
   refine bcd (fun c5 => ?_) (fun c5 => ?_)
   ·rw [if_pos c5, if_pos (by decide), qe hw.1.1.2.1 hi (u := endU 3 w.U[i]) rfl] at h
    refine zdu hb2 hi1 3 _ ?_
    have hset1 := hset (S2.setObj b (.cells ((rws untC ((w.U.set i { w.U[i] with next := (own : Int) }).set i (endU 3 (w.U.set i { w.U[i] with next := (own : Int) })[i]))).flatten ++ L))) (endU 3 w.U[i]) (by
     rw [zb, hg1, List.set_set]
     rfl)
    exact ret (h _ _ hset1)
   obtain ⟨j, hj, rfl, hst⟩ : ∃ j : Nat, j < 8 /\ way = (j : Int) /\ 0 < yr w.G (zk w.G w.B (kCls w.U[i].kind) (yy w.U[i].kind)) (kCls w.U[i].kind) own j := by
    rcases hway with h1 | ⟨j, h1, h2, h3⟩
    ·omega
    ·exact ⟨j, h1, h2, h3⟩
   rw [if_neg c5, Int.toNat_natCast] at hgoes
   obtain ⟨t, htq, htl⟩ : ∃ t : Nat, besN w.G own j = (t : Int) /\ t < w.G.T.length := by
    rcases zex f.hg own hj with h1 | h1
    ·rw [zct (j1 h1)] at hst
     omega
    ·exact h1
   have e7 := vz (L := L) hi1 (j := 6) (by decide) (y := int (t : Nat)) (u' := { w.U[i] with next := (t : Int) }) (by rw [hg1]; rfl)
   rw [List.set_set] at e7
   refine wq w.G f.hg own hown _ _ ?_
   refine ⟨j, rfl, za _ (zgl hj) ?_⟩
   rw [htq] at hgoes ⊢
   refine zj (i := ti3) (v := int (t : Nat)) (b := b) (o := 0 + i * 10 + 6) (l := (rws untC (w.U.set i { w.U[i] with next := (own : Int) })).flatten ++ L) (st2 := S2.setObj b (.cells ((rws untC (w.U.set i { w.U[i] with next := (t : Int) })).flatten ++ L))) rfl rfl rfl hb2 (zaa hi1 (by decide)) (by rw [e7]) ?_
   rw [if_neg (by omega)] at hgoes
   exact ⟨t, ⟨zb _ _ _, htl, hgoes⟩, ⟨Tq, Tq, Tq, Tq, Tq, Tq, Tq, Tv⟩, ⟨rfl, rfl, rfl, rfl, Tv⟩⟩
 rintro t st' ⟨hob, htl, hgo⟩
 rw [hgoes, if_neg e] at hgo
 rw [hgo] at h
 clear hgo hgoes hset
 have e0 := vz (L := L) hi (j := 6) (by decide) (y := int (t : Nat)) (u' := { w.U[i] with next := (t : Int) }) rfl
 have hi1 : i < (w.U.set i { w.U[i] with next := (t : Int) }).length := by rw [List.length_set]; exact hi
 have hg1 : (w.U.set i { w.U[i] with next := (t : Int) })[i] = { w.U[i] with next := (t : Int) } := List.getElem_set_self ..
 have hpd := vo (J := L) hi1
 rw [hg1] at hpd
 have hnx : (((rws untC (w.U.set i { w.U[i] with next := (t : Int) })).flatten ++ L).drop (0 + i * 10 + 6)).head? = some (int (t : Nat)) := qt hi1 (by decide) (by rw [hg1]; rfl)
 have hmp := za8 hw.1 (List.getElem_mem hi) h0
 have hcm := zpj f.hg htl
 have hks := zds w.U[i].kind
 have hway := wy hmp hcm
 have hmay1 : mayP { w with U := w.U.set i { w.U[i] with next := (t : Int) } } := by
  rw [<- qe hw.1.1.2.1 hi (u := { w.U[i] with next := (t : Int) }) rfl]
  exact zgm hw.1 hi h0 rfl (zfp hut c1 (zji f.hg htl) hut.2.1.2.2)
 have hplay : playW { w with U := w.U.set i { w.U[i] with next := (t : Int) } } := ⟨hmay1, fun x hx => by
  rcases List.mem_or_eq_of_mem_set hx with h1 | h1
  ·exact hw.2 x h1
  ·subst h1; show w.U[i].pos.ok; exact hw.2 _ (List.getElem_mem hi)⟩
 have hvS : RowsQ 10 untC st' (.s (.slice (some ⟨b, 0, none⟩) w.U.length cap)) (w.U.set i { w.U[i] with next := (t : Int) }) := RowsO.q (.inr ⟨b, cap, L, by rw [List.length_set], hob, by rw [List.length_set]; exact g1, by rw [List.length_set]; exact g2, g3⟩)
 have htry := fun R' => zh9 (w := { w with U := w.U.set i { w.U[i] with next := (t : Int) } }) hvS hplay hi1 (by show (w.U.set i { w.U[i] with next := (t : Int) })[i].inn = 0; rw [hg1]; exact h0) (xh w.U[i].pos (cenV w.G t) (yl w.U[i].kind)) (kq hway) R'
 have hput := qe hw.1.1.2.1 hi (u := { w.U[i] with next := (t : Int) }) rfl
 have htp := yka (w := w) (u := { w.U[i] with next := (t : Int) }) (d := xh w.U[i].pos (cenV w.G t) (yl w.U[i].kind))
 have hsp := yfq (w := w) (u := { w.U[i] with next := (t : Int) }) (d := xh w.U[i].pos (cenV w.G t) (yl w.U[i].kind)) (by show xh _ (cenV w.G (Int.toNat (t : Int))) _ = _; rw [Int.toNat_natCast])
 rw [hput] at htp
 simp only [hg1] at htry
 refine AWp.meet (σ := AV) ⟨fun v2 => [(6, .bx 6 0), (7, .av (int (i : Nat))), (16, .bx 16 0), (17, .av (int (tryK { w with U := w.U.set i { w.U[i] with next := (t : Int) } } { w.U[i] with next := (t : Int) } (xh w.U[i].pos (cenV w.G t) (yl w.U[i].kind)))))], fun v2 => [(6, wld0), (16, wldV (tryW { w with U := w.U.set i { w.U[i] with next := (t : Int) } } { w.U[i] with next := (t : Int) } (xh w.U[i].pos (cenV w.G t) (yl w.U[i].kind))) v2)],
  fun v2 st2 => RowsQ 10 untC st2 v2 (tryW { w with U := w.U.set i { w.U[i] with next := (t : Int) } } { w.U[i] with next := (t : Int) } (xh w.U[i].pos (cenV w.G t) (yl w.U[i].kind))).U⟩ zc ?_ ?_
 ·refine ADraw.of_sched zc (by rfl) (by rfl) ygm (by rfl) ?_
  refine za (o := st'.obj b) _ hob ?_
  refine zm (i := ti49) (row := vecC w.U[i].pos) rfl rfl hpd ?_
  refine za (o := st'.obj b) _ hob ?_
  refine za _ hnx ?_
  refine ⟨ju w.G f.hg t htl _ rfl _ _ ⟨(by repeat (first | exact Tv | refine ⟨rfl, ?_⟩ | refine ⟨za (o := (st').obj b) _ hob (zm (i := ti49) (row := vecC w.U[i].pos) rfl rfl hpd rfl), ?_⟩ | refine ⟨za (o := (st').obj b) _ hob (za _ hnx rfl), ?_⟩)), ⟨za2 w.U[i].pos (cenV w.G t) (yl w.U[i].kind) hmp hcm (by omega) _ _ ⟨(by repeat (first | exact Tv | refine ⟨rfl, ?_⟩ | refine ⟨za (o := (st').obj b) _ hob (zm (i := ti49) (row := vecC w.U[i].pos) rfl rfl hpd rfl), ?_⟩ | refine ⟨za (o := (st').obj b) _ hob (za _ hnx rfl), ?_⟩)), ⟨htry _ (fun v2 N2 hv2 hd2 => ⟨Tv, ⟨⟨(by repeat (first | exact Tv | refine ⟨rfl, ?_⟩ | refine ⟨za (o := (N2.un st').obj b) _ (un_r hob) (zm (i := ti49) (row := vecC w.U[i].pos) rfl rfl hpd rfl), ?_⟩ | refine ⟨za (o := (N2.un st').obj b) _ (un_r hob) (za _ hnx rfl), ?_⟩)), ?_⟩, Tv⟩⟩), ⟨⟨(by repeat (first | exact Tv | refine ⟨rfl, ?_⟩ | refine ⟨za (o := (st').obj b) _ hob (zm (i := ti49) (row := vecC w.U[i].pos) rfl rfl hpd rfl), ?_⟩ | refine ⟨za (o := (st').obj b) _ hob (za _ hnx rfl), ?_⟩)), ⟨htry _ (fun v2 N2 hv2 hd2 => ⟨Tv, ?_⟩), Tv⟩⟩, Tv⟩⟩⟩, ⟨⟨(by repeat (first | exact Tv | refine ⟨rfl, ?_⟩ | refine ⟨za (o := (st').obj b) _ hob (zm (i := ti49) (row := vecC w.U[i].pos) rfl rfl hpd rfl), ?_⟩ | refine ⟨za (o := (st').obj b) _ hob (za _ hnx rfl), ?_⟩)), ⟨za2 w.U[i].pos (cenV w.G t) (yl w.U[i].kind) hmp hcm (by omega) _ _ ⟨(by repeat (first | exact Tv | refine ⟨rfl, ?_⟩ | refine ⟨za (o := (st').obj b) _ hob (zm (i := ti49) (row := vecC w.U[i].pos) rfl rfl hpd rfl), ?_⟩ | refine ⟨za (o := (st').obj b) _ hob (za _ hnx rfl), ?_⟩)), ⟨htry _ (fun v2 N2 hv2 hd2 => ⟨Tv, ?_⟩), Tv⟩⟩, Tv⟩⟩, Tv⟩⟩⟩, ⟨⟨(by repeat (first | exact Tv | refine ⟨rfl, ?_⟩ | refine ⟨za (o := (st').obj b) _ hob (zm (i := ti49) (row := vecC w.U[i].pos) rfl rfl hpd rfl), ?_⟩ | refine ⟨za (o := (st').obj b) _ hob (za _ hnx rfl), ?_⟩)), ⟨ju w.G f.hg t htl _ rfl _ _ ⟨(by repeat (first | exact Tv | refine ⟨rfl, ?_⟩ | refine ⟨za (o := (st').obj b) _ hob (zm (i := ti49) (row := vecC w.U[i].pos) rfl rfl hpd rfl), ?_⟩ | refine ⟨za (o := (st').obj b) _ hob (za _ hnx rfl), ?_⟩)), ⟨za2 w.U[i].pos (cenV w.G t) (yl w.U[i].kind) hmp hcm (by omega) _ _ ⟨(by repeat (first | exact Tv | refine ⟨rfl, ?_⟩ | refine ⟨za (o := (st').obj b) _ hob (zm (i := ti49) (row := vecC w.U[i].pos) rfl rfl hpd rfl), ?_⟩ | refine ⟨za (o := (st').obj b) _ hob (za _ hnx rfl), ?_⟩)), ⟨htry _ (fun v2 N2 hv2 hd2 => ⟨Tv, ?_⟩), Tv⟩⟩, Tv⟩⟩, Tv⟩⟩, Tv⟩⟩
  all_goals
   have hv3 := hv2
   obtain ⟨oa2, cp2, rfl, _⟩ := hv3.form
   refine ⟨⟨Tv, ?_⟩, Tv⟩
   refine ⟨⟨Tv, ?_⟩, Tv⟩
   exact ⟨_, hv2, ⟨Tq, Tq, Tq, Tq, Tv⟩, ⟨rfl, rfl, Tv⟩⟩
 rintro v2 st2 hv2
 rcases hL : tryL w { w.U[i] with next := (t : Int) } (vnrm (xh w.U[i].pos (cenV w.G t) (yl w.U[i].kind))) 5 0 with _ | ⟨k, p⟩
 ·obtain ⟨hK, hW⟩ := htp.1 hL
  have hst := hsp.1 hL
  rw [hW] at hv2
  rw [hK, hW]
  rw [hst] at h
  clear hst htp hsp hK hW htry hmay1 hplay
  rcases hv2 with (⟨_, e⟩ | ⟨b3, cap3, L3, rfl, ho3, k1, k2, k3⟩) | ⟨_, _, _, e⟩
  ·exact absurd (congrArg List.length e) (by rw [List.length_set]; simp only [List.length_nil]; omega)
  rotate_left
  ·exact absurd (congrArg List.length e) (by rw [List.length_set]; simp only [List.length_nil]; omega)
  have hst8 := hut.2.1.2.2
  have hiA : i < (w.U.set i { w.U[i] with next := (t : Int) }).length := by rw [List.length_set]; exact hi
  have hqA : (w.U.set i { w.U[i] with next := (t : Int) })[i] = { w.U[i] with next := (t : Int) } := List.getElem_set_self ..
  have erA := vz (L := L3) hiA (j := 7) (by decide) (y := int (w.U[i].stuck + 1)) (u' := { w.U[i] with next := (t : Int), stuck := w.U[i].stuck + 1 }) (by rw [hqA]; rfl)
  rw [List.set_set] at erA
  have hiB : i < (w.U.set i { w.U[i] with next := (t : Int), stuck := w.U[i].stuck + 1 }).length := by rw [List.length_set]; exact hi
  have hqB : (w.U.set i { w.U[i] with next := (t : Int), stuck := w.U[i].stuck + 1 })[i] = { w.U[i] with next := (t : Int), stuck := w.U[i].stuck + 1 } := List.getElem_set_self ..
  have erB := vz (L := L3) hiB (j := 6) (by decide) (y := int (-1)) (u' := { w.U[i] with next := -1, stuck := w.U[i].stuck + 1 }) (by rw [hqB]; rfl)
  rw [List.set_set] at erB
  have hldA : (((rws untC (w.U.set i { w.U[i] with next := (t : Int) })).flatten ++ L3).drop (0 + i * 10 + 7)).head? = some (int w.U[i].stuck) := qt hiA (by decide) (by rw [hqA]; rfl)
  have hiC : i < (w.U.set i { w.U[i] with next := -1, stuck := w.U[i].stuck + 1 }).length := by rw [List.length_set]; exact hi
  have hqC : (w.U.set i { w.U[i] with next := -1, stuck := w.U[i].stuck + 1 })[i] = { w.U[i] with next := -1, stuck := w.U[i].stuck + 1 } := List.getElem_set_self ..
  have hldC : (((rws untC (w.U.set i { w.U[i] with next := -1, stuck := w.U[i].stuck + 1 })).flatten ++ L3).drop (0 + i * 10 + 7)).head? = some (int (w.U[i].stuck + 1)) := qt hiC (by decide) (by rw [hqC]; rfl)
  refine AWp.of_vc zc ?_
  refine ⟨i, rfl, hiA, ?_⟩
  refine za (o := st2.obj b3) _ ho3 ?_
  refine za _ hldA ?_
  refine ⟨⟨by omega, by omega⟩, ?_⟩
  refine zj (i := ti3) (v := int (w.U[i].stuck + 1)) (b := b3) (o := 0 + i * 10 + 7) (l := (rws untC (w.U.set i { w.U[i] with next := (t : Int) })).flatten ++ L3) (st2 := st2.setObj b3 (.cells ((rws untC (w.U.set i { w.U[i] with next := (t : Int), stuck := w.U[i].stuck + 1 })).flatten ++ L3))) rfl rfl rfl ho3 (zaa hiA (by decide)) (by rw [erA]) ?_
  refine zj (i := ti3) (v := int (-1)) (b := b3) (o := 0 + i * 10 + 6) (l := (rws untC (w.U.set i { w.U[i] with next := (t : Int), stuck := w.U[i].stuck + 1 })).flatten ++ L3) (st2 := st2.setObj b3 (.cells ((rws untC (w.U.set i { w.U[i] with next := -1, stuck := w.U[i].stuck + 1 })).flatten ++ L3))) rfl rfl rfl (zb _ _ _) (zaa hiB (by decide)) (by rw [erB, zg]) ?_
  refine za (o := (st2.setObj b3 (.cells ((rws untC (w.U.set i { w.U[i] with next := -1, stuck := w.U[i].stuck + 1 })).flatten ++ L3))).obj b3) _ (zb _ _ _) ?_
  refine za _ hldC ?_
  refine bceq (fun c6 => ?_) (fun c6 => ?_)
  ·have c6 : w.U[i].stuck + 1 = 8 := c6
   rw [if_pos c6, qe hw.1.1.2.1 hi (u := endU 4 { w.U[i] with next := (t : Int) }) rfl] at h
   refine zdu (zb _ _ _) hiC 4 _ ?_
   rw [zg, hqC, List.set_set]
   exact ret (h _ _ (RowsO.q (.inr ⟨b3, cap3, L3, by rw [List.length_set, List.length_set], zb _ _ _, by rw [List.length_set] at k1 ⊢; exact k1, by rw [List.length_set] at k2 ⊢; exact k2, k3⟩)))
  ·have c6 : ¬ w.U[i].stuck + 1 = 8 := c6
   rw [if_neg c6, qe hw.1.1.2.1 hi (u := { w.U[i] with next := -1, stuck := w.U[i].stuck + 1 }) rfl] at h
   exact ret (h _ _ (RowsO.q (.inr ⟨b3, cap3, L3, by rw [List.length_set, List.length_set], zb _ _ _, by rw [List.length_set] at k1 ⊢; exact k1, by rw [List.length_set] at k2 ⊢; exact k2, k3⟩)))
 ·obtain ⟨hK, hk5, hW⟩ := htp.2 k p hL
  have hst := hsp.2 k p hL
  rw [qe hw.1.1.2.1 hi (u := { w.U[i] with next := (t : Int), pos := p }) rfl] at hW
  rw [hW] at hv2
  rw [hK, hW]
  rw [hst, qe hw.1.1.2.1 hi (u := { w.U[i] with next := (t : Int), pos := p, stuck := 0 }) rfl] at h
  clear hst htp hsp hK hW htry hmay1 hplay
  rcases hv2 with (⟨_, e⟩ | ⟨b3, cap3, L3, rfl, ho3, k1, k2, k3⟩) | ⟨_, _, _, e⟩
  ·exact absurd (congrArg List.length e) (by rw [List.length_set]; simp only [List.length_nil]; omega)
  rotate_left
  ·exact absurd (congrArg List.length e) (by rw [List.length_set]; simp only [List.length_nil]; omega)
  have hiA : i < (w.U.set i { w.U[i] with next := (t : Int), pos := p }).length := by rw [List.length_set]; exact hi
  have hqA : (w.U.set i { w.U[i] with next := (t : Int), pos := p })[i] = { w.U[i] with next := (t : Int), pos := p } := List.getElem_set_self ..
  have erA := vz (L := L3) hiA (j := 7) (by decide) (y := int (0)) (u' := { w.U[i] with next := (t : Int), pos := p, stuck := 0 }) (by rw [hqA]; rfl)
  rw [List.set_set] at erA
  refine AWp.of_vc zc ?_
  refine ⟨i, rfl, hiA, ?_⟩
  refine bcd (fun c5 => ?_) (fun c5 => ?_)
  rotate_left
  ·exact absurd (show (k : Int) < 5 by omega) c5
  refine zj (i := ti3) (v := int (0)) (b := b3) (o := 0 + i * 10 + 7) (l := (rws untC (w.U.set i { w.U[i] with next := (t : Int), pos := p })).flatten ++ L3) (st2 := st2.setObj b3 (.cells ((rws untC (w.U.set i { w.U[i] with next := (t : Int), pos := p, stuck := 0 })).flatten ++ L3))) rfl rfl rfl ho3 (zaa hiA (by decide)) (by rw [erA]) ?_
  exact ret (h _ _ (RowsO.q (.inr ⟨b3, cap3, L3, by rw [List.length_set, List.length_set], zb _ _ _, by rw [List.length_set] at k1 ⊢; exact k1, by rw [List.length_set] at k2 ⊢; exact k2, k3⟩)))
end Go.Proofs
namespace Go.Proofs
open Go Go.V
set_option maxRecDepth 4000
theorem zyr {st : Store} {b : Nat} (hf : Fresh st b) (X : AObj) : st.setObj b X = (Store.empty.setObj b X).un st := by
 show Store.mk _ _ = Store.mk _ _
 congr 1
 ·funext i
  show (bif Nat.beq i b then some X else st.obj i) = match st.obj i with | some x => some x | none => (bif Nat.beq i b then some X else none)
  cases hb : Nat.beq i b with
  | true =>
   have : i = b := (yp _ _).1 hb
   subst this
   rw [hf.1]
  | false => cases st.obj i <;> rfl
 ·funext i
  show st.tok i = match st.tok i with | some x => some x | none => none
  cases st.tok i <;> rfl
theorem zro (w : Wld) (hw : playW w) {i : Nat} (hi : i < w.U.length) (h0 : w.U[i].inn = 0) (id : Int) (hid : w.U[i].id = id) (st : Store) (fb : Nat) (hfb : Fresh st fb) (R : AV -> Store -> Prop) (h : R (.agg (wldC (vi w w.U[i]))) st) :
  ACalls Tryz.prog 18 [.agg (wldC w), int id, ptr fb] (st.setObj fb (.cells [nil, nil, nil, nil])) R := by
 subst hid
 have key : ACalls Tryz.prog 18 [.agg (wldC w), int w.U[i].id, ptr fb] (Store.empty.setObj fb (.cells [nil, nil, nil, nil])) fun r _ => r = .agg (wldC (vi w w.U[i])) := by
  refine ACalls.frozenTo (zuv w hw hi h0 (fun r S => ∃ v, RowsQ 10 untC S v (vi w w.U[i]).U /\ r = .agg (wldV (vi w w.U[i]) v)) (fun S v hv => ⟨v, hv, rfl⟩)) ?_
  rintro r S ⟨v, hv, rfl⟩
  refine ⟨_, Store.empty, rfl, fun b x hx => (by cases hx), fun b x hx => (by cases hx), fun Oth M W x sto hx => (kp hv sto hx).mono fun b o hT => ⟨hT.1, ?_⟩⟩
  rcases hT.2 with e | e
  ·exact e
  ·exact absurd rfl e
 rw [zyr hfb]
 refine ACalls.post (ACalls.frame (R' := fun r st' => r = .agg (wldC (vi w w.U[i])) /\ ∃ a', st' = a'.un st) (fun b hb hg => ?_) key fun r a' h1 _ => ⟨h1, a', rfl⟩) (Store.Le.refl _) fun r st' ⟨h1, a', h2⟩ => ⟨r, st, Tt, h2 ▸ zt6, h1 ▸ h⟩
 by_cases hbf : b = fb
 ·subst hbf
  exact fresh_iff.1 hfb hg
 ·rcases hb with hb | hb
  ·exact hb (by rw [zf hbf]; rfl)
  ·exact hb rfl
theorem zop (w : Wld) (hw : w.fits) (hn : ∀ u ∈ w.U, u.pos.ok) (hT : w.G.T.length <= 1000000) (hB : w.B.length <= 1000000) (hU : w.U.length <= 1000000) (id : Int) (x : Wld) (hx : mout w id = x) (e : Int) (he : askM w id = e) (st : Store) (R : AV -> Store -> Prop) (h : R (.tup [.agg (wldC x), int e]) st) : ACalls Tryz.prog 15 [.agg (wldC w), int id] st R := by
 subst hx
 subst he
 refine ACalls.post (R := fun r s => AV.le r (.tup [.agg (wldC (mout w id)), int (askM w id)]) /\ s = st) (zio w hw hn hT hB hU id st _ (fun q => ⟨yn2 ?_ (Tt), rfl⟩) (fun q => ⟨?_, rfl⟩)) (Store.Le.refl st) (fun r s hr => ⟨_, s, hr.1, Store.Le.refl s, hr.2 ▸ h⟩)
 ·unfold mout
  rw [if_neg q]
  exact AV.le_aggL ⟨Tt, Tt, Tt, Tt, Tt, AV.le_nil 1, AV.le_nil 6, AV.le_nil 10, Tv⟩
 ·unfold mout
  rw [if_pos q, q]
  exact Tt
def okW (w : Wld) : Prop := (w.fits /\ ∀ u ∈ w.U, u.pos.ok) /\ w.G.T.length <= 1000000 /\ w.B.length <= 1000000 /\ w.U.length <= 1000000
set_option maxHeartbeats 4000000 in
set_option maxRecDepth 20000 in
theorem zjz (s : Scr24) (hs : s.good) (st : Store) (R : AV -> Store -> Prop) (h : R (V.bool true) st) : ACalls Tryz.prog 3 [.agg (zlq s)] st R := by
 refine ACalls.of_body (c := cfg 73 [64] []) zc Tryz.func3 (by rfl) (by rfl) (by rfl) (by rfl) ?_
 refine zml s _ _ (fun z hz => ?_)
 refine zd (fun c1 => ret h) (fun c1 => ?_)
 have hnh : ¬ zfc s := fun hh => by have := hz.2 hh; rw [this] at c1; cases c1
 unfold zfc zmq at hnh
 have hfit : s.W.fits := ⟨by unfold Gnd.fits; omega, by omega, by omega⟩
 have hI : s.I.length <= 40 := by omega
 have hokW : okW s.W := ⟨⟨hfit, hs.1⟩, by omega, by omega, by omega⟩
 clear hnh
 refine wc s.W hfit _ _ ?_
 refine AWp.loop (σ := Nat × Wld) ⟨fun x => [(1, .bx 1 0), (3, .bx 3 0), (4, .av (int (x.1 : Nat)))], fun x => [(1, zlq s), (3, wldC x.2)], fun x st' => x.1 <= s.I.length /\ st' = st /\ okW x.2, fun x => s.I.length - x.1⟩ zc ?_ ?_
 ·exact ⟨(0, s.W), Tv, ⟨Nat.zero_le _, rfl, hokW⟩, ⟨Tq, Tq, Tq, Tv⟩, ⟨rfl, rfl, Tv⟩⟩
 rintro ⟨i, w⟩ st' ⟨hi, rfl, hw⟩
 dsimp only at hi hw ⊢
 refine zd (fun h1 => ?_) (fun h1 => zef _ _ (ret h))
 have hlt : i < s.I.length := qz h1
 refine bcd (fun h2 => ?_) (fun h2 => zef _ _ (ret h))
 obtain ⟨⟨hwf, hwn⟩, hw1, hw2, hw3⟩ := hw
 have hmay : askM w s.I[i] = 0 -> mayP w := fun e => by
  by_cases hm : mayP w
  ·exact hm
  ·unfold askM at e
   rw [if_neg hm] at e
   cases e
 have hmo : askM w s.I[i] = 0 -> mout w s.I[i] = zfq w s.I[i] := fun e => by unfold mout; rw [if_pos e]
 have hask := fun st2 R2 => znj w hwn hwf hw3 s.I[i] _ rfl st2 R2
 have ap := fun st2 R2 => zop w hwf hwn hw1 hw2 hw3 s.I[i] _ rfl _ rfl st2 R2
 have hz0 : askM w s.I[i] = 0 -> mayP w -> ∃ (k : Nat) (hk : k < w.U.length), w.U[k].id = s.I[i] /\ w.U[k].inn = 0 := fun e hm => zx7 hm e
 generalize mout w s.I[i] = x at *
 generalize askM w s.I[i] = e at *
 refine ADraw.of_sched zc (by rfl) (by rfl) ypc (by rfl) ?_
 refine ⟨i, rfl, za _ (zh hlt) ?_⟩
 refine ⟨hask _ _ ⟨Tv, ⟨⟨Tv, ?_⟩, Tv⟩⟩, Tv⟩
 refine wc w hwf _ _ ?_
 refine ADraw.of_sched zc (by rfl) (by rfl) ypb (by rfl) ?_
 refine ⟨i, rfl, za _ (zh hlt) ?_⟩
 refine ⟨ap _ _ ⟨Tv, ⟨⟨(by repeat (first | exact Tv | refine ⟨rfl, ?_⟩ | refine ⟨⟨i, rfl, za _ (zh hlt) rfl⟩, ?_⟩)), ?_⟩, Tv⟩⟩, ⟨⟨(by repeat (first | exact Tv | refine ⟨rfl, ?_⟩ | refine ⟨⟨i, rfl, za _ (zh hlt) rfl⟩, ?_⟩)), ⟨ap _ _ ⟨Tv, ?_⟩, Tv⟩⟩, Tv⟩⟩
 all_goals
  refine ⟨⟨Tv, ⟨⟨Tv, ?_⟩, Tv⟩⟩, Tv⟩
  refine zim _ _ _ ?_
  refine bcne (fun c3 => absurd rfl c3) (fun c3 => ?_)
  refine zet w hwf _ _ ?_
  refine bceq (fun e0 => ?_) (fun e0 => ?_)
  rotate_left
  ·refine in64 (by omega) ?_
   exact ⟨(i + 1, w), (show s.I.length - (i + 1) < s.I.length - i by omega), ⟨hlt, rfl, ⟨hwf, hwn⟩, hw1, hw2, hw3⟩, ⟨Tq, Tq, Tq, Tv⟩, ⟨rfl, rfl, Tv⟩⟩
  have hmp := hmay e0
  have hpl : playW w := ⟨hmp, hwn⟩
  obtain ⟨k0, hk0, q1, q2⟩ := hz0 e0 hmp
  have ru := fun (fb : Nat) (hfb : Fresh st' fb) (R2 : AV -> Store -> Prop) => zro w hpl hk0 q2 s.I[i] q1 st' fb hfb R2
  have hx : x = vi w w.U[k0] := by rw [hmo e0, <- q1]; exact zjf hmp.1.2.1 hk0
  have hpl2 : playW (vi w w.U[k0]) := by
   obtain ⟨u', h1, h2⟩ := zt4 hmp hk0 q2
   exact ⟨yid hmp hk0 q2, by rw [h1]; exact yph hwn (yj3 h2 (hwn _ (List.getElem_mem hk0)))⟩
  rw [<- hx] at ru hpl2
  clear hx hmo hmay hz0 ap hask
  refine ADraw.of_sched zc (by rfl) (by rfl) yni (by rfl) ?_
  refine ⟨i, rfl, za _ (zh hlt) ?_⟩
  refine ⟨fun fb hfb => ⟨(by repeat (first | exact Tv | refine ⟨rfl, ?_⟩ | refine ⟨⟨i, rfl, za _ (zh hlt) rfl⟩, ?_⟩)), ⟨ru fb hfb _ ⟨Tv, ⟨⟨(by repeat (first | exact Tv | refine ⟨rfl, ?_⟩ | refine ⟨⟨i, rfl, za _ (zh hlt) rfl⟩, ?_⟩)), ?_⟩, Tv⟩⟩, ⟨⟨(by repeat (first | exact Tv | refine ⟨rfl, ?_⟩ | refine ⟨⟨i, rfl, za _ (zh hlt) rfl⟩, ?_⟩)), ⟨ru fb hfb _ ⟨Tv, ?_⟩, Tv⟩⟩, Tv⟩⟩⟩, ⟨⟨(by repeat (first | exact Tv | refine ⟨rfl, ?_⟩ | refine ⟨⟨i, rfl, za _ (zh hlt) rfl⟩, ?_⟩)), ⟨fun fb hfb => ⟨(by repeat (first | exact Tv | refine ⟨rfl, ?_⟩ | refine ⟨⟨i, rfl, za _ (zh hlt) rfl⟩, ?_⟩)), ⟨ru fb hfb _ ⟨Tv, ?_⟩, Tv⟩⟩, Tv⟩⟩, Tv⟩⟩
  all_goals
   refine ⟨⟨Tv, ?_⟩, Tv⟩
   have hf2 := (mayF hpl2.1).fits
   refine zet x hf2 _ _ ?_
   refine wc x hf2 _ _ ?_
   refine in64 (by omega) ?_
   exact ⟨(i + 1, x), (show s.I.length - (i + 1) < s.I.length - i by omega), ⟨hlt, rfl, ⟨hf2, hpl2.2⟩, hpl2.sizes⟩, ⟨Tq, Tq, Tq, Tv⟩, ⟨rfl, rfl, Tv⟩⟩
end Go.Proofs
namespace Go.Proofs.YtbemejeejgpkaaaGreat
open Go Go.V Go.ChangeShapes Go.WideShapes Go.ChangeAt Go.RowKit
theorem own : ownKnob Tryz.prog.godebug = none := by kernel_rfl
theorem laid : laidOutB Tryz.prog = true := by kernel_rfl
theorem agg_cells {P : Program} {w : World} {r : Reach} {base : Nat} {t : TypeId} {fs : Array Field} {v : Value} (ht : P.underlying t = some (.struct fs)) (h : Value.okWide P w r base t v) : ∃ cs, v = .agg cs := by
 simp only [Value.okWide, ht] at h
 cases v <;> simp_all [Cell.okWide, Cell.ok]
set_option maxRecDepth 100000 in
theorem moveUnits_lifted (os : Os) (started : os.Started) (H : Type) (enc : TypeId × Value -> H) :
  ReturnsInHanded {} Tryz.checked os 3 .any (Rows.moveUnitsSpec.pre6 enc Tryz.prog Tryz.f3 Rows.moveUnitsRow.domain false) (Rows.moveUnitsSpec.post enc Tryz.prog Tryz.f3 false true false false) := by
 refine returnsInHanded_of_change_sized (C := Tryz.checked) own started (by kernel_rfl) Tryz.func3
  (ChangeSpec.witness6 (enc := enc) (C := Tryz.checked) false ⟨#[], #[.agg #[.int .i64 0, .int .i64 0, .int .i64 0, .int .i64 0, .int .i64 0, .slice none 0 0, .slice none 0 0, .slice none 0 0, .slice none 0 0, .slice none 0 0]], []⟩ 8 (by kernel_rfl) (by kernel_rfl) (by kernel_rfl) (by kernel_rfl)) ?_
 intro W base args ds gs before hval0 hW hcnd hsz _
 have hval : ∀ (j : Nat) t v, Tryz.f3.params[j]? = some t -> args[j]? = some v -> Value.okWide Tryz.prog W .any base t v := hval0
 have hW' := hW
 obtain ⟨p, q, hA0, hV, rfl, hfz, hnd⟩ := hW
 have hA : DataW.TrodAll enc Tryz.prog W 0 (fun _ => true) true Tryz.f3.params.toList args.toList ds p := hA0
 rw [Tryz.params3] at hA hval
 obtain ⟨v, d, rfl, rfl, hd⟩ := trodAll_one hA
 obtain ⟨rfl, rfl⟩ := trodVars_none hV
 obtain ⟨fuel, hd0⟩ := hd
 have hw : ∀ n ∈ d.weights Tryz.prog 32, n <= reachBytes := fun n hn => by
  have h2 := List.all_eq_true.1 hsz n (DataW.weights_mem_each (j := 0) (t := 32) (d := d) (by rfl) (by rfl) n hn)
  simpa using h2
 obtain ⟨l, hl, hc⟩ := scr24_codec.out enc W 0 true fuel _ _ hd0 hw
 obtain ⟨cs, rfl⟩ := agg_cells Tryz.underlying32 (hval 0 _ v rfl rfl)
 have hv : VRel W T0 (.agg (zlq l)) (.agg cs) := by
  refine VRel.agg _ _ ?_ fun i x y hx hy => (hc.2 i x y hx ?_).1
  ·exact hc.1.trans (by simp [Value.cells])
  ·simpa [Value.cells] using hy
 have hlt : ∀ x ∈ p, x.block < W.heap.size := fun x hx => hW'.lt x (by simpa using hx)
 clear hA0 hval0
 refine (zg9 Tryz.func3 rfl (by rfl) (R := fun r => r = V.bool true) (zjz l hl _ (fun r _ => r = V.bool true) rfl) hv).mono fun e W' ⟨r, u, he, hr, ⟨T, hvr⟩, hb⟩ => ?_
 subst hr
 have hu : u = .bool true := VRel.eq_s hvr
 subst hu
 subst he
 refine ⟨_, rfl, zoh (pa := p) (pv := []) hW' (fun _ _ _ => trodAll_cons_mk (shut_bool Tryz.underlying4 _) trodAll_mk0) (fun sp hsp => ?_) (fun _ _ => rfl) rfl (Below.kept hb _) (Below.froz hb) (ok_one (by kernel_rfl) rfl (okWide_bool_mk Tryz.underlying4 _))⟩
 exact trodAll_mk1 (WideElems.Trod_stays laid (by kernel_rfl) (of_decide_eq_true (by kernel_rfl)) ⟨fuel, hd0⟩ (fun x hx => hb.same (hlt x hx)) (fun x hx => hsp x (by simpa using hx)))
set_option maxHeartbeats 4000000 in
theorem closed : joinedFacts Tryz.pinned.checked.prog 3 Tryz.f3 Rows.moveUnitsSpec Rows.moveUnitsRow = true := by
 unfold joinedFacts
 repeat (refine (Bool.and_eq_true_iff).2 ⟨?_, ?_⟩)
 all_goals (as_aux_lemma => kernel_rfl)
theorem moveUnits_proved : Rows.MoveUnitsSaid :=
 OpenClaim.holds_of_wide 3 Tryz.f3 rfl rfl rfl rfl rfl rfl rfl ⟨rfl, rfl, rfl, rfl, rfl⟩ rfl rfl rfl rfl rfl (by kernel_rfl) Tryz.func3 closed
  (of_decide_eq_true (by kernel_rfl)) (by unfold Func.isWrapper; first | (rw [if_pos (by decide +kernel)]; kernel_rfl) | (rw [if_neg (by decide +kernel)]; exact ⟨rfl, rfl⟩))
  (fun os started H enc _ => moveUnits_lifted os started H enc)
#print axioms moveUnits_proved
end Go.Proofs.YtbemejeejgpkaaaGreat
