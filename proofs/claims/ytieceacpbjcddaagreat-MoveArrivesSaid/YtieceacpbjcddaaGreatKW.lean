/- Ground of laws of thronglaw24: contracts and plain lemmas; no condition beyond the row's own. -/
import Derived.Test.YtieceacpbjcddaaGreatKV
import Derived.Test.YtieceacpbjcddaaGreatKU
set_option linter.unusedSimpArgs false
set_option linter.unusedVariables false
set_option linter.defProp false
namespace Go.Proofs
open Go Go.V
set_option maxRecDepth 4000
theorem Ot {g : Gnd} {t way : Nat} (hw : way < 8) : (rws yn (qo g t))[way]? = some (yn (zo g t way)) := by
 have h8 : way < (qo g t).length := by rw [Ga]; exact hw
 rw [zn h8]
 unfold zo
 rw [List.getD_eq_getElem?_getD, List.getElem?_eq_getElem h8]
 rfl
/-- What a step costs from a tile that may be stood on. -/
def Ni (g : Gnd) (ok : Nat -> Bool) (c : Int) (t way : Nat) : Int := if ok t then yb g ok c t way else 0
set_option maxHeartbeats 2000000 in
set_option maxRecDepth 20000 in
theorem znj {g : Gnd} (hg : zi g) {l : List Bld} {c s : Int} (hc : c = 0 \/ c = 1 \/ c = 2) (t : Nat) (ht : t < g.T.length) (way : Nat) (hw : way < 8) (S : Store) (R : AV -> Store -> Prop)
  (h : R (int (Ni g (zf g l c s) c t way)) S) : ACalls Tryz.prog 71 [.agg (zr g), Br g l c s, int c, int (t : Nat), wc (qo g t), int (way : Nat), int (-1)] S R := by
 have hgl : ∀ u, u < g.T.length -> u < (blL g.T.length (zf g l c s)).length := fun u hu => by rw [qq]; exact hu
 have p1 := F6 c (g.T[t]).toNat
 unfold Ni at h
 refine ACalls.of_body (c := cfg 113) zb Tryz.func71 (by rfl) (by rfl) (by rfl) (by rfl) ?_
 refine ⟨way, rfl, za _ (Ot hw) ?_⟩
 have hor := Gy hg t hw
 have hlo := fun h => S6 (g := g) (ok := zf g l c s) (c := c) (t := t) (w := way) h
 have hhi := fun h => S9 (g := g) (ok := zf g l c s) (c := c) (t := t) (w := way) h
 have hno := Nj (g := g) (ok := zf g l c s) (c := c) (t := t) (w := way)
 have hhn := fun h => S7 (g := g) (ok := zf g l c s) (c := c) (t := t) (w := way) h
 generalize yb g (zf g l c s) c t way = E at *
 generalize hU : zo g t way = U at *
 refine bcd (fun c1 => ?_) (fun c1 => ?_)
 ·rw [hno (Gm c1), ite_self] at h
  exact ret h
 obtain ⟨u, rfl, hul⟩ : ∃ u : Nat, U = (u : Int) /\ u < g.T.length := by
  rcases hor with h1 | h1
  ·exact absurd h1 c1
  ·exact h1
 refine ⟨t, rfl, za _ (zn (hgl t ht)) ?_⟩
 rw [kr ht]
 refine yf ?_
 refine zh (fun c2 => ?_) (fun c2 => ?_)
 rotate_left
 ·rw [if_neg (by rw [c2]; decide)] at h
  exact ret h
 rw [if_pos c2] at h
 refine ⟨u, rfl, za _ (zn (hgl u hul)) ?_⟩
 rw [kr hul]
 refine yf ?_
 refine zh (fun c3 => ?_) (fun c3 => ?_)
 rotate_left
 ·rw [hno (by rw [Az, c3])] at h
  exact ret h
 have hfu : qd (zf g l c s) (u : Int) = true := by rw [Az, c3]
 rw [Int.toNat_natCast] at hlo hhi
 rw [Ls g c ht, Ls g c hul] at hlo hhi
 have p2 := F6 c (g.T[u]).toNat
 refine ADraw.of_sched zb (by rfl) (by rfl) zlc (by rfl) ?_
 refine ⟨t, rfl, za _ (zn ht) ?_⟩
 refine ⟨u, rfl, za _ (zn hul) ?_⟩
 refine ⟨P6 c hc g.T[t] (Lr hg ht) _ _ ⟨(by repeat (first | exact Tv | refine ⟨rfl, ?_⟩ | refine ⟨optR (optR (optR (za _ (zd _ _ _) rfl))), ?_⟩)), ?_⟩, Tv⟩
 refine ⟨P6 c hc g.T[u] (Lr hg hul) _ _ ⟨(by repeat (first | exact Tv | refine ⟨rfl, ?_⟩ | refine ⟨optR (optR (optR (za _ (zd _ _ _) rfl))), ?_⟩)), ?_⟩, Tv⟩
 refine zc (by omega) ?_
 refine ⟨⟨Tv, ?_⟩, Tv⟩
 generalize js c g.T[t].toNat = P1 at *
 generalize js c g.T[u].toNat = P2 at *
 refine bcd (fun c4 => ?_) (fun c4 => ?_)
 ·refine zc (by omega) ?_
  rw [hlo hfu (by omega)] at h
  exact ret h
 have h4 : ¬ way < 4 := by omega
 have hhi := hhi hfu h4
 have hhn := hhn h4
 have hsi : ∀ i, i < 2 -> (way - 4 + i) % 4 < 8 := fun i _ => by omega
 have hs0 : (way - 4 + 0) % 4 = vf way := by unfold vf; omega
 have hs1 : (way - 4 + 1) % 4 = ve way := by unfold ve; omega
 refine AWp.loop (σ := Nat) ⟨fun i => [(1, .av (Br g l c s)), (4, .av (wc (qo g t))), (5, .av (int (way : Nat))), (6, .av (int (-1))), (7, .bx 7 0), (16, .av (int (P1 + P2))), (17, .av (int (i : Nat)))], fun _ => [(7, zr g)],
  fun i st' => i <= 2 /\ st' = S /\ ∀ j, j < i -> qd (zf g l c s) (zo g t ((way - 4 + j) % 4)) = true, fun i => 2 - i⟩ zb ?_ ?_
 ·exact ⟨0, Tv, ⟨Nat.zero_le _, rfl, fun j hj => absurd hj (Nat.not_lt_zero j)⟩, ⟨Tq, Tq, Tq, Tq, Tq, Tq, Tq, Tv⟩, ⟨rfl, Tv⟩⟩
 rintro i st' ⟨hi, rfl, hfr⟩
 dsimp only at hi hfr ⊢
 refine bcd (fun c5 => ?_) (fun c5 => ?_)
 rotate_left
 ·have : i = 2 := by omega
  subst this
  have ha := hfr 0 (by omega)
  have hb := hfr 1 (by omega)
  rw [hs0] at ha
  rw [hs1] at hb
  rw [hhi ha hb] at h
  refine zc (by omega) ?_
  exact ret h
 have hi2 : i < 2 := by omega
 have hm : ((way : Int) - 4 + (i : Int)).tmod 4 = (((way - 4 + i) % 4 : Nat) : Int) := by
  rw [Int.tmod_eq_emod_of_nonneg (by omega)]
  omega
 have hno2 : qd (zf g l c s) (zo g t ((way - 4 + i) % 4)) = false -> R (int 0) st' := fun hh => by
  rw [hhn (by
   have : i = 0 \/ i = 1 := by omega
   rcases this with rfl | rfl
   ·rw [hs0] at hh; exact .inl hh
   ·rw [hs1] at hh; exact .inr hh)] at h
  exact h
 have hor2 := Gy hg t (hsi i hi2)
 have hget := Ot (g := g) (t := t) (hsi i hi2)
 generalize hw2 : (way - 4 + i) % 4 = way2 at *
 refine zc (by omega) ?_
 refine zc (by omega) ?_
 refine ⟨by decide, ?_⟩
 refine ⟨way2, hm, za _ hget ?_⟩
 generalize hU2 : zo g t way2 = U2 at *
 refine bcd (fun c6 => ?_) (fun c6 => ?_)
 ·exact ret (hno2 (Gm c6))
 obtain ⟨u2, rfl, hul2⟩ : ∃ u : Nat, U2 = (u : Int) /\ u < g.T.length := by
  rcases hor2 with h1 | h1
  ·exact absurd h1 c6
  ·exact h1
 refine ⟨u2, rfl, za _ (zn (hgl u2 hul2)) ?_⟩
 rw [kr hul2]
 refine yf ?_
 refine zh (fun c7 => ?_) (fun c7 => ?_)
 rotate_left
 ·exact ret (hno2 (by rw [Az, c7]))
 refine zc (by omega) ?_
 refine ⟨i + 1, (show 2 - (i + 1) < 2 - i by omega), ⟨by omega, rfl, fun j hj => ?_⟩, ⟨Tq, Tq, Tq, Tq, Tq, Tq, Tq, Tv⟩, ⟨rfl, Tv⟩⟩
 by_cases e : j = i
 ·subst e
  rw [hw2, hU2, Az, c7]
 ·exact hfr j (by omega)
def Cb (n : Nat) (W : Nat -> Bool) : Nat := x4 n fun t => if W t then 1 else 0
theorem R2 (n : Nat) (W : Nat -> Bool) : Cb n W <= n := by
 have := I6 (f := fun t => if W t = true then 1 else 0) (g := fun _ => 1) n (fun t _ => by split <;> omega)
 rw [I7] at this
 unfold Cb
 omega
theorem R1 {n : Nat} {W : Nat -> Bool} {u : Nat} (hu : u < n) (x : Bool) : Cb n (zt W u x) + (if W u then 1 else 0) = Cb n W + (if x then 1 else 0) := by
 have := Fs (f := fun t => if zt W u x t = true then 1 else 0) (g := fun t => if W t = true then 1 else 0) (u := u) n hu (fun t _ ht => by rw [qn ht])
 simp only [xj] at this
 exact this
set_option maxHeartbeats 4000000 in
set_option maxRecDepth 20000 in
theorem zoi {g : Gnd} (hg : zi g) {l : List Bld} {c s : Int} (hc : c = 0 \/ c = 1 \/ c = 2) (goal : Nat) (hgo : goal < g.T.length) (R : AV -> Store -> Prop)
  (h : ∀ b S, S.obj b = some (.cells (il g.T.length (yl g (zf g l c s) c goal))) -> (∀ u, (0 <= yl g (zf g l c s) c goal u -> zf g l c s u = true) /\ -1 <= yl g (zf g l c s) c goal u /\ yl g (zf g l c s) c goal u <= 2000000) -> R (.s (.slice (some ⟨b, 0, none⟩) g.T.length g.T.length)) S) :
  ACalls Tryz.prog 39 [.agg (zr g), Br g l c s, int c, int (goal : Nat), int (-1)] Store.empty R := by
 have ha := yw hg
 have hT : g.T.length <= 16384 := by omega
 have hgl : ∀ u, u < g.T.length -> u < (blL g.T.length (zf g l c s)).length := fun u hu => by rw [qq]; exact hu
 refine ACalls.of_body (c := cfg 133 [57, 1000057] []) zb Tryz.func39 (by rfl) (by rfl) (by rfl) (by rfl) ?_
 refine zc (by omega) ?_
 have hwh : g.W * g.H = ((g.T.length : Nat) : Int) := by omega
 rw [hwh]
 refine vm rfl (it := ti29) (ie := ti3) rfl rfl rfl rfl rfl (n := g.T.length) ?_ ?_ (fun b hf => ?_)
 ·show 8 * g.T.length <= _; omega
 ·omega
 have il0 : List.replicate g.T.length (AV.s (.int .i64 0)) = il g.T.length (xr (-1) 0) := (Kz _).trans (D5 fun t _ => (if_neg (Nat.not_lt_zero t)).symm)
 refine AWp.loop (σ := Nat) ⟨fun i => [(1, .av (Br g l c s)), (2, .av (int c)), (3, .av (int (goal : Nat))), (4, .av (int (-1))), (5, .bx 5 0), (11, .av (.s (.slice (some ⟨b, 0, none⟩) g.T.length g.T.length))), (12, .av (int (i : Nat)))], fun _ => [(5, zr g)],
  fun i st' => i <= g.T.length /\ st' = Store.empty.setObj b (.cells (il g.T.length (xr (-1) i))), fun i => g.T.length - i⟩ zb ?_ ?_
 ·exact ⟨0, Tv, ⟨Nat.zero_le _, by rw [<- il0]⟩, ⟨Tq, Tq, Tq, Tq, Tq, Tq, Tq, Tv⟩, ⟨rfl, Tv⟩⟩
 rintro i st' ⟨hi, rfl⟩
 dsimp only at hi ⊢
 refine zh (fun d1 => ?_) (fun d1 => ?_)
 ·have hlt : i < g.T.length := by simpa using d1
  refine ⟨i, rfl, hlt, ?_⟩
  refine y7 (i := ti3) (v := int (-1)) (b := b) (o := 0 + i * 1) (l := il g.T.length (xr (-1) i)) (st2 := Store.empty.setObj b (.cells (il g.T.length (xr (-1) (i + 1))))) rfl rfl rfl (zd _ _ _) (by rw [y9]; omega) ?_ ?_
  ·rw [yx, D4 _ _ _ _ hlt]
   congr 2
   refine D5 fun t ht => ?_
   unfold zt xr
   grind
  refine zc (by omega) ?_
  exact ⟨i + 1, (show g.T.length - (i + 1) < g.T.length - i by omega), ⟨hlt, rfl⟩, ⟨Tq, Tq, Tq, Tq, Tq, Tq, Tq, Tv⟩, ⟨rfl, Tv⟩⟩
 have : i = g.T.length := by grind
 subst this
 rw [dd]
 refine ⟨goal, rfl, za _ (zn (hgl goal hgo)) ?_⟩
 rw [kr hgo]
 refine yf ?_
 refine zh (fun c1 => ?_) (fun c1 => ?_)
 rotate_left
 ·rw [ek c1] at h
  exact ret (h b _ (zd _ _ _) (fun u => ⟨fun hu => absurd (show (0 : Int) <= -1 from hu) (by decide), show (-1 : Int) <= -1 by decide, show (-1 : Int) <= 2000000 by decide⟩))
 refine ⟨goal, rfl, hgo, ?_⟩
 refine y7 (i := ti3) (v := int 0) (b := b) (o := 0 + goal * 1) (l := il g.T.length fun _ => -1) (st2 := Store.empty.setObj b (.cells (il g.T.length (zt (fun _ => -1) goal 0)))) rfl rfl rfl (zd _ _ _) (by rw [y9]; omega) ?_ ?_
 ·rw [yx, D4 _ _ _ _ hgo]
 refine ⟨by decide, fun b3 hf3 => ?_⟩
 refine vm rfl (it := ti50) (ie := ti4) rfl rfl rfl rfl rfl (n := g.T.length) ?_ ?_ (fun b2 hf2 => ?_)
 ·show 1 * _ <= _; omega
 ·omega
 rw [Dd]
 have hb3 : b3 ≠ b := fun e => by
  have := hf3.1
  rw [e, zd] at this; cases this
 have hb23 : b2 ≠ b3 := fun e => by
  have := hf2.1
  rw [e, zd] at this; cases this
 have hb2 : b2 ≠ b := fun e => by
  have := hf2.1
  simp_all[zw,zd]
 have hd0 : ∀ u, zt (fun _ => (-1 : Int)) goal 0 u = if u = goal then 0 else -1 := fun u => rfl
 have hSP := zki (y4 g (zf g l c s) c) hd0 (W := inQ [goal]) (fun u => by unfold inQ; simp)
 have hcb := fp hgo hd0
 have hd00 : 0 <= zt (fun _ => (-1 : Int)) goal 0 goal := by grind
 generalize zt (fun _ => (-1 : Int)) goal 0 = d0 at *
 refine AWp.loop (σ := (Nat -> Int) × (Nat -> Bool) × List Nat × AV × Store) ⟨fun x => [(1, .av (Br g l c s)), (2, .av (int c)), (4, .av (int (-1))), (5, .bx 5 0), (11, .av (.s (.slice (some ⟨b, 0, none⟩) g.T.length g.T.length))), (13, .av x.2.2.2.1), (14, .av (.s (.slice (some ⟨b2, 0, none⟩) g.T.length g.T.length)))], fun _ => [(5, zr g)],
  fun x st' => st' = x.2.2.2.2 /\ st'.obj b = some (.cells (il g.T.length x.1)) /\ st'.obj b2 = some (.cells (bl g.T.length x.2.1)) /\ QF st' b b2 x.2.2.2.1 x.2.2.1 /\ SP (y4 g (zf g l c s) c) goal x.1 (inQ x.2.2.1) vz /\ (∀ u, x.2.1 u = true -> u ∈ x.2.2.1) /\ (∀ u ∈ x.2.2.1, u < g.T.length /\ 0 <= x.1 u) /\ Ad g.T.length x.1 /\ x.2.2.1.length <= Cb g.T.length x.2.1 + 1, fun x => 2 * Bm g.T.length x.1 + x.2.2.1.length⟩ zb ?_ ?_
 ·have hq0 : ∀ S : Store, S.obj b3 = some (.cells [int (goal : Nat)]) -> QF S b b2 (.s (.slice (some ⟨b3, 0, none⟩) 1 1)) [goal] := fun S hS => ⟨b3, 0, 1, [int (goal : Nat)], rfl, hS, Nat.le_refl 1, Nat.le_refl 1, by decide, rfl, hb3, Ne.symm hb23⟩
  refine ⟨(d0, fun _ => false, [goal], .s (.slice (some ⟨b3, 0, none⟩) 1 1), _), Tv, ⟨rfl, ?_, zd _ _ _, hq0 _ ?_, hSP, fun u hu => Bool.noConfusion hu, fun u hu => ?_, hcb, Nat.le_add_left 1 _⟩, ⟨Tq, Tq, Tq, Tq, Tq, Tq, Tq, Tv⟩, ⟨rfl, Tv⟩⟩
  ·simp_all[zw,Ne.symm,zd]
  ·rw [zw (Ne.symm hb23), zd]
   rfl
  grind
 clear hSP hcb hd0 hd00
 rintro ⟨d, M, q, v, S⟩ st' ⟨rfl, hob, hob2, hq, hSP, hq1, hq2, hcb, hql⟩
 dsimp only at hob hob2 hq hSP hq1 hq2 hcb hql ⊢
 have hqn : q.length <= 16385 := by have := R2 g.T.length M; omega
 cases q with
 | nil =>
  obtain ⟨bq, f, cap, lq, rfl, ho, h3, h4, h5, h6, h7, h8⟩ := hq
  have e := Pq c1 (zkj hSP (fun u => by unfold inQ; simp))
  exact ret (h b _ (by rw [e]; exact hob) (fun u => by
   rw [e]
   have h1 := hSP.lab u
   have h2 := Gs hcb u
   exact ⟨fun hu => Vi hSP c1 hu, by omega, by omega⟩))
 | cons t r =>
 obtain ⟨bq, f, cap, lq, rfl, ho, h3, h4, h5, h6, h7, h8⟩ := hq
 obtain ⟨htn, hdt⟩ := hq2 t (List.mem_cons_self ..)
 refine bcd (fun c2 => ?_) (fun c2 => absurd (show (0 : Int) < ((t :: r).length : Nat) by grind) c2)
 refine ⟨0, rfl, Nat.zero_lt_succ _, ?_⟩
 refine za (o := st'.obj bq) _ ho ?_
 refine za _ (zo8 h6) ?_
 refine ⟨1, (t :: r).length, rfl, rfl, by simp, h4, ?_⟩
 have hv1 : 1 < cap -> QF st' b b2 (.s (.slice (some ⟨bq, f + 1 * 1, none⟩) ((t :: r).length - 1) (cap - 1))) r := fun hc => ⟨bq, f + 1, cap - 1, lq, rfl, ho, by omega, by grind, by omega, zo6 h6, h7, h8⟩
 have hv2 : 1 = cap -> QF st' b b2 (.s (.slice (some ⟨bq, f, none⟩) 0 0)) r := fun hc => by
  have : r = [] := by grind
  subst this
  exact ⟨bq, f, 0, lq, rfl, ho, by omega, Nat.le_refl _, by decide, rfl, h7, h8⟩
 have hcap : 1 < cap \/ 1 = cap := by grind
 have hSP1 : SP (y4 g (zf g l c s) c) goal d (inQ r) (ku g (zf g l c s) c t 0) := l4 (Nr (zkg hSP t) (fun u hu => by grind[zt,inQ_iff]) (fun u hu => (hq2 u (List.mem_cons_of_mem t (inQ_iff.1 hu))).2))
 have hok := Vi hSP c1 hdt
 have hM1 : ∀ u, zt M t false u = true -> u ∈ r := fun u hu => by grind[zt]
 have hr2 : ∀ u ∈ r, u < g.T.length /\ 0 <= d u := fun u hu => hq2 u (List.mem_cons_of_mem t hu)
 have hwl : r.length <= Cb g.T.length (zt M t false) + 1 := by grind[R1]
 have hob' := (zw (st := st') (b := b) (p := b2) (x := .cells (bl g.T.length (zt M t false))) (Ne.symm hb2)).trans hob
 have hbig := fun (d : Nat -> Int) (h : Ad g.T.length d) => Gs h
 rcases hcap with hcap | hcap
 rotate_left
 refine .inr ⟨hcap, ?_⟩
 have hQ := (hv2 hcap).set2 (.cells (bl g.T.length (zt M t false)))
 rotate_left
 refine .inl ⟨hcap, ?_⟩
 have hQ := (hv1 hcap).set2 (.cells (bl g.T.length (zt M t false)))
 all_goals
  clear hv1 hv2
  refine ⟨t, rfl, htn, ?_⟩
  refine y7 (i := ti4) (v := V.bool false) (b := b2) (o := 0 + t * 1) (l := bl g.T.length M) (st2 := st'.setObj b2 (.cells (bl g.T.length (zt M t false)))) rfl rfl rfl hob2 (by rw [xp]; omega) ?_ ?_
  ·rw [Rg _ _ _ _ htn]
  refine Wb g hg t htn _ _ ?_
  refine AWp.loop (σ := Nat × (Nat -> Int) × (Nat -> Bool) × List Nat × AV × Store) ⟨fun x => [(1, .av (Br g l c s)), (2, .av (int c)), (4, .av (int (-1))), (5, .bx 5 0), (11, .av (.s (.slice (some ⟨b, 0, none⟩) g.T.length g.T.length))), (13, .av x.2.2.2.2.1), (14, .av (.s (.slice (some ⟨b2, 0, none⟩) g.T.length g.T.length))), (15, .av (int (t : Nat))), (16, .av (wc (qo g t))), (17, .av (int (x.1 : Nat)))], fun _ => [(5, zr g)],
   fun x st2 => x.1 <= 8 /\ st2 = x.2.2.2.2.2 /\ st2.obj b = some (.cells (il g.T.length x.2.1)) /\ st2.obj b2 = some (.cells (bl g.T.length x.2.2.1)) /\ QF st2 b b2 x.2.2.2.2.1 x.2.2.2.1 /\ SP (y4 g (zf g l c s) c) goal x.2.1 (inQ x.2.2.2.1) (ku g (zf g l c s) c t x.1) /\ (∀ u, x.2.2.1 u = true -> u ∈ x.2.2.2.1) /\ (∀ u ∈ x.2.2.2.1, u < g.T.length /\ 0 <= x.2.1 u) /\ 0 <= x.2.1 t /\ Ad g.T.length x.2.1 /\ x.2.2.2.1.length <= Cb g.T.length x.2.2.1 + 1 /\ 2 * Bm g.T.length x.2.1 + x.2.2.2.1.length <= 2 * Bm g.T.length d + r.length, fun x => 8 - x.1⟩ zb ?_ ?_
  ·exact ⟨(0, d, zt M t false, r, _, _), Tv, ⟨Nat.zero_le _, rfl, hob', zd _ _ _, hQ, hSP1, hM1, hr2, hdt, hcb, hwl, Nat.le_refl _⟩, ⟨Tq, Tq, Tq, Tq, Tq, Tq, Tq, Tq, Tq, Tq, Tv⟩, ⟨rfl, Tv⟩⟩
  clear hQ hSP1 hM1 hr2 hwl hob' hob hob2 hSP hq1 hq2 hcb hql hdt
  rintro ⟨i, e, M2, q, v, S2⟩ st2 ⟨hi, rfl, hob, hob2, hq, hSP, hq1, hq2, hdt, hcb, hql, hmu⟩
  dsimp only at hi hob hob2 hq hSP hq1 hq2 hdt hcb hql hmu ⊢
  refine bcd (fun c3 => ?_) (fun c3 => ?_)
  rotate_left
  ·have : i = 8 := by omega
   subst this
   refine ⟨(e, M2, q, v, st2), ?_, ⟨rfl, hob, hob2, hq, l5 hSP, hq1, hq2, hcb, hql⟩, ⟨Tq, Tq, Tq, Tq, Tq, Tq, Tq, Tv⟩, ⟨rfl, Tv⟩⟩
   show 2 * Bm g.T.length e + q.length < 2 * Bm g.T.length d + (t :: r).length
   simp only [List.length_cons]
   omega
  have hlt : i < 8 := by omega
  refine znj hg hc t htn i hlt _ _ ?_
  rw [show Ni g (zf g l c s) c t i = yb g (zf g l c s) c t i from if_pos hok]
  have hsb := Nk g (zf g l c s) c t i
  have hskip := Rz hSP
  have hedge := ew (g := g) (ok := zf g l c s) (c := c) (t := t) (way := i) hok htn hlt
  have hnote := fun (u : Nat) => zkh Bw hSP (t := t) (u := u) (c := yb g (zf g l c s) c t i) hdt
  have hor := Gy hg t hlt
  have hfree := fun h => Nj (g := g) (ok := zf g l c s) (c := c) (t := t) (w := i) h
  have hgo2 : ∀ (e' : Nat -> Int) (M' : Nat -> Bool) (q' : List Nat), SP (y4 g (zf g l c s) c) goal e' (inQ q') (ku g (zf g l c s) c t i) -> (∀ u : Nat, zo g t i = u -> 0 < yb g (zf g l c s) c t i -> 0 <= e' u /\ e' u <= e' t + yb g (zf g l c s) c t i) -> SP (y4 g (zf g l c s) c) goal e' (inQ q') (ku g (zf g l c s) c t (i + 1)) := fun e' M' q' h1 h2 => Rz h1 h2
  have hget := Ot (g := g) (t := t) hlt
  have hbt := hbig e hcb t
  generalize yb g (zf g l c s) c t i = E at *
  generalize zo g t i = U at *
  refine yj (fun d2 => ?_) (fun d2 => ?_)
  ·refine zc (by omega) ?_
   exact ⟨(i + 1, e, M2, q, v, st2), (show 8 - (i + 1) < 8 - i by omega), ⟨by dsimp only; omega, rfl, hob, hob2, hq, hskip (fun u _ h0 => absurd h0 (by omega)), hq1, hq2, hdt, hcb, hql, hmu⟩, ⟨Tq, Tq, Tq, Tq, Tq, Tq, Tq, Tq, Tq, Tq, Tv⟩, ⟨rfl, Tv⟩⟩
  have hE0 : 0 < E := by omega
  obtain ⟨u, rfl, hul⟩ : ∃ u : Nat, U = (u : Int) /\ u < g.T.length := by
   rcases hor with h1 | h1
   ·exact absurd (hfree (Gm h1)) d2
   ·exact h1
  have hedge := hedge hE0
  rw [Int.toNat_natCast] at hedge
  have hnote := fun h1 h2 => hnote u h1 hedge h2
  refine ⟨i, rfl, za _ hget ?_⟩
  refine ADraw.of_sched zb (by rfl) (by rfl) zlr (by rfl) ?_
  refine ⟨u, rfl, hul, ?_⟩
  refine za (o := st2.obj b) _ hob ?_
  refine za _ (jh hul) ?_
  refine bcd (fun c4 => ?_) (fun c4 => ?_)
  rotate_left
  have hl : e u < 0 \/ e t + E < e u := .inl (by omega)
  rotate_left
  refine ⟨u, rfl, hul, ?_⟩
  refine za (o := st2.obj b) _ hob ?_
  refine za _ (jh hul) ?_
  refine ⟨t, rfl, htn, ?_⟩
  refine za (o := st2.obj b) _ hob ?_
  refine za _ (jh htn) ?_
  refine zc (by omega) ?_
  refine bcd (fun c5 => ?_) (fun c5 => ?_)
  ·refine zc (by omega) ?_
   exact ⟨(i + 1, e, M2, q, v, st2), (show 8 - (i + 1) < 8 - i by omega), ⟨by dsimp only; omega, rfl, hob, hob2, hq, hskip (fun u' hu' _ => by
    have : u = u' := by omega
    subst this
    exact ⟨c4, c5⟩), hq1, hq2, hdt, hcb, hql, hmu⟩, ⟨Tq, Tq, Tq, Tq, Tq, Tq, Tq, Tq, Tq, Tq, Tv⟩, ⟨rfl, Tv⟩⟩
  have hl : e u < 0 \/ e t + E < e u := .inr (by omega)
  all_goals
   have htu : t ≠ u := fun h => by subst h; rcases hl with h | h <;> omega
   have hSPn := hnote htu hl
   have hcbn := Lt hcb hul hdt ⟨hE0, hsb.2⟩ hl
   have hlf := zrm hcb hul hdt ⟨hE0, hsb.2⟩ hl
   have hdtn : zt e u (e t + E) t = e t := qn htu
   have hdun : zt e u (e t + E) u = e t + E := xj _ _ _
   have hnn : ∀ x, 0 <= e x -> 0 <= zt e u (e t + E) x := fun x hx => by
    unfold zt
    split
    ·omega
    ·exact hx
   have hob3 : (st2.setObj b (.cells (il g.T.length (zt e u (e t + E))))).obj b2 = _ := (zw hb2).trans hob2
   have hq3 := hq.set1 (.cells (il g.T.length (zt e u (e t + E))))
   refine ⟨t, rfl, htn, ?_⟩
   refine za (o := st2.obj b) _ hob ?_
   refine za _ (jh htn) ?_
   refine zc (by omega) ?_
   refine ⟨u, rfl, hul, ?_⟩
   refine y7 (i := ti3) (v := int (e t + E)) (b := b) (o := 0 + u * 1) (l := il g.T.length e) (st2 := st2.setObj b (.cells (il g.T.length (zt e u (e t + E))))) rfl rfl rfl hob (by rw [y9]; omega) ?_ ?_
   ·rw [D4 _ _ _ _ hul]
   generalize hS3 : st2.setObj b (.cells (il g.T.length (zt e u (e t + E)))) = S3 at *
   have hob1 : S3.obj b = some (.cells (il g.T.length (zt e u (e t + E)))) := by rw [<- hS3, zd]
   generalize hed : zt e u (e t + E) = e2 at *
   refine ⟨u, rfl, hul, ?_⟩
   refine za (o := S3.obj b2) _ hob3 ?_
   refine za _ (L7 hul) ?_
   refine yf ?_
   refine zh (fun c6 => ?_) (fun c6 => ?_)
   ·refine zc (by omega) ?_
    have hmem := hq1 u c6
    refine ⟨(i + 1, e2, M2, q, v, S3), (show 8 - (i + 1) < 8 - i by omega), ⟨by dsimp only; omega, rfl, hob1, hob3, hq3, ?_, hq1, fun x hx => ⟨(hq2 x hx).1, hnn x (hq2 x hx).2⟩, by dsimp only; omega, hcbn, hql, by dsimp only; omega⟩, ⟨Tq, Tq, Tq, Tq, Tq, Tq, Tq, Tq, Tq, Tq, Tv⟩, ⟨rfl, Tv⟩⟩
    refine hgo2 e2 (fun _ => true) _ (Nr hSPn (fun x hx => ?_) (fun x hx => hnn x (hq2 x (inQ_iff.1 hx)).2)) (fun u' hu' _ => ?_)
    ·unfold zt at hx
     split at hx
     ·rename_i ex; subst ex; exact inQ_iff.2 hmem
     ·exact hx
    ·have : u = u' := by omega
     subst this
     omega
   refine ⟨u, rfl, hul, ?_⟩
   refine y7 (i := ti4) (v := V.bool true) (b := b2) (o := 0 + u * 1) (l := bl g.T.length M2) (st2 := S3.setObj b2 (.cells (bl g.T.length (zt M2 u true)))) rfl rfl rfl hob3 (by rw [xp]; omega) ?_ ?_
   ·rw [Rg _ _ _ _ hul]
   refine ⟨by decide, ?_⟩
   refine zo9 (ie := ti3) rfl rfl (by decide) (hq3.set2 (.cells (bl g.T.length (zt M2 u true)))) (by have := R2 g.T.length M2; omega) ((zw (Ne.symm hb2)).trans hob1) (zd _ _ _) u (fun v2 S4 g1 g2 g3 => ?_)
   have hw := R1 (n := g.T.length) (W := M2) hul true
   rw [c6] at hw
   refine zc (by omega) ?_
   refine ⟨(i + 1, e2, zt M2 u true, q ++ [u], v2, S4), (show 8 - (i + 1) < 8 - i by omega), ⟨by dsimp only; omega, rfl, g2, g3, g1, ?_, fun x hx => ?_, fun x hx => ?_, by dsimp only; omega, hcbn, ?_, ?_⟩, ⟨Tq, Tq, Tq, Tq, Tq, Tq, Tq, Tq, Tq, Tq, Tv⟩, ⟨rfl, Tv⟩⟩
   ·refine hgo2 e2 (fun _ => true) _ (Nr hSPn (fun x hx => ?_) (fun x hx => ?_)) (fun u' hu' _ => ?_)
    ·rw [inQ_iff]
     unfold zt at hx
     split at hx
     ·rename_i ex; subst ex; simp
     ·exact List.mem_append_left _ (inQ_iff.1 hx)
    ·rcases List.mem_append.1 (inQ_iff.1 hx) with h1 | h1
     ·exact hnn x (hq2 x h1).2
     ·have := List.mem_singleton.1 h1
      subst this
      omega
    ·have : u = u' := by omega
     subst this
     omega
   ·unfold zt at hx
    dsimp only at hx
    split at hx
    ·rename_i ex; subst ex; simp
    ·exact List.mem_append_left _ (hq1 x hx)
   ·rcases List.mem_append.1 hx with h1 | h1
    ·exact ⟨(hq2 x h1).1, hnn x (hq2 x h1).2⟩
    ·have := List.mem_singleton.1 h1
     subst this
     exact ⟨hul, by dsimp only; omega⟩
   ·show (q ++ [u]).length <= Cb g.T.length (zt M2 u true) + 1
    simp only [List.length_append, List.length_singleton]
    simp at hw
    omega
   ·show 2 * Bm g.T.length e2 + (q ++ [u]).length <= _
    simp only [List.length_append, List.length_singleton]
    omega
theorem Rv (i n : Int) (hn : 0 < n) (hn2 : n <= 100000) (st : Store) (R : AV -> Store -> Prop) (h : ∀ k : Nat, (k : Int) < n -> R (int k) st) : ACalls Tryz.prog 8 [int i, int n] st R := by
 refine ACalls.of_body (c := cfg 11) zb Tryz.func8 (by rfl) (by rfl) (by rfl) (by rfl) ?_
 have e1 : IntKind.u64.wrap n = n := ks (by omega) (by omega)
 have h0 : 0 <= IntKind.u64.wrap i := by rw [Fh]; omega
 refine ⟨by rw [e1]; omega, ?_⟩
 have h1 : (IntKind.u64.wrap i).tmod n = (IntKind.u64.wrap i) % n := Int.tmod_eq_emod_of_nonneg h0
 have h2 := Int.emod_nonneg (IntKind.u64.wrap i) (show n ≠ 0 by omega)
 have h3 := Int.emod_lt_of_pos (IntKind.u64.wrap i) hn
 refine ⟨by rw [e1, h1]; exact ⟨by omega, by omega⟩, ?_⟩
 rw [e1, h1]
 generalize (IntKind.u64.wrap i) % n = q at *
 obtain ⟨k, rfl⟩ : ∃ k : Nat, q = k := ⟨q.toNat, by omega⟩
 exact ret (h k h3)
theorem zn5 {g : Gnd} (hg : zi g) {l : List Bld} (hl : l.length <= 1000000000000) (hb : ∀ b ∈ l, yc b /\ onP g b) {c s : Int} (hc : c = 0 \/ c = 1 \/ c = 2) (hs : 0 <= s) (goal : Nat) (hgo : goal < g.T.length) (st : Store) (R : AV -> Store -> Prop)
  (h : R (lst 1 yn (ilL g.T.length (yl g (zf g l c s) c goal))) st) : ACalls Tryz.prog 12 [.agg (zr g), lst 6 zz l, int c, int s, int (goal : Nat)] st R := by
 have hga := yw hg
 refine O4 (Q := fun r => r = lst 1 yn (ilL g.T.length (yl g (zf g l c s) c goal))) ?_ st R fun r hr => hr ▸ h
 have key : ∀ R : AV -> Store -> Prop, (∀ v N, RowsQ 1 yn N v (ilL g.T.length (yl g (zf g l c s) c goal)) -> R v N) -> ACalls Tryz.prog 12 [.agg (zr g), lst 6 zz l, int c, int s, int (goal : Nat)] Store.empty R := fun R hR => by
  refine ACalls.of_body (c := cfg 20) zb Tryz.func12 (by rfl) (by rfl) (by rfl) (by rfl) ?_
  refine ADraw.of_sched zb (by rfl) (by rfl) zm5 (by rfl) ?_
  refine ⟨N4 g hg l hl hb c hc s hs _ _ ⟨(by repeat (first | exact Tv | refine ⟨rfl, ?_⟩ | refine ⟨optR (optR (optR (za _ (zd _ _ _) rfl))), ?_⟩)), ?_⟩, Tv⟩
  refine ⟨zoi hg hc goal hgo _ (fun b S hS _ => ⟨(by repeat (first | exact Tv | refine ⟨rfl, ?_⟩ | refine ⟨optR (optR (optR (za _ (zd _ _ _) rfl))), ?_⟩)), ?_⟩), Tv⟩
  refine ⟨⟨(by repeat (first | exact Tv | refine ⟨rfl, ?_⟩ | refine ⟨optR (optR (optR (za _ (zd _ _ _) rfl))), ?_⟩)), ?_⟩, Tv⟩
  refine ret (hR (.s (.slice (some ⟨b, 0, none⟩) g.T.length g.T.length)) S (.inl (.inr ⟨b, g.T.length, [], by rw [kp], ?_, by rw [kp]; exact Nat.le_refl _, by rw [kp]; simp, by omega⟩)))
  rw [List.append_nil, Pe]
  exact hS
 refine (key (fun r S => RowsQ 1 yn S r (ilL g.T.length (yl g (zf g l c s) c goal))) fun v N h => h).frozen ?_
 intro r S hq
 exact ⟨_, rfl, fun Oth M w v sto hx => RowsQ.borrow (f := yn) (fun _ => rfl) (fun x y hy => ⟨_, List.mem_singleton.1 hy, rfl⟩) hq sto hx⟩
theorem zp7 {b : Wld} {u : Unt} (hw : playW (oneW b u)) : qm (oneW b u) u.id = 0 /\ kw (oneW b u) u.id = oneW b (nxU b u) /\ (nxU b u).id = u.id /\ playW (oneW b (nxU b u)) := by
 have h0 := Wz hw.1
 have ha := Mc hw.1 (i := 0) (show 0 < 1 by decide)
 have hu := I1 hw.1.1.2.1 (i := 0) (show 0 < 1 by decide)
 have ha2 : qm (oneW b u) u.id = if u.inn = 0 then 0 else 9 := ha
 rw [if_pos h0] at ha2
 obtain ⟨u', h1, h2⟩ := Se hw.1 (i := 0) (show 0 < 1 by decide) h0
 have h3 : qf (oneW b u) u = oneW b u' := h1.trans (Cn b h2.1.symm)
 have h4 : nxU b u = u' := At h3
 obtain ⟨i, hi, u2, _, _, _, _, q⟩ := ng hw (id := u.id) ha2
 have h5 : kw (oneW b u) u.id = oneW b u' := hu.trans h3
 rw [h4]
 rw [h5] at q
 exact ⟨ha2, h5, h2.1, q⟩
set_option maxHeartbeats 2000000 in
set_option maxRecDepth 20000 in
theorem zq0 (s : Scr24) (hs : s.good) (st : Store) (R : AV -> Store -> Prop) (h : R (V.bool true) st) : ACalls Tryz.prog 3 [.agg (Kb s)] st R := by
 refine ACalls.of_body (c := cfg 212 [] [69]) zb Tryz.func3 (by rfl) (by rfl) (by rfl) (by rfl) ?_
 refine zsj s _ _ (fun z hz => ?_)
 refine zh (fun c1 => ret h) (fun c1 => ?_)
 have hnh : ¬ K3 s := fun hh => by have := hz.2 hh; rw [this] at c1; cases c1
 unfold K3 H6 at hnh
 have hfit : s.W.fits := ⟨by unfold Gnd.fits; omega, by omega, by omega⟩
 refine zn4 s.W hfit hs.1 _ _ (fun y hy => ?_)
 refine yf ?_
 refine zh (fun c2 => ?_) (fun c2 => ret h)
 have hm := hy.1 c2
 refine yj (fun _ => ret h) (fun c3 => ?_)
 refine yj (fun _ => ret h) (fun c4 => ?_)
 refine bcd (fun _ => ret h) (fun c5 => ?_)
 rw [zl] at c3 c4 c5
 have hU : 0 < s.W.U.length := by omega
 have hI : 0 < s.I.length := by omega
 refine ADraw.of_sched zb (by rfl) (by rfl) zlp (by rfl) ?_
 refine ⟨0, rfl, za _ (zn hI) ?_⟩
 have hcall : ∀ (x : Int) (R : AV -> Store -> Prop), (∀ k : Nat, k < s.W.U.length -> R (int k) st) -> ACalls Tryz.prog 8 [int x, int ((rws zp s.W.U).length : Nat)] st R := fun x R hk => Rv _ _ (by rw [zl]; omega) (by rw [zl]; omega) _ _ fun k hk2 => hk k (by rw [zl] at hk2; omega)
 refine ⟨hcall _ _ fun iu hiu => ⟨(by repeat (first | exact Tv | refine ⟨rfl, ?_⟩ | refine ⟨⟨0, rfl, za _ (zn hI) rfl⟩, ?_⟩)), ⟨iu, rfl, za _ (zn hiu) ⟨⟨(by repeat (first | exact Tv | refine ⟨rfl, ?_⟩ | refine ⟨⟨0, rfl, za _ (zn hI) rfl⟩, ?_⟩ | refine ⟨⟨iu, rfl, za _ (zn hiu) rfl⟩, ?_⟩)), ⟨⟨Tv, ?_⟩, Tv⟩⟩, Tv⟩⟩⟩, ⟨⟨(by repeat (first | exact Tv | refine ⟨rfl, ?_⟩ | refine ⟨⟨0, rfl, za _ (zn hI) rfl⟩, ?_⟩)), ⟨hcall _ _ fun iu hiu => ⟨(by repeat (first | exact Tv | refine ⟨rfl, ?_⟩ | refine ⟨⟨0, rfl, za _ (zn hI) rfl⟩, ?_⟩)), ⟨iu, rfl, za _ (zn hiu) ⟨⟨Tv, ?_⟩, Tv⟩⟩⟩, Tv⟩⟩, Tv⟩⟩
 all_goals
  refine xd (fun _ => ret h) (fun hin => ?_)
  have hTp := (yw hm.1.1.2.1.1)
  have hcall2 : ∀ (x : Int) (R : AV -> Store -> Prop), (∀ k : Nat, k < s.W.G.T.length -> R (int k) st) -> ACalls Tryz.prog 8 [int x, int ((rws u8C s.W.G.T).length : Nat)] st R := fun x R hk => Rv _ _ (by rw [zl]; omega) (by rw [zl]; omega) _ _ fun k hk2 => hk k (by rw [zl] at hk2; omega)
  refine ADraw.of_sched zb (by rfl) (by rfl) zlo (by rfl) ?_
  refine zc (by rw [zl]; omega) ?_
  refine ⟨0, rfl, za _ (zn hI) ?_⟩
  refine ⟨hcall2 _ _ fun goal hgo => ⟨(by repeat (first | exact Tv | refine ⟨rfl, ?_⟩)), ?_⟩, Tv⟩
  refine ⟨⟨Tv, ?_⟩, Tv⟩
  refine zvs s.W hfit _ _ ?_
  have hg := hm.1.1.2.1.1
  have hmem := List.getElem_mem hiu
  have hkd := (hm.1.2.2 _ hmem).1.1.2.2
  have hf := (hm.2.1 _ hmem hin).1
  have hfb := we hg hf
  have hon : (0 <= s.W.U[iu].pos.1 /\ s.W.U[iu].pos.1 < s.W.G.W * 65536) /\ (0 <= s.W.U[iu].pos.2 /\ s.W.U[iu].pos.2 < s.W.G.H * 65536) := by omega
  have hown := (wq hg hon).2.1
  have hbl : ∀ b ∈ s.W.B, yc b /\ onP s.W.G b := fun b hb => ⟨(hm.1.1.2.1.2.1.2.2.1 b hb).1, (hm.1.1.2.1.2.1.2.2.1 b hb).2.1⟩
  have hcl : zm s.W.U[iu].kind = 0 \/ zm s.W.U[iu].kind = 1 \/ zm s.W.U[iu].kind = 2 := by unfold zm; repeat' split; all_goals omega
  have hsz := (Kv s.W.U[iu].kind).1.1
  have hsp := Fw s.W.U[iu].kind
  refine ⟨by decide, ?_⟩
  refine Hk s.W.U[iu].kind hkd _ _ ?_
  refine N6 s.W.G hg s.W.U[iu].pos hon _ _ ?_
  refine zn5 hg (by omega) hbl hcl hsz goal hgo _ _ ?_
  have hown2 : zq s.W.G s.W.U[iu].pos < (ilL s.W.G.T.length (yl s.W.G (zf s.W.G s.W.B (zm s.W.U[iu].kind) (zx s.W.U[iu].kind)) (zm s.W.U[iu].kind) goal)).length := by rw [kp]; exact hown
  refine ⟨_, rfl, za _ (zn hown2) ?_⟩
  rw [Pf hown]
  obtain ⟨ht1, ht2⟩ := ow s.W.U[iu].kind
  have hTl : s.W.G.T.length <= 150 := by omega
  have hmul : (s.W.G.T.length + 2) * y8 s.W.U[iu].kind <= 152 * 14 := Nat.mul_le_mul (by omega) ht2
  have hmi : (((s.W.G.T.length + 2 : Nat) : Int)) * ((y8 s.W.U[iu].kind : Nat) : Int) = (((s.W.G.T.length + 2) * y8 s.W.U[iu].kind : Nat) : Int) := (Int.natCast_mul _ _).symm
  have e2 : ((rws u8C s.W.G.T).length : Int) + 2 = ((s.W.G.T.length + 2 : Nat) : Int) := by rw [zl]; omega
  refine ADraw.of_sched zb (by rfl) (by rfl) zlq (by rfl) ?_
  refine zc (by rw [zl]; omega) ?_
  refine ⟨by omega, zc (by omega) ?_⟩
  refine zc (by omega) ?_
  refine zc (by rw [ht1, e2, hmi]; omega) ?_
  refine ⟨⟨Tv, ?_⟩, Tv⟩
  -- what it ends as
  let uG : Unt := { s.W.U[iu] with goal := (goal : Nat), state := 1 }
  let P : Unt -> Prop := fun v => (0 <= yl s.W.G (zf s.W.G s.W.B (zm s.W.U[iu].kind) (zx s.W.U[iu].kind)) (zm s.W.U[iu].kind) goal (zq s.W.G s.W.U[iu].pos) -> v.state = 2 /\ v.pos = zg s.W.G goal) ∧
   (yl s.W.G (zf s.W.G s.W.B (zm s.W.U[iu].kind) (zx s.W.U[iu].kind)) (zm s.W.U[iu].kind) goal (zq s.W.G s.W.U[iu].pos) < 0 -> zq s.W.G v.pos = zq s.W.G s.W.U[iu].pos /\ (v.state = 3 \/ (v.state = 2 /\ goal = zq s.W.G s.W.U[iu].pos) \/ (v.state = 4 /\ zf s.W.G s.W.B (zm s.W.U[iu].kind) (zx s.W.U[iu].kind) (zq s.W.G s.W.U[iu].pos) = false)))
  have hE : EndsU s.W P ((s.W.G.T.length + 2) * y8 s.W.U[iu].kind) (mk uG s.W.U[iu].pos (-1) 0) := by
   by_cases hd : 0 <= yl s.W.G (zf s.W.G s.W.B (zm s.W.U[iu].kind) (zx s.W.U[iu].kind)) (zm s.W.U[iu].kind) goal (zq s.W.G s.W.U[iu].pos)
   ·exact EndsU.imp (fun v hv => ⟨fun _ => hv, fun hn => absurd hd (by omega)⟩) (arrives (b := s.W) hg (u := uG) (goal := goal) rfl hgo hf hd)
   ·exact EndsU.imp (fun v hv => ⟨fun hn => absurd hn hd, fun _ => hv⟩) (zri (b := s.W) hg (u := uG) (goal := goal) rfl hgo hf (Int.not_le.1 hd))
  have hm1 : yg (oneW s.W (mk uG s.W.U[iu].pos (-1) 0)) := zp8 hm hmem hin hgo
  have hw1 : playW (oneW s.W (mk uG s.W.U[iu].pos (-1) 0)) := ⟨hm1, fun x hx => by rw [List.mem_singleton.1 hx]; exact (show s.W.U[iu].pos.ok from hs.1 _ hmem)⟩
  refine AWp.loop (σ := Nat × Unt) ⟨fun x => [(3, .bx 3 0), (4, .av (int (goal : Nat))), (5, .bx 5 0), (6, .bx 6 0), (7, .av (int (zq s.W.G s.W.U[iu].pos : Nat))), (8, .av (int (yl s.W.G (zf s.W.G s.W.B (zm s.W.U[iu].kind) (zx s.W.U[iu].kind)) (zm s.W.U[iu].kind) goal (zq s.W.G s.W.U[iu].pos)))), (9, .av (int (((s.W.G.T.length + 2) * y8 s.W.U[iu].kind : Nat) : Int))), (10, .av (int (x.1 : Nat)))],
   fun x => [(3, zp (mk uG s.W.U[iu].pos (-1) 0)), (5, yd (oneW s.W x.2)), (6, v8 s.W.U[iu].kind)],
   fun x st' => x.1 <= (s.W.G.T.length + 2) * y8 s.W.U[iu].kind /\ st' = st /\ x.2.id = uG.id /\ playW (oneW s.W x.2) /\ EndsU s.W P ((s.W.G.T.length + 2) * y8 s.W.U[iu].kind - x.1) x.2, fun x => (s.W.G.T.length + 2) * y8 s.W.U[iu].kind - x.1⟩ zb ?_ ?_
  ·refine ⟨(0, mk uG s.W.U[iu].pos (-1) 0), Tv, ⟨Nat.zero_le _, rfl, rfl, hw1, hE⟩, ⟨Tq, Tq, Tq, Tq, Tq, Tq, ?_, Tq, Tv⟩, ⟨rfl, rfl, rfl, Tv⟩⟩
   have e3 : (((rws u8C s.W.G.T).length : Int) + 2) * ((98304 : Int).tdiv (ym s.W.U[iu].kind) + 2) = (((s.W.G.T.length + 2) * y8 s.W.U[iu].kind : Nat) : Int) := by rw [ht1, e2, hmi]
   show LV.le (.av (int ((((rws u8C s.W.G.T).length : Int) + 2) * ((98304 : Int).tdiv (ym s.W.U[iu].kind) + 2)))) _
   rw [e3]
   exact Tq
  rintro ⟨i, u⟩ st' ⟨hi, rfl, hid, hw, hEu⟩
  dsimp only at hi hid hw hEu ⊢
  have l0 : 0 < (oneW s.W u).U.length := (show 0 < 1 by decide)
  have e0 : (oneW s.W u).U[0] = u := rfl
  have hon2 := Ol hw.1 l0 (Wz hw.1)
  rw [e0] at hon2
  have hgl : zq s.W.G s.W.U[iu].pos < (blL s.W.G.T.length (zf s.W.G s.W.B (zm s.W.U[iu].kind) (zx s.W.U[iu].kind))).length := by rw [qq]; exact hown
  refine bcd (fun d1 => ?_) (fun d1 => ?_)
  ·refine ⟨0, rfl, za _ (zn l0) ?_⟩
   rw [e0]
   refine xd (fun d2 => ?_) (fun d2 => ?_)
   ·obtain ⟨q1, q2, q3, q4⟩ := zp7 hw
    have eid : (mk uG s.W.U[iu].pos (-1) 0).id = u.id := hid.symm
    have hlt : i < (s.W.G.T.length + 2) * y8 s.W.U[iu].kind := by omega
    refine zqy (oneW s.W u) hw (mk uG s.W.U[iu].pos (-1) 0).id _ _ (fun hb => absurd (by rw [eid]; exact q1) hb) (fun _ => ?_)
    rw [eid, q2]
    refine ba _ _ _ ?_
    refine zc (by omega) ?_
    refine ⟨(i + 1, nxU s.W u), (show (s.W.G.T.length + 2) * y8 s.W.U[iu].kind - (i + 1) < (s.W.G.T.length + 2) * y8 s.W.U[iu].kind - i by omega), ⟨hlt, rfl, q3.trans hid, q4, ?_⟩, ⟨Tq, Tq, Tq, Tq, Tq, Tq, Tq, Tq, Tv⟩, ⟨rfl, rfl, rfl, Tv⟩⟩
    rw [show (s.W.G.T.length + 2) * y8 s.W.U[iu].kind - i = ((s.W.G.T.length + 2) * y8 s.W.U[iu].kind - (i + 1)) + 1 by omega] at hEu
    rcases hEu with hEu | hEu
    ·exact absurd hEu.1 d2
    ·exact hEu.2
   ·have hPu : P u := by
     generalize (s.W.G.T.length + 2) * y8 s.W.U[iu].kind - i = n at hEu
     cases n with
     | zero => exact hEu.2
     | succ n =>
      rcases hEu with hEu | hEu
      ·exact hEu.2
      ·exact absurd d2 hEu.1
    refine ⟨0, rfl, za _ (zn l0) ?_⟩
    rw [e0]
    refine bcd (fun g1 => ?_) (fun g1 => ?_)
    ·obtain ⟨p1, p2⟩ := hPu.2 g1
     refine N4 s.W.G hg s.W.B (by omega) hbl _ hcl _ hsz _ _ ?_
     refine ⟨_, rfl, za _ (zn hgl) ?_⟩
     rw [kr hown]
     refine N6 s.W.G hg u.pos hon2 _ _ ?_
     rw [p1]
     refine yj (fun _ => ?_) (fun g2 => absurd rfl g2)
     rcases p2 with e | ⟨e, e'⟩ | ⟨e, e'⟩
     ·exact yj (fun _ => ret h) (fun c => absurd e c)
     ·refine yj (fun c => ret h) (fun _ => ?_)
      refine yj (fun _ => ?_) (fun c => absurd e c)
      refine yj (fun _ => ret h) (fun c => absurd (by rw [e']) c)
     ·rw [e']
      refine yj (fun c => ret h) (fun _ => ?_)
      refine yj (fun c => absurd (e.symm.trans c) (by decide)) (fun _ => ?_)
      refine yj (fun _ => ?_) (fun c => absurd e c)
      exact ret h
    ·obtain ⟨p1, p2⟩ := hPu.1 (Int.not_lt.1 g1)
     refine ADraw.of_sched zb (by rfl) (by rfl) Vu (by rfl) ?_
     refine yj (fun _ => ?_) (fun c => absurd p1 c)
     refine ⟨Rb s.W.G hg goal hgo _ rfl _ _ ⟨(by repeat (first | exact Tv | refine ⟨rfl, ?_⟩ | refine ⟨optR (optR (optR (za _ (zd _ _ _) rfl))), ?_⟩)), ?_⟩, Tv⟩
     refine ⟨zh (fun _ => ?_) (fun c => absurd c (by rw [p2]; simp)), Tv⟩
     refine R0 _ _ ⟨(by repeat (first | exact Tv | refine ⟨rfl, ?_⟩ | refine ⟨optR (optR (optR (za _ (zd _ _ _) rfl))), ?_⟩)), ?_⟩
     exact ⟨⟨Tv, ret h⟩, Tv⟩
  ·have hPu : P u := by
    rw [show (s.W.G.T.length + 2) * y8 s.W.U[iu].kind - i = 0 by omega] at hEu
    exact hEu.2
   refine ⟨0, rfl, za _ (zn l0) ?_⟩
   rw [e0]
   refine bcd (fun g1 => ?_) (fun g1 => ?_)
   ·obtain ⟨p1, p2⟩ := hPu.2 g1
    refine N4 s.W.G hg s.W.B (by omega) hbl _ hcl _ hsz _ _ ?_
    refine ⟨_, rfl, za _ (zn hgl) ?_⟩
    rw [kr hown]
    refine N6 s.W.G hg u.pos hon2 _ _ ?_
    rw [p1]
    refine yj (fun _ => ?_) (fun g2 => absurd rfl g2)
    rcases p2 with e | ⟨e, e'⟩ | ⟨e, e'⟩
    ·exact yj (fun _ => ret h) (fun c => absurd e c)
    ·refine yj (fun c => ret h) (fun _ => ?_)
     refine yj (fun _ => ?_) (fun c => absurd e c)
     refine yj (fun _ => ret h) (fun c => absurd (by rw [e']) c)
    ·rw [e']
     refine yj (fun c => ret h) (fun _ => ?_)
     refine yj (fun c => absurd (e.symm.trans c) (by decide)) (fun _ => ?_)
     refine yj (fun _ => ?_) (fun c => absurd e c)
     exact ret h
   ·obtain ⟨p1, p2⟩ := hPu.1 (Int.not_lt.1 g1)
    refine ADraw.of_sched zb (by rfl) (by rfl) Vu (by rfl) ?_
    refine yj (fun _ => ?_) (fun c => absurd p1 c)
    refine ⟨Rb s.W.G hg goal hgo _ rfl _ _ ⟨(by repeat (first | exact Tv | refine ⟨rfl, ?_⟩ | refine ⟨optR (optR (optR (za _ (zd _ _ _) rfl))), ?_⟩)), ?_⟩, Tv⟩
    refine ⟨zh (fun _ => ?_) (fun c => absurd c (by rw [p2]; simp)), Tv⟩
    refine R0 _ _ ⟨(by repeat (first | exact Tv | refine ⟨rfl, ?_⟩ | refine ⟨optR (optR (optR (za _ (zd _ _ _) rfl))), ?_⟩)), ?_⟩
    exact ⟨⟨Tv, ret h⟩, Tv⟩
end Go.Proofs
