/- Ground of laws of thronglaw24: contracts and plain lemmas; no condition beyond the row's own. -/
import Derived.Test.YthjfdaifoocijaaGreatKU
set_option linter.unusedSimpArgs false
set_option linter.unusedVariables false
namespace Go.Proofs
open Go Go.V
set_option maxRecDepth 4000
/-- The guide that reckons each time. -/
theorem zm8 {w : Wld} (hm : MayF w) : GuideK 177 (.agg #[]) (fun _ _ => True) 1 w := by
 have hB := hm.hB
 exact ⟨fun {n N c s} _ hc hs R h => ⟨_, _, zn4, zm7 w.G hm.hg w.B (by omega) hm.hb c s hs _ _ (fun b hf => h b _ trivial (zd _ _ _))⟩,
  fun {n N c s} _ hn hc hs goal hgo R h => ⟨_, _, g7, zmu w.G hm.hg w.B (by omega) hm.hb c s hs goal hgo _ _ (fun b hf => h b _ trivial (zd _ _ _))⟩⟩
theorem lg {F G : Store} {mb s p : Nat} {w : Wld} {v : AV} {L : List Ent} {o0 o1 o2 : AV} (hW : Mover F G mb s p w v L o0 o1 o2) (hmay : yg w) (hn : ∀ u ∈ w.U, u.pos.ok) {i : Nat} (hi : i < w.U.length) (h0 : w.U[i].inn = 0) (R : AV -> Store -> Prop)
  (h : ∀ F' G' L' q0 q1 q2, Mover F' G' mb s p (kl w w.U[i]) v L' q0 q1 q2 -> R (.tup []) (F'.un (svS G' s (kl w w.U[i]) v q0 q1 q2 p))) :
  ACalls Tryz.prog 98 [ptr mb, .agg (ze w.U[i])] (F.un (svS G s w v o0 o1 o2 p)) R := by
 have key := li (zm8 (vt hmay)) (Nat.lt_succ_self 0) (N := Store.empty) hW (fun i _ h2 => (h2.elim (fun h => h rfl) (fun h => h rfl) : False)) trivial hmay hn hi h0
  (fun r S => ∃ F' G' L' q0 q1 q2 N2, Mover F' G' mb s p (kl w w.U[i]) v L' q0 q1 q2 /\ zi (F'.un (svS G' s (kl w w.U[i]) v q0 q1 q2 p)) N2 /\ r = .tup [] /\ S = (F'.un (svS G' s (kl w w.U[i]) v q0 q1 q2 p)).un N2) (fun F' G' L' q0 q1 q2 n2 N2 _ h1 h2 _ => ⟨F', G', L', q0, q1, q2, N2, h1, h2, rfl, rfl⟩)
 rw [D9] at key
 refine ACalls.post key (Store.Le.refl _) ?_
 rintro r S ⟨F', G', L', q0, q1, q2, N2, h1, h2, rfl, rfl⟩
 exact ⟨_, _, Tt, (Store.Has.toLe ⟨fun b y hy => y3 h2 hy, fun b y hy => Gv h2 hy⟩), h F' G' L' q0 q1 q2 h1⟩
open Classical in
/-- What a mover is told of a unit that is asked. -/
noncomputable def y7 (w : Wld) (id : Int) : Int := if yg w then (match w.U.find? (fun u => u.id == id) with | none => 3 | some u => if u.inn = 0 then 0 else 9) else 1
theorem H7 {w : Wld} {id : Int} (h : ¬ yg w) : y7 w id = 1 := by unfold y7; rw [if_neg h]
theorem cm {l : List Unt} (hr : yf l) {i : Nat} (hi : i < l.length) : l.find? (fun u => u.id == l[i].id) = some l[i] := by
 rw [List.find?_eq_some_iff_getElem]
 refine ⟨by simp, i, hi, rfl, fun j hj => ?_⟩
 have := vm hr hj hi
 rw [Bool.not_eq_true', beq_eq_false_iff_ne]
 omega
theorem D4 {w : Wld} (h : yg w) {i : Nat} (hi : i < w.U.length) : y7 w w.U[i].id = if w.U[i].inn = 0 then 0 else 9 := by
 unfold y7
 rw [if_pos h, cm h.1.2.1 hi]
theorem P0 {w : Wld} {id : Int} (h : yg w) (hn : ∀ u ∈ w.U, u.id ≠ id) : y7 w id = 3 := by
 unfold y7
 rw [if_pos h, List.find?_eq_none.2 (fun u hu => by simpa using hn u hu)]
def unt0 : List AV := [int 0, int 0, int 0, int 0, int 0, int 0, int 0, int 0, int 0, int 0]
set_option maxHeartbeats 2000000 in
set_option maxRecDepth 20000 in
theorem zt9 (w : Wld) (hw : w.fits) (hn : ∀ u ∈ w.U, u.pos.ok) (hT : w.G.T.length <= 1000000) (hB : w.B.length <= 1000000) (hU : w.U.length <= 1000000) (id : Int) (R : AV -> Store -> Prop)
  (hbad : ∀ S, y7 w id ≠ 0 -> R (.tup [.s (.pointer none), .agg unt0, int (y7 w id)]) S)
  (hok : ∀ i, (hi : i < w.U.length) -> yg w -> w.U[i].id = id -> w.U[i].inn = 0 -> ∀ F G mb s p v L o0 o1 o2, Mover F G mb s p w v L o0 o1 o2 -> R (.tup [ptr mb, .agg (ze w.U[i]), int 0]) (F.un (svS G s w v o0 o1 o2 p))) :
  ACalls Tryz.prog 51 [.agg (zr w), int id] Store.empty R := by
 refine ACalls.of_body (c := cfg 47 [20] []) zb Tryz.func51 (by rfl) (by rfl) (by rfl) (by rfl) ?_
 refine W0 w hw hn _ _ (fun z hz => ?_)
 refine z8 ?_
 refine zg (fun c1 => ?_) (fun c1 => ?_)
 rotate_left
 ·have hnm : ¬ yg w := fun hh => by rw [hz.2 hh] at c1; cases c1
  have e := H7 (id := id) hnm
  have := hbad Store.empty (by rw [e]; decide)
  rw [e] at this
  exact ret this
 have hm := hz.1 c1
 have hr : yf w.U := hm.1.2.1
 refine znf w (by omega) (by omega) (by omega) _ (fun v N hu => ?_)
 refine znr w v N hu hU hn _ (fun F s p L o0 o1 o2 hs hS hLl hmem => ?_)
 refine fy rfl (it := ti177) rfl rfl ?_
 intro mb hmb
 have hnF : ¬ F.has mb /\ ¬ (svS N s w v o0 o1 o2 p).has mb := by
  have := fresh_iff.1 hmb
  exact ⟨fun hh => this (un_has.2 (.inl hh)), fun hh => this (un_has.2 (.inr hh))⟩
 have hms : mb ≠ s := fun e => hnF.2 (svS_has.2 (.inl e))
 have hmN : ¬ N.has mb := fun hh => hnF.2 (svS_has.2 (.inr hh))
 have hmN0 : N.obj mb = none := (ki hmN).1
 have omb : qv v mb := Bc hu hmN0
 have oms : qv v s := Bc hu hS.hs
 have e0 : (F.un (svS N s w v o0 o1 o2 p)).setObj mb (.cells [ptr s, jr]) = F.un (svS (N.setObj mb (.cells [ptr s, jr])) s w v o0 o1 o2 p) := by
  rw [yx]
  unfold svS
  rw [Df hms]
 have hW : Mover F (N.setObj mb (.cells [ptr s, jr])) mb s p w v L o0 o1 o2 :=
  ⟨⟨hS.hc, fun i h1 h2 => by
    rcases svS_has.1 h2 with h2 | h2
    ·exact hS.hd i h1 (svS_has.2 (.inl h2))
    ·rcases has_setObj_iff.1 h2 with h2 | h2
     ·subst h2; exact hnF.1 h1
     ·exact hS.hd i h1 (svS_has.2 (.inr h2)), by rw [zq (Ne.symm hms)]; exact hS.hs, hu.set omb _, hS.h0, hS.h1, hS.h2⟩, zd _ _ _, omb, oms, hLl, hmem hr⟩
 have e1 : (F.un (svS N s w v o0 o1 o2 p)).setObj mb (AObj.cells [AV.s (Value.pointer (some { block := s, off := 0 })), AV.s (Value.iface 177 (Value.agg #[]))]) = F.un (svS (N.setObj mb (.cells [ptr s, jr])) s w v o0 o1 o2 p) := e0
 refine H6 w.U (by omega) hr id _ _ (fun i hi z hz2 => ?_)
 rw [e1]
 refine z8 ?_
 refine zg (fun c2 => ?_) (fun c2 => ?_)
 rotate_left
 ·have e := P0 (id := id) hm (fun u hu' e => by
   obtain ⟨j, hj, rfl⟩ := List.getElem_of_mem hu'
   have hij : i = j := by
    by_cases h1 : j < i
    ·have := hi.2.1 j hj h1; omega
    ·by_cases h2 : i < j
     ·have h3 := hi.2.2 i (by omega) (Nat.le_refl _)
      have := vm hr h2 hj
      omega
     ·omega
   subst hij
   rw [hz2.2 ⟨hj, e⟩] at c2
   cases c2)
  have := hbad (F.un (svS (N.setObj mb (.cells [ptr s, jr])) s w v o0 o1 o2 p)) (by rw [e]; decide)
  rw [e] at this
  exact ret this
 obtain ⟨hil, hid⟩ := hz2.1 c2
 have e := D4 hm hil
 rw [hid] at e
 refine ⟨i, rfl, za _ (zj hil) ?_⟩
 refine qa (fun c3 => ?_) (fun c3 => ?_)
 ·rw [if_neg c3] at e
  have := hbad (F.un (svS (N.setObj mb (.cells [ptr s, jr])) s w v o0 o1 o2 p)) (by rw [e]; decide)
  rw [e] at this
  exact ret this
 refine ADraw.of_sched zb (by rfl) (by rfl) Vh (by rfl) ?_
 refine ⟨i, rfl, za _ (zj hil) ?_⟩
 refine ⟨⟨(by repeat (first | exact Tv | refine ⟨rfl, ?_⟩ | refine ⟨⟨i, rfl, za _ (zj hil) rfl⟩, ?_⟩)), ⟨⟨Tv, ⟨⟨Tv, ?_⟩, Tv⟩⟩, Tv⟩⟩, Tv⟩
 exact ret (hok i hil hm hid c3 F (N.setObj mb (.cells [ptr s, jr])) mb s p v L o0 o1 o2 hW)
def Gr : List AV := [int 0, int 0, int 0, int 0, int 0, nil, nil, nil]
open Classical in
/-- What becomes of a world when a unit is asked to go. -/
noncomputable def Au (w : Wld) (id : Int) : Wld := match w.U.find? (fun u => u.id == id) with | none => w | some u => kl w u
theorem Rz {w : Wld} (hr : yf w.U) {i : Nat} (hi : i < w.U.length) : Au w w.U[i].id = kl w w.U[i] := by
 unfold Au
 rw [cm hr hi]
set_option maxHeartbeats 2000000 in
theorem zoe (w : Wld) (hw : w.fits) (hn : ∀ u ∈ w.U, u.pos.ok) (hT : w.G.T.length <= 1000000) (hB : w.B.length <= 1000000) (hU : w.U.length <= 1000000) (id : Int) (R : AV -> Store -> Prop)
  (hbad : ∀ S, y7 w id ≠ 0 -> R (.tup [.agg Gr, int (y7 w id)]) S)
  (hok : ∀ S v, y7 w id = 0 -> RowsQ 10 ze S v (Au w id).U -> R (.tup [.agg (xf (Au w id) v), int 0]) S) :
  ACalls Tryz.prog 62 [.agg (zr w), int id] Store.empty R := by
 refine ACalls.of_body (c := cfg 30) zb Tryz.func62 (by rfl) (by rfl) (by rfl) (by rfl) ?_
 refine zt9 w hw hn hT hB hU id _ (fun S he => ?_) (fun i hi hm hid h0 F G mb s p v L o0 o1 o2 hW => ?_)
 ·refine qa (fun c1 => ?_) (fun c1 => absurd c1 he)
  exact ret (hbad S he)
 have e := D4 hm hi
 rw [if_pos h0, hid] at e
 have e2 := Rz (w := w) hm.1.2.1 hi
 rw [hid] at e2
 rw [e2] at hok
 refine lg hW hm hn hi h0 _ (fun F' G' L' q0 q1 q2 hW2 => ?_)
 generalize kl w w.U[i] = w2 at *
 obtain ⟨oa, cap, ev, _⟩ := hW2.S.hu.form
 subst ev
 refine za (o := (F'.un (svS G' s w2 _ q0 q1 q2 p)).obj mb) _ hW2.m ?_
 refine za (o := (F'.un (svS G' s w2 _ q0 q1 q2 p)).obj s) _ hW2.s ?_
 exact ret (hok _ _ e (Iv hW2.S.hs hW2.S.hu).un)
theorem zof (w : Wld) (hw : w.fits) (hn : ∀ u ∈ w.U, u.pos.ok) (hT : w.G.T.length <= 1000000) (hB : w.B.length <= 1000000) (hU : w.U.length <= 1000000) (id : Int) :
  ACalls Tryz.prog 62 [.agg (zr w), int id] Store.empty fun r _ => (y7 w id ≠ 0 /\ r = .tup [.agg Gr, int (y7 w id)]) \/ (y7 w id = 0 /\ r = .tup [.agg (zr (Au w id)), int 0]) := by
 refine (zoe w hw hn hT hB hU id (fun r S => (y7 w id ≠ 0 /\ r = .tup [.agg Gr, int (y7 w id)]) \/ (y7 w id = 0 /\ ∃ v, RowsQ 10 ze S v (Au w id).U /\ r = .tup [.agg (xf (Au w id) v), int 0])) (fun S he => .inl ⟨he, rfl⟩) (fun S v he hv => .inr ⟨he, v, hv, rfl⟩)).frozen ?_
 rintro r S (⟨he, rfl⟩ | ⟨he, v, hv, rfl⟩)
 ·exact ⟨_, .inl ⟨he, rfl⟩, fun Oth M W x sto hx => qr hx⟩
 ·refine ⟨_, .inr ⟨he, rfl⟩, fun Oth M W x sto hx => ?_⟩
  cases hx with
  | tup _ c hl hc =>
   refine .tup _ c hl fun i y z hy hz => ?_
   match i with
   | 0 => simp only [List.getElem?_cons_zero, Option.some.injEq] at hy; subst hy; exact Rk hv sto (hc 0 _ z rfl hz)
   | 1 => simp only [List.getElem?_cons_succ, List.getElem?_cons_zero, Option.some.injEq] at hy; subst hy; exact qr (hc 1 _ z rfl hz)
   | i + 2 => simp at hy
theorem zod (w : Wld) (hw : w.fits) (hn : ∀ u ∈ w.U, u.pos.ok) (hT : w.G.T.length <= 1000000) (hB : w.B.length <= 1000000) (hU : w.U.length <= 1000000) (id : Int) (st : Store) (R : AV -> Store -> Prop)
  (hbad : y7 w id ≠ 0 -> R (.tup [.agg Gr, int (y7 w id)]) st) (hok : y7 w id = 0 -> R (.tup [.agg (zr (Au w id)), int 0]) st) :
  ACalls Tryz.prog 62 [.agg (zr w), int id] st R :=
 Og (zof w hw hn hT hB hU id) st R fun r hr => by
  rcases hr with ⟨he, rfl⟩ | ⟨he, rfl⟩
  ·exact hbad he
  ·exact hok he
theorem Ny (e : Int) (st : Store) (R : AV -> Store -> Prop) (h : R (int e) st) : ACalls Tryz.prog 19 [int e] st R := by
 refine ACalls.of_body (c := cfg 4) zb Tryz.func19 (by rfl) (by rfl) (by rfl) (by rfl) ?_
 exact ret h
theorem L8 {n : Nat} (hn : n < 6) : ∃ h0 : 0 < (wkS n).U.length, (wkS n).U[0] = k9 (wkS n) := by
 have e := (Br n hn).1
 have h0 : 0 < (wkS n).U.length := by rw [e]; exact Nat.zero_lt_one
 refine ⟨h0, ?_⟩
 simp only [e]
 rfl
theorem gu {n : Nat} (hn : n < 6) : y7 (wkS n) 1 = 0 := by
 obtain ⟨h0, e⟩ := L8 hn
 obtain ⟨_, h1, h2, _⟩ := Br n hn
 have := D4 (Ig n hn) h0
 rw [e, h1, if_pos h2] at this
 exact this
theorem gn {n : Nat} (hn : n < 5) : Au (wkS n) 1 = wkS (n + 1) := by
 obtain ⟨h0, e⟩ := L8 (n := n) (by omega)
 obtain ⟨_, h1, _⟩ := Br n (by omega)
 have := Rz (Ig n (by omega)).1.2.1 h0
 rw [e, h1, gk hn] at this
 exact this
theorem gm {n : Nat} (hn : n < 6) : ∀ u ∈ (wkS n).U, u.pos.ok := fun u hu => by
 obtain ⟨_, h1, h2, h3, _⟩ := Br n hn
 have hu2 : u.inn = 0 := by
  rw [(Br n hn).1] at hu
  simp at hu
  rw [hu]
  exact h2
 exact vw (Ob (Ig n hn) hu hu2)
theorem eh (g : Gnd) (hg : zl g) (t : Nat) (ht : t < g.T.length) (tI : Int) (htI : tI = (t : Int)) {x : Vc} (hx : qf g t = x) (st : Store) (R : AV -> Store -> Prop) (h : R (.agg (zk x)) st) : ACalls Tryz.prog 7 [.agg (zt g), int tI] st R :=
 ztk g hg t ht tI htI st R (hx ▸ h)
def L7 (w : Wld) (b : AV) : List AV := [int w.tick, int w.players, int w.next, int w.G.W, int w.G.H, Cr w.G.T, b, lst 10 ze w.U]
theorem gj {w : Wld} {b : AV} (hb : AV.le b (lst 6 zp w.B)) : AV.le (.agg (L7 w b)) (.agg (zr w)) :=
 AV.le_aggL ⟨Tt, Tt, Tt, Tt, Tt, Tt, hb, Tt, Tv⟩
set_option maxHeartbeats 2000000 in
set_option maxRecDepth 20000 in
theorem Ma (st : Store) (R : AV -> Store -> Prop) (h : R (V.bool true) st) : ACalls Tryz.prog 23 [] st R := by
 refine ACalls.of_awp (c := cfg 50) zb Tryz.func23 (by rfl) (by rfl) (by rfl) (by rfl) ?_
 refine AWp.seq (AWp.of_vc zb ?_)
 refine AWp.seq (AWp.of_vc zb ?_)
 refine Cv rfl (it := ti22) (ie := ti5) rfl rfl rfl rfl rfl (n := 2) (by decide) (by decide) (fun b hf => ?_)
 refine AWp.freezeBx (d := 1) (j := 5) (b := b) (n := 2) (cap := 2) (k := 1) (rows := rws u8C wkG.T) (pad := []) rfl rfl (zd _ _ _) hf.2 rfl (Nat.le_refl _) ?_ ?_ ?_
 ·intro row hr
  obtain ⟨x, _, rfl⟩ := List.mem_map.1 hr
  rfl
 ·intro row hr y hy
  obtain ⟨x, _, rfl⟩ := List.mem_map.1 hr
  simp [u8C, u8] at hy
  exact ⟨_, hy, rfl⟩
 rw [Hz hf.1]
 refine AWp.of_vc zb ?_
 refine eh wkG Rl 0 (by decide) 0 rfl gr _ _ ?_
 refine ⟨by decide, ?_⟩
 refine AWp.loop (σ := Nat × AV) ⟨fun x => [(1, .bx 1 0), (2, .av (int (x.1 : Nat)))], fun x => [(1, L7 (wkS x.1) x.2)],
  fun x st' => x.1 <= 5 /\ st' = st /\ AV.le x.2 (lst 6 zp (wkS x.1).B), fun x => 5 - x.1⟩ zb ?_ ?_
 ·exact ⟨(0, nil), Tv, ⟨Nat.zero_le _, rfl, AV.le_nil 6⟩, ⟨Tq, Tq, Tv⟩, ⟨rfl, Tv⟩⟩
 rintro ⟨i, bv⟩ st' ⟨hi, rfl, hb⟩
 dsimp only at hi hb ⊢
 refine bcd (fun c1 => ?_) (fun c1 => ?_)
 ·have hi5 : i < 5 := by omega
  obtain ⟨u1, u2, u3, u4, u5⟩ := Br i (by omega)
  obtain ⟨v1, v2, v3, v4, v5⟩ := Br (i + 1) (by omega)
  refine ACalls.le (show leL [.agg (L7 (wkS i) bv), int 1] [.agg (zr (wkS i)), int 1] from ⟨gj hb, Tt, Tv⟩) (zod (wkS i) (vt (Ig i (by omega))).fits (gm (by omega)) (by rw [u4]; decide) (by rw [u5]; decide) (by rw [u1]; exact (by decide : 1 <= 1000000)) 1 _ _ (fun he => absurd (gu (by omega)) he) (fun _ => ?_))
  rw [gn hi5]
  refine Ny _ _ _ ?_
  refine qa (fun c2 => absurd (show ((rws ze (wkS (i + 1)).U).length : Int) = 1 by rw [zu, v1]; rfl) c2) (fun c2 => ?_)
  refine zc (by omega) ?_
  refine ⟨(i + 1, lst 6 zp (wkS (i + 1)).B), ?_, ⟨by dsimp only; omega, rfl, Tt⟩, ⟨Tq, Tq, Tv⟩, ⟨rfl, Tv⟩⟩
  show 5 - (i + 1) < 5 - i
  omega
 have : i = 5 := by omega
 subst this
 obtain ⟨h0, e0⟩ := L8 (n := 5) (by decide)
 obtain ⟨e1, e2⟩ := gq
 obtain ⟨u1, u2, u3, u4, u5⟩ := Br 5 (by omega)
 refine ADraw.of_sched zb (by rfl) (by rfl) zjr (by rfl) ?_
 refine ⟨0, rfl, za _ (zj h0) ?_⟩
 refine ⟨eh (wkS 5).G (u4 ▸ Rl) 1 (by rw [u4]; decide) 1 rfl rfl _ _ ⟨(by repeat (first | exact Tv | refine ⟨rfl, ?_⟩ | refine ⟨optR (optR (optR (za _ (zd _ _ _) rfl))), ?_⟩)), ?_⟩, Tv⟩
 have hp : (wkS 5).U[0].pos = qf (wkS 5).G 1 := by rw [e0, u4]; exact e1
 have hs : (wkS 5).U[0].state = 2 := by rw [e0]; exact e2
 refine ⟨0, rfl, za _ (zj h0) ?_⟩
 exact ⟨⟨Tv, ret h⟩, Tv⟩
set_option maxRecDepth 20000 in
theorem zpy (a : Scr24) (st : Store) (R : AV -> Store -> Prop) (h : ∀ z : Bool, (z = true ↔ Ks a) -> R (bool z) st) : ACalls Tryz.prog 16 [.agg (G9 a)] st R := by
 refine ACalls.of_body (c := cfg 18) zb Tryz.func16 (by rfl) (by rfl) (by rfl) (by rfl) ?_
 repeat' (first | refine bcd (fun _ => ?_) (fun _ => ?_) | refine zg (fun _ => ?_) (fun _ => ?_) | refine zc (by omega) ?_ | (refine zp8 a.W _ _ ?_; rintro (_ | _) hz)| fail)
 all_goals
  refine ret (h _ ?_)
  simp only [decide_eq_true_eq, decide_eq_false_iff_not, Bool.false_eq_true, false_iff, true_iff, beq_iff_eq, bne_iff_ne, beq_eq_false_iff_ne, ne_eq, reduceCtorEq, zu, Ks, Hu] at *
  omega
theorem fm {w : Wld} {id : Int} (hm : yg w) (he : y7 w id = 0) : ∃ (i : Nat) (hi : i < w.U.length), w.U[i].id = id /\ w.U[i].inn = 0 := by
 unfold y7 at he
 rw [if_pos hm] at he
 cases hf : w.U.find? (fun u => u.id == id) with
 | none => rw [hf] at he; cases he
 | some u =>
  rw [hf] at he
  obtain ⟨i, hi, e⟩ := List.getElem_of_mem (List.mem_of_find?_eq_some hf)
  have hid := List.find?_some hf
  refine ⟨i, hi, ?_, ?_⟩
  ·rw [e]; simpa using hid
  ·rw [e]
   dsimp only at he
   by_cases h0 : u.inn = 0
   ·exact h0
   ·rw [if_neg h0] at he; cases he
end Go.Proofs
namespace Go.Proofs
open Go Go.V
set_option maxRecDepth 4000
theorem zld (w : Wld) (hw : playW w) (id k : Int) (hk : jt k) (q : Vc) (hq : q.ok) (st : Store) (R : AV -> Store -> Prop)
  (h : ∀ z : Bool, (z = true ↔ y5 w id k q) -> R (V.bool z) st) : ACalls Tryz.prog 58 [.agg (zr w), int id, int k, .agg (zk q)] st R := by
 have f := vt hw.1
 have hB := f.hB
 have hU := f.hU
 refine ACalls.of_body (c := cfg 14) zb Tryz.func58 (by rfl) (by rfl) (by rfl) (by rfl) ?_
 exact V1 w f.hg (by omega) f.hb (by omega) hw.2 f.hk id k hk q hq _ _ fun z hz => ret (h z hz)
theorem Vv (w : Wld) (hU : w.U.length <= 1000000) (id : Int) (st : Store) (R : AV -> Store -> Prop) (h : R (int (vz (v7 w.U id))) st) : ACalls Tryz.prog 48 [.agg (zr w), int id] st R := Vu w hU id st R h
theorem zl6 (w : Wld) (hw : playW w) {i : Nat} (hi : i < w.U.length) (id : Int) (hid : w.U[i].id = id) (st : Store) (R : AV -> Store -> Prop) (h : R (int (i : Nat)) st) : ACalls Tryz.prog 48 [.agg (zr w), int id] st R :=
 Vv w hw.sizes.2.2 id st R (by rw [zrn hw.1.1.2.1 hi hid]; exact h)
/-- What is asked of a unit that is to go, found by number. -/
theorem zub (w : Wld) (hn : ∀ u ∈ w.U, u.pos.ok) (hw : w.fits) (hU : w.U.length <= 1000000) (id : Int) (e : Int) (he : y7 w id = e) (st : Store) (R : AV -> Store -> Prop) (h : R (int e) st) :
  ACalls Tryz.prog 17 [.agg (zr w), int id] st R := by
 subst he
 refine ACalls.of_body (c := cfg 21) zb Tryz.func17 (by rfl) (by rfl) (by rfl) (by rfl) ?_
 refine zlv w hw hn _ _ (fun y hy => ?_)
 refine z8 ?_
 refine zg (fun c1 => ?_) (fun c1 => ?_)
 rotate_left
 ·rw [H7 (fun hh => by rw [hy.2 hh] at c1; cases c1)] at h
  exact ret h
 have hm := hy.1 c1
 refine Vv w hU id _ _ ?_
 cases hf : v7 w.U id with
 | none =>
  rw [P0 hm (co hf)] at h
  exact ret h
 | some i =>
  obtain ⟨hi, hid⟩ := cn hf
  have ea := D4 hm hi
  rw [hid] at ea
  rw [ea] at h
  refine ⟨i, rfl, za _ (zj hi) ?_⟩
  refine qa (fun c3 => ?_) (fun c3 => ?_)
  ·rw [if_neg c3] at h
   exact ret h
  ·rw [if_pos c3] at h
   exact ret h
theorem Mq {w : Wld} (hw : playW w) {i : Nat} (hi : i < w.U.length) (h0 : w.U[i].inn = 0) (d : Vc) : playW (yq w w.U[i] d) /\ ∃ h2 : i < (yq w w.U[i] d).U.length, (yq w w.U[i] d).U[i].id = w.U[i].id := by
 have hm := zov hw.1 hi h0 d
 cases e : yy w w.U[i] (ym d) 5 0 with
 | none =>
  have := (R8 e).2
  rw [this]
  exact ⟨hw, hi, rfl⟩
 | some r =>
  obtain ⟨k, p⟩ := r
  have e2 := (R7 e).2
  have hp : p = qi w.U[i].pos (qz (ym d) k) := (Io 5 0 e).2.2
  rw [e2] at hm
  rw [e2]
  obtain ⟨h2, h3⟩ := V7 hw.1.1.2.1 hi (u := { w.U[i] with pos := p }) rfl
  refine ⟨⟨hm, zmw hw.2 ?_⟩, h2, by rw [h3]⟩
  show p.ok
  rw [hp]
  exact Rw _ _
theorem zmd {w : World} {T : Nat -> Nat -> Prop} {x y z t : AV} {vs : List Value} (h : Reads w T [x, y, z, t] vs) : ∃ a b c d, vs = [a, b, c, d] /\ VRel w T x a /\ VRel w T y b /\ VRel w T z c /\ VRel w T t d := by
 obtain ⟨h1, h2⟩ := h
 match vs, h1, h2 with
 | [a, b, c, d], _, h2 => exact ⟨a, b, c, d, rfl, h2 0 _ _ rfl rfl, h2 1 _ _ rfl rfl, h2 2 _ _ rfl rfl, h2 3 _ _ rfl rfl⟩
/-- Where tiles and buildings lie. -/
abbrev TK := AV × AV
def Rj (tk : TK) (w : Wld) (v : AV) : List AV := [int w.tick, int w.players, int w.next, int w.G.W, int w.G.H, tk.1, tk.2, v]
/-- They lie in the store, and not where the units do. -/
structure TKin (tk : TK) (G : Store) (w : Wld) (v : AV) : Prop where
 t : RowsQ 1 u8C G tk.1 w.G.T
 b : RowsQ 6 zp G tk.2 w.B
 off : ∀ b n c, v = .s (.slice (some ⟨b, 0, none⟩) n c) -> 0 < c -> qv tk.1 b /\ qv tk.2 b
 two : ∀ b n c, tk.1 = .s (.slice (some ⟨b, 0, none⟩) n c) -> 0 < c -> qv tk.2 b
theorem TKin.set {tk : TK} {G : Store} {w w' : Wld} {b n c : Nat} (h : TKin tk G w (.s (.slice (some ⟨b, 0, none⟩) n c))) (hc : 0 < c) (eG : w'.G = w.G) (eB : w'.B = w.B) (x : AObj) : TKin tk (G.setObj b x) w' (.s (.slice (some ⟨b, 0, none⟩) n c)) := by
 obtain ⟨h1, h2⟩ := h.off b n c rfl hc
 exact ⟨by rw [eG]; exact h.t.set h1 x, by rw [eB]; exact h.b.set h2 x, h.off, h.two⟩
theorem TKin.fresh {tk : TK} {G : Store} {w : Wld} {v : AV} (h : TKin tk G w v) {s : Nat} (hs : G.obj s = none) (x : AObj) : RowsQ 1 u8C (G.setObj s x) tk.1 w.G.T /\ RowsQ 6 zp (G.setObj s x) tk.2 w.B :=
 ⟨h.t.set (Bc h.t hs) x, h.b.set (Bc h.b hs) x⟩
def k6 (tk : TK) (w : Wld) (v o0 o1 o2 : AV) (p : Nat) : List AV := Rj tk w v ++ [o0, o1, o2, ptr p]
def zn (tk : TK) (G : Store) (s : Nat) (w : Wld) (v o0 o1 o2 : AV) (p : Nat) : Store := G.setObj s (.cells (k6 tk w v o0 o1 o2 p))
structure StandT (tk : TK) (F G : Store) (s p : Nat) (w : Wld) (v : AV) (L : List Ent) (o0 o1 o2 : AV) : Prop where
 ht : TKin tk G w v
 hc : CellsOf F p L
 hd : zi F (zn tk G s w v o0 o1 o2 p)
 hs : G.obj s = none
 hu : RowsQ 10 ze G v w.U
 h0 : Bb w 0 o0
 h1 : Bb w 1 o1
 h2 : Bb w 2 o2
theorem zso (g : Gnd) (hg : zl g) (l : List Bld) (hl : l.length <= 1000000000000) (hb : ∀ b ∈ l, z7 b /\ onP g b) (c : Int) (st : Store) (R : AV -> Store -> Prop) (h : ∀ b, Fresh st b -> R (blV b g.T.length) (st.setObj b (.cells (bl g.T.length (zw g l c))))) :
  ACalls Tryz.prog 215 [.agg (zt g), lst 6 zp l, int c] st R := by
 have ha := y9 hg
 refine ACalls.of_awp (c := cfg 37) zb Tryz.func215 (by rfl) (by rfl) (by rfl) (by rfl) ?_
 refine AWp.seq (AWp.of_vc zb ?_)
 refine AWp.seq (AWp.of_vc zb ?_)
 refine dl g hg l hl hb _ _ (fun b hf => ?_)
 have step : ∀ i, i < g.T.length -> yn g l c (i + 1) i = zw g l c i /\ ∀ s, s ≠ i -> yn g l c (i + 1) s = yn g l c i s := fun i hi => by
  unfold yn
  grind
 refine AWp.meetA (σ := Unit) ⟨fun _ => [(7, .av (blV b g.T.length))], fun _ => [], fun _ st' => st' = st.setObj b (.cells (bl g.T.length (zw g l c)))⟩ ?_ ?_
 ·refine AWp.of_vc zb ?_
  refine AWp.loop (σ := Nat) ⟨fun i => [(2, .av (int c)), (3, .bx 3 0), (7, .av (blV b g.T.length)), (13, .av (blV b g.T.length)), (14, .av (int (g.T.length : Nat))), (15, .av (int (i : Nat)))], fun _ => [(3, zt g)],
   fun i st' => i <= g.T.length /\ st' = st.setObj b (.cells (bl g.T.length (yn g l c i))), fun i => g.T.length - i⟩ zb ?_ ?_
  ·refine ⟨0, Tv, ⟨Nat.zero_le _, ?_⟩, ⟨Tq, Tq, Tq, Tq, Tq, Tq, Tv⟩, ⟨rfl, Tv⟩⟩
   rfl
  rintro i st' ⟨hi, rfl⟩
  refine bcd (fun h1 => ?_) (fun h1 => ?_)
  rotate_left
  ·have : i = g.T.length := by omega
   subst this
   refine ⟨(), ?_, ⟨Tq, Tv⟩, Tv⟩
   have : bl g.T.length (yn g l c g.T.length) = bl g.T.length (zw g l c) := by simp_all[bl,yn]
   rw [this]
  have hlt : i < g.T.length := by omega
  obtain ⟨s1, s2⟩ := step i hlt
  have ho : (st.setObj b (.cells (bl g.T.length (yn g l c i)))).obj b = some (.cells (bl g.T.length (yn g l c i))) := zd _ _ _
  have hmid : yn g l c i i = yv g l i := if_neg (Nat.lt_irrefl i)
  have hhead : ((bl g.T.length (yn g l c i)).drop (0 + i * 1)).head? = some (bool (yv g l i)) := by grind[List.head?_drop,Ao]
  refine ⟨i, rfl, hlt, ?_⟩
  refine za _ ho (za _ hhead ?_)
  have hti : g.T[i].toNat <= 5 := hg.2.2.2 _ (List.getElem_mem hlt)
  have hget : g.T.getD i 0 = g.T[i] := by simp [hlt]
  refine zg (fun c1 => ?_) (fun c1 => ?_)
  ·have c1 : yv g l i = false := by grind
   refine ⟨i, rfl, za _ (zj hlt) ?_⟩
   refine Ka c g.T[i] hti _ _ ?_
   have hz : decide (0 < je c g.T[i].toNat) = zw g l c i := by
    unfold zw
    grind
   refine ⟨i, rfl, hlt, ?_⟩
   refine qd (i := ti4) (v := bool (decide (0 < je c g.T[i].toNat))) (b := b) (o := 0 + i * 1) (l := _) (st2 := st.setObj b (.cells (bl g.T.length (yn g l c (i + 1))))) rfl rfl rfl ho (by rw [jk]; omega) (by grind[yr,wt]) ?_
   refine zc (by omega) ?_
   refine ⟨i + 1, ?_, ⟨by omega, rfl⟩, ⟨Tq, Tq, Tq, Tq, Tq, Tq, Tv⟩, ⟨rfl, Tv⟩⟩
   grind
  ·have c1 : yv g l i = true := by grind
   have hz : false = zw g l c i := by
    unfold zw
    grind
   refine ⟨i, rfl, hlt, ?_⟩
   refine qd (i := ti4) (v := bool false) (b := b) (o := 0 + i * 1) (l := _) (st2 := st.setObj b (.cells (bl g.T.length (yn g l c (i + 1))))) rfl rfl rfl ho (by rw [jk]; omega) (by grind[yr,wt]) ?_
   refine zc (by omega) ?_
   refine ⟨i + 1, ?_, ⟨by omega, rfl⟩, ⟨Tq, Tq, Tq, Tq, Tq, Tq, Tv⟩, ⟨rfl, Tv⟩⟩
   grind
 ·rintro _ _ rfl
  refine AWp.of_vc zb ?_
  exact ret (h b hf)
theorem zqv {g : Gnd} (hg : zl g) : g.T.length <= 9223372036854775807 := by
 have := y9 hg
 omega
theorem bu {S : Store} {g : Gnd} {v : AV} (hv : RowsQ 1 u8C S v g.T) {Oth M : Nat -> Nat -> Prop} {w : World} (sto : StoreOK S Oth M w) {x : Value} (hx : VRel w (fun b o => M b o \/ Oth b o) (.agg [int g.W, int g.H, v]) x) : VRel w (fun b o => (M b o \/ Oth b o) /\ S.obj b = none) (.agg (zt g)) x := by
 cases hx with
 | agg _ c hl hc =>
  refine .agg _ c hl fun i x y hx hy => ?_
  match i with
  | 0 => cases hx; exact qr (hc 0 _ y rfl hy)
  | 1 => cases hx; exact qr (hc 1 _ y rfl hy)
  | 2 => cases hx; exact hv.borrow Av Ml sto (hc 2 _ y rfl hy)
  | i + 3 => cases hx
/-- clear.Tiles of a ground in memory of its own. -/
theorem Pp {S : Store} {vT vB : AV} (g : Gnd) (hg : zl g) (l : List Bld) (hT : RowsQ 1 u8C S vT g.T) (hBv : RowsQ 6 zp S vB l) (hl : l.length <= 1000000000000) (hb : ∀ b ∈ l, z7 b /\ onP g b) (c : Int) (R : AV -> Store -> Prop) (h : R (opV g l c) S) :
  ACalls Tryz.prog 215 [.agg [int g.W, int g.H, vT], vB, int c] S R := by
 refine ACalls.readFroz (ys := [.agg (zt g), lst 6 zp l, int c]) (Q := fun r N => ∃ b, r = blV b g.T.length /\ N = Store.empty.setObj b (.cells (bl g.T.length (zw g l c)))) (fun Oth M w vs sto hr => ?_) (zso g hg l hl hb c _ _ fun b _ => ⟨b, rfl, rfl⟩) ?_ ?_
 ·obtain ⟨x, y, z, rfl, h1, h2, h3⟩ := Nn hr
  exact Reads.cons (bu hT sto h1) (Reads.cons (hBv.borrow Bo Py sto h2) (Reads.cons (qr h3) Reads.nil))
 ·rintro r N ⟨b, rfl, rfl⟩
  refine ⟨Du _, fun b2 x hx => ?_⟩
  by_cases e : b2 = b
  ·subst e
   rw [zd] at hx
   cases hx
   refine cg fun y hy => ?_
   obtain ⟨t, _, rfl⟩ := List.mem_map.1 hy
   exact Du _
  ·rw [zq e] at hx
   cases hx
 ·rintro r N ⟨b, rfl, rfl⟩
  refine ⟨_, h, fun Oth M w v sto hv => ?_⟩
  have hr : RowsO 1 x8 (Store.empty.setObj b (.cells (bl g.T.length (zw g l c)))) (blV b g.T.length) (blL g.T.length (zw g l c)) :=
   .inr ⟨b, g.T.length, [], by rw [j7]; rfl, by rw [Ke, zd], by rw [j7]; exact Nat.le_refl _, by rw [j7]; simp, zqv hg⟩
  exact hr.borrow (f := x8) (k := 1) (fun _ => rfl) (fun x y hy => by simp [x8] at hy; exact ⟨_, hy, rfl⟩) sto hv
theorem zrc {S : Store} {vT : AV} (g : Gnd) (hg : zl g) (hT : RowsQ 1 u8C S vT g.T) (l : List Bld) (c : Int) (p : Vc) (hpo : p.ok) (d : Int) (hr : 0 < d /\ d <= 262144) (R : AV -> Store -> Prop)
  (h : ∀ z : Bool, (z = true ↔ ku g l c p d) -> R (V.bool z) S) : ACalls Tryz.prog 135 [.agg [int g.W, int g.H, vT], opV g l c, .agg (zk p), int d] S R :=
 ACalls.read (ys := [.agg (zt g), opV g l c, .agg (zk p), int d]) (Q := fun r => ∃ z : Bool, (z = true ↔ ku g l c p d) /\ r = V.bool z) (fun Oth M w vs sto hr => by
  obtain ⟨a, b, x, e, rfl, h1, h2, h3, h4⟩ := zmd hr
  exact Reads.cons (bu hT sto h1) (Reads.cons (qr h2) (Reads.cons (qr h3) (Reads.cons (qr h4) Reads.nil)))) (O4 g hg l c p hpo d hr _ _ fun z hz => ⟨z, hz, rfl⟩) (fun r ⟨z, _, e⟩ => e ▸ Du _) (fun r ⟨z, hz, e⟩ => e ▸ h z hz)
section
variable {tk : TK}
theorem vj (tk : TK) (G : Store) (s : Nat) (w : Wld) (v o0 o1 o2 : AV) (p : Nat) : (zn tk G s w v o0 o1 o2 p).obj s = some (.cells (k6 tk w v o0 o1 o2 p)) := zd _ _ _
theorem Sl {G : Store} {s : Nat} {w : Wld} {v o0 o1 o2 : AV} {p : Nat} {u : AV} {l : List Unt} (hs : G.obj s = none) (h : RowsQ 10 ze G u l) : RowsQ 10 ze (zn tk G s w v o0 o1 o2 p) u l := by
 rcases h with (h | ⟨b, cap, L, h1, h2, h3⟩) | h
 ·exact .inl (.inl h)
 ·refine .inl (.inr ⟨b, cap, L, h1, ?_, h3⟩)
  have : b ≠ s := fun e => by subst e; rw [hs] at h2; cases h2
  show (G.setObj s _).obj b = _
  rw [zq this]
  exact h2
 ·exact .inr h
theorem svSt_has {G : Store} {s : Nat} {w : Wld} {v o0 o1 o2 : AV} {p i : Nat} : (zn tk G s w v o0 o1 o2 p).has i ↔ i = s \/ G.has i := by
 unfold zn Store.has
 by_cases hi : i = s
 ·subst hi
  simp [zd]
 ·rw [zq hi]
  simp [hi, Store.setObj]
theorem Pi {F G : Store} {s : Nat} {w w' : Wld} {v o0 o1 o2 v' q0 q1 q2 : AV} {p : Nat} (h : zi F (zn tk G s w v o0 o1 o2 p)) : zi F (zn tk G s w' v' q0 q1 q2 p) := fun i h1 h2 => h i h1 (svSt_has.2 (svSt_has.1 h2))
theorem zns (w : Wld) (v : AV) (G : Store) (hG : TKin tk G w v) (hu : RowsQ 10 ze G v w.U) (hU : w.U.length <= 1000000) (hn : ∀ u ∈ w.U, u.pos.ok) (R : AV -> Store -> Prop)
  (h : ∀ F s p L o0 o1 o2, Fresh G s -> StandT tk F G s p w v L o0 o1 o2 -> L.length <= w.U.length -> (yf w.U -> ∀ e, e ∈ L ↔ ∃ u ∈ w.U, u.inn = 0 /\ e = (u.id, u.pos)) -> R (ptr s) (F.un (zn tk G s w v o0 o1 o2 p))) : ACalls Tryz.prog 80 [.agg (Rj tk w v)] G R := by
 obtain ⟨oa, cap, hv, hget⟩ := hu.form
 subst hv
 refine ACalls.of_body (c := cfg 31 [9] []) zb Tryz.func80 (by rfl) (by rfl) (by rfl) (by rfl) ?_
 refine ADraw.of_sched zb (by rfl) (by rfl) Nf (by rfl) ?_
 refine ⟨er _ (fun F p hc hdF => ⟨(by repeat (first | exact Tv | refine ⟨rfl, ?_⟩ | refine ⟨optR (optR (optR (za _ (zd _ _ _) rfl))), ?_⟩)), ?_⟩), Tv⟩
 refine ⟨fun s hs => ⟨Tv, ?_⟩, Tv⟩
 refine ⟨⟨Tv, ?_⟩, Tv⟩
 have hs1 : ¬ F.has s /\ ¬ G.has s := by
  have := fresh_iff.1 hs
  exact ⟨fun h => this (un_has.2 (.inl h)), fun h => this (un_has.2 (.inr h))⟩
 have hsG : G.obj s = none := (ki hs1.2).1
 have e0 : (F.un G).setObj s (.cells (k6 tk w (.s (.slice oa w.U.length cap)) (.s (.slice none 0 0)) (.s (.slice none 0 0)) (.s (.slice none 0 0)) p)) = F.un (zn tk G s w (.s (.slice oa w.U.length cap)) (.s (.slice none 0 0)) (.s (.slice none 0 0)) (.s (.slice none 0 0)) p) := by
  exact yx F G s _
 have h0 : StandT tk F G s p w (.s (.slice oa w.U.length cap)) [] (.s (.slice none 0 0)) (.s (.slice none 0 0)) (.s (.slice none 0 0)) := ⟨hG, hc, fun i h1 h2 => by
  rcases svSt_has.1 h2 with rfl | h2
  ·exact hs1.1 h1
  ·exact hdF i h1 h2, hsG, hu, .inl rfl, .inl rfl, .inl rfl⟩
 have hsf : Fresh G s := fresh_iff.2 hs1.2
 refine AWp.loop (σ := Nat × Store × List Ent) ⟨fun q => [(3, .av (ptr s)), (11, .av (.s (.slice oa w.U.length cap))), (12, .av (int (w.U.length : Nat))), (13, .av (int (q.1 : Nat)))], fun _ => [],
  fun q st' => st' = q.2.1.un (zn tk G s w (.s (.slice oa w.U.length cap)) (.s (.slice none 0 0)) (.s (.slice none 0 0)) (.s (.slice none 0 0)) p) /\ StandT tk q.2.1 G s p w (.s (.slice oa w.U.length cap)) q.2.2 (.s (.slice none 0 0)) (.s (.slice none 0 0)) (.s (.slice none 0 0)) /\ q.1 <= w.U.length /\ q.2.2.length <= q.1 /\ (∀ e ∈ q.2.2, e.2.ok) /\ (yf w.U -> ∀ e, e ∈ q.2.2 ↔ ∃ u ∈ w.U.take q.1, u.inn = 0 /\ e = (u.id, u.pos)), fun q => w.U.length - q.1⟩ zb ?_ ?_
 ·exact ⟨(0, F, []), Tv, ⟨e0, h0, Nat.zero_le _, Nat.le_refl _, fun e he => (by cases he), fun _ e => (by simp)⟩, ⟨Tq, Tq, Tq, Tq, Tv⟩, Tv⟩
 rintro ⟨i, F1, L⟩ st' ⟨rfl, hS, hi, hL, hok, hmem⟩
 dsimp only at hS hi hL hok hmem ⊢
 refine bcd (fun h1 => ?_) (fun h1 => ?_)
 rotate_left
 ·have : i = w.U.length := by omega
  subst this
  rw [List.take_length] at hmem
  exact ret (h F1 s p L _ _ _ hsf hS hL hmem)
 have hlt : i < w.U.length := by omega
 obtain ⟨b, J, rfl, hob0⟩ := hget i hlt
 have hbs : b ≠ s := fun e => by subst e; rw [hsG] at hob0; cases hob0
 have hob : (F1.un (zn tk G s w (.s (.slice (some ⟨b, 0, none⟩) w.U.length cap)) (.s (.slice none 0 0)) (.s (.slice none 0 0)) (.s (.slice none 0 0)) p)).obj b = some (.cells ((rws ze w.U).flatten ++ J)) := zf (by
  show (G.setObj s _).obj b = _
  rw [zq hbs]; exact hob0)
 refine ⟨i, rfl, hlt, ?_⟩
 refine za (o := (F1.un (zn tk G s w _ _ _ _ p)).obj b) _ hob ?_
 refine qm (i := ti37) (row := ze w.U[i]) rfl rfl (I4 xb hlt) ?_
 have hn2 := hn w.U[i] (List.getElem_mem hlt)
 refine yp (fun c1 => ?_) (fun c1 => ?_)
 ·refine ADraw.of_sched zb (by rfl) (by rfl) Nd (by rfl) ?_
  refine za (o := (F1.un (zn tk G s w _ _ _ _ p)).obj s) _ (zf (vj tk G s w _ _ _ _ p)) ?_
  refine ⟨H3 hS.hc hS.hd (by omega) hok w.U[i].id w.U[i].pos hn2 _ (fun F2 h2 h3 => ⟨Tv, ?_⟩), Tv⟩
  have hlen : (yi L w.U[i].id ++ [(w.U[i].id, w.U[i].pos)]).length <= i + 1 := by
   rw [List.length_append]
   have : (yi L w.U[i].id).length <= L.length := List.length_filter_le _ _
   simp only [List.length_singleton]; omega
  refine zc (by omega) ?_
  refine ⟨(i + 1, F2, _), ?_, ⟨rfl, ⟨hG, h2, h3, hsG, hu, .inl rfl, .inl rfl, .inl rfl⟩, by dsimp only; omega, hlen, fun e he => ?_, fun hr e => ?_⟩, ⟨Tq, Tq, Tq, Tq, Tv⟩, Tv⟩
  ·show w.U.length - (i + 1) < w.U.length - i
   omega
  ·rcases List.mem_append.1 he with he | he
   ·exact hok e (mem_dropId.1 he).1
   ·simp at he; subst he; exact hn2
  ·dsimp only
   rw [List.take_succ_eq_append_getElem hlt, List.mem_append, mem_dropId, hmem hr e]
   constructor
   ·rintro (⟨⟨u, hu, h4⟩, _⟩ | he)
    ·exact ⟨u, List.mem_append.2 (.inl hu), h4⟩
    ·simp at he
     exact ⟨w.U[i], List.mem_append.2 (.inr (by simp)), c1, he⟩
   ·rintro ⟨u, hu, h4, h5⟩
    rcases List.mem_append.1 hu with hu | hu
    ·refine .inl ⟨⟨u, hu, h4, h5⟩, ?_⟩
     obtain ⟨j, hj, rfl⟩ := List.getElem_of_mem hu
     rw [List.length_take] at hj
     rw [List.getElem_take] at h5
     have := Hc hr (a := j) (b := i) (by omega) hlt
     subst h5
     show w.U[j].id ≠ w.U[i].id
     omega
    ·simp at hu
     subst hu
     exact .inr (by simp [h5])
 ·refine zc (by omega) ?_
  refine ⟨(i + 1, F1, L), ?_, ⟨rfl, hS, by dsimp only; omega, by dsimp only; omega, hok, fun hr e => ?_⟩, ⟨Tq, Tq, Tq, Tq, Tv⟩, Tv⟩
  ·show w.U.length - (i + 1) < w.U.length - i
   omega
  ·dsimp only
   rw [hmem hr e, List.take_succ_eq_append_getElem hlt]
   constructor
   ·rintro ⟨u, hu, h3⟩; exact ⟨u, List.mem_append.2 (.inl hu), h3⟩
   ·rintro ⟨u, hu, h3, h4⟩
    rcases List.mem_append.1 hu with hu | hu
    ·exact ⟨u, hu, h3, h4⟩
    ·simp at hu
     subst hu
     exact absurd h3 c1
theorem zhv {F : Store} {s p : Nat} {G : Store} {w : Wld} {v : AV} {L : List Ent} {o0 o1 o2 : AV} (hS : StandT tk F G s p w v L o0 o1 o2) (hg : zl w.G) (hB : w.B.length <= 1000000000000) (hb : ∀ b ∈ w.B, z7 b /\ onP w.G b) (c : Int) (hc : c = 0 \/ c = 1 \/ c = 2) (R : AV -> Store -> Prop)
  (h : ∀ q0 q1 q2, StandT tk F G s p w v L q0 q1 q2 -> R (opV w.G w.B c) (F.un (zn tk G s w v q0 q1 q2 p))) : ACalls Tryz.prog 136 [ptr s, int c] (F.un (zn tk G s w v o0 o1 o2 p)) R := by
 have ho := zf (a := F) (vj tk G s w v o0 o1 o2 p)
 have hq0 := hS.ht.fresh hS.hs (.cells (k6 tk w v o0 o1 o2 p))
 have hq : RowsQ 1 u8C (F.un (zn tk G s w v o0 o1 o2 p)) tk.1 w.G.T /\ RowsQ 6 zp (F.un (zn tk G s w v o0 o1 o2 p)) tk.2 w.B := ⟨hq0.1.un, hq0.2.un⟩
 clear hq0
 obtain ⟨x0, y0, hne0⟩ := jg hg w.B 0
 obtain ⟨x1, y1, hne1⟩ := jg hg w.B 1
 obtain ⟨x2, y2, hne2⟩ := jg hg w.B 2
 rcases hc with rfl | rfl | rfl
 ·rcases hS.h0 with e | e
  ·subst e
   refine ACalls.of_body (c := cfg 35) zb Tryz.func136 (by rfl) (by rfl) (by rfl) (by rfl) ?_
   refine ⟨0, rfl, by decide, ?_⟩
   refine za (o := (F.un (zn tk G s w v _ _ _ p)).obj s) _ ho ?_
   refine ADraw.of_sched zb (by rfl) (by rfl) Ay (by rfl) ?_
   refine za (o := (F.un (zn tk G s w v _ _ _ p)).obj s) _ ho ?_
   refine za (o := (F.un (zn tk G s w v _ _ _ p)).obj s) _ ho ?_
   refine ⟨Pp w.G hg w.B hq.1 hq.2 hB hb 0 _ ⟨Tv, ?_⟩, Tv⟩
   refine ⟨0, rfl, by decide, ?_⟩
   have ho2 := zf (a := F) (vj tk G s w v (opV w.G w.B 0) o1 o2 p)
   have hc2 := Bn (jg hg w.B 0)
   refine ⟨?_, Tv⟩
   refine za _ rfl (xo rfl (xh (v := opV w.G w.B 0) rfl rfl rfl rfl ?_))
   refine qd (i := ti88) (v := opV w.G w.B 0) (b := s) (o := 0 + 8 + 0 * ti88.size) (l := k6 tk w v _ o1 o2 p) (st2 := F.un (zn tk G s w v (opV w.G w.B 0) o1 o2 p)) hc2.1 hc2.2 rfl ho (show 8 + 1 <= 12 by decide) ?_ ?_
   ·rw [yx]
    unfold zn
    rw [yr]
    rfl
   refine ⟨Tv, ?_⟩
   refine ⟨0, rfl, by decide, ?_⟩
   refine za (o := (F.un (zn tk G s w v _ _ _ p)).obj s) _ ho2 ?_
   exact ret (h _ _ _ ⟨hS.ht, hS.hc, Pi hS.hd, hS.hs, hS.hu, .inr rfl, hS.h1, hS.h2⟩)
  ·rw [hne0] at e
   subst e
   refine ACalls.of_body (c := cfg 35) zb Tryz.func136 (by rfl) (by rfl) (by rfl) (by rfl) ?_
   refine ⟨0, rfl, by decide, ?_⟩
   refine za (o := (F.un (zn tk G s w v _ _ _ p)).obj s) _ ho ?_
   refine fun bb hbb => ?_
   have hbf : bb = false := by
    cases bb with
    | true => cases hbb rfl
    | false => rfl
   subst hbf
   refine ⟨0, rfl, by decide, ?_⟩
   refine za (o := (F.un (zn tk G s w v _ _ _ p)).obj s) _ ho ?_
   refine ret ?_
   have := h _ _ _ hS
   rw [hne0] at this
   exact this
 ·rcases hS.h1 with e | e
  ·subst e
   refine ACalls.of_body (c := cfg 35) zb Tryz.func136 (by rfl) (by rfl) (by rfl) (by rfl) ?_
   refine ⟨1, rfl, by decide, ?_⟩
   refine za (o := (F.un (zn tk G s w v _ _ _ p)).obj s) _ ho ?_
   refine ADraw.of_sched zb (by rfl) (by rfl) Ay (by rfl) ?_
   refine za (o := (F.un (zn tk G s w v _ _ _ p)).obj s) _ ho ?_
   refine za (o := (F.un (zn tk G s w v _ _ _ p)).obj s) _ ho ?_
   refine ⟨Pp w.G hg w.B hq.1 hq.2 hB hb 1 _ ⟨Tv, ?_⟩, Tv⟩
   refine ⟨1, rfl, by decide, ?_⟩
   have ho2 := zf (a := F) (vj tk G s w v o0 (opV w.G w.B 1) o2 p)
   have hc2 := Bn (jg hg w.B 1)
   refine ⟨?_, Tv⟩
   refine za _ rfl (xo rfl (xh (v := opV w.G w.B 1) rfl rfl rfl rfl ?_))
   refine qd (i := ti88) (v := opV w.G w.B 1) (b := s) (o := 0 + 8 + 1 * ti88.size) (l := k6 tk w v o0 _ o2 p) (st2 := F.un (zn tk G s w v o0 (opV w.G w.B 1) o2 p)) hc2.1 hc2.2 rfl ho (show 9 + 1 <= 12 by decide) ?_ ?_
   ·rw [yx]
    unfold zn
    rw [yr]
    rfl
   refine ⟨Tv, ?_⟩
   refine ⟨1, rfl, by decide, ?_⟩
   refine za (o := (F.un (zn tk G s w v _ _ _ p)).obj s) _ ho2 ?_
   exact ret (h _ _ _ ⟨hS.ht, hS.hc, Pi hS.hd, hS.hs, hS.hu, hS.h0, .inr rfl, hS.h2⟩)
  ·rw [hne1] at e
   subst e
   refine ACalls.of_body (c := cfg 35) zb Tryz.func136 (by rfl) (by rfl) (by rfl) (by rfl) ?_
   refine ⟨1, rfl, by decide, ?_⟩
   refine za (o := (F.un (zn tk G s w v _ _ _ p)).obj s) _ ho ?_
   refine fun bb hbb => ?_
   have hbf : bb = false := by
    cases bb with
    | true => cases hbb rfl
    | false => rfl
   subst hbf
   refine ⟨1, rfl, by decide, ?_⟩
   refine za (o := (F.un (zn tk G s w v _ _ _ p)).obj s) _ ho ?_
   refine ret ?_
   have := h _ _ _ hS
   rw [hne1] at this
   exact this
 ·rcases hS.h2 with e | e
  ·subst e
   refine ACalls.of_body (c := cfg 35) zb Tryz.func136 (by rfl) (by rfl) (by rfl) (by rfl) ?_
   refine ⟨2, rfl, by decide, ?_⟩
   refine za (o := (F.un (zn tk G s w v _ _ _ p)).obj s) _ ho ?_
   refine ADraw.of_sched zb (by rfl) (by rfl) Ay (by rfl) ?_
   refine za (o := (F.un (zn tk G s w v _ _ _ p)).obj s) _ ho ?_
   refine za (o := (F.un (zn tk G s w v _ _ _ p)).obj s) _ ho ?_
   refine ⟨Pp w.G hg w.B hq.1 hq.2 hB hb 2 _ ⟨Tv, ?_⟩, Tv⟩
   refine ⟨2, rfl, by decide, ?_⟩
   have ho2 := zf (a := F) (vj tk G s w v o0 o1 (opV w.G w.B 2) p)
   have hc2 := Bn (jg hg w.B 2)
   refine ⟨?_, Tv⟩
   refine za _ rfl (xo rfl (xh (v := opV w.G w.B 2) rfl rfl rfl rfl ?_))
   refine qd (i := ti88) (v := opV w.G w.B 2) (b := s) (o := 0 + 8 + 2 * ti88.size) (l := k6 tk w v o0 o1 _ p) (st2 := F.un (zn tk G s w v o0 o1 (opV w.G w.B 2) p)) hc2.1 hc2.2 rfl ho (show 10 + 1 <= 12 by decide) ?_ ?_
   ·rw [yx]
    unfold zn
    rw [yr]
    rfl
   refine ⟨Tv, ?_⟩
   refine ⟨2, rfl, by decide, ?_⟩
   refine za (o := (F.un (zn tk G s w v _ _ _ p)).obj s) _ ho2 ?_
   exact ret (h _ _ _ ⟨hS.ht, hS.hc, Pi hS.hd, hS.hs, hS.hu, hS.h0, hS.h1, .inr rfl⟩)
  ·rw [hne2] at e
   subst e
   refine ACalls.of_body (c := cfg 35) zb Tryz.func136 (by rfl) (by rfl) (by rfl) (by rfl) ?_
   refine ⟨2, rfl, by decide, ?_⟩
   refine za (o := (F.un (zn tk G s w v _ _ _ p)).obj s) _ ho ?_
   refine fun bb hbb => ?_
   have hbf : bb = false := by
    cases bb with
    | true => cases hbb rfl
    | false => rfl
   subst hbf
   refine ⟨2, rfl, by decide, ?_⟩
   refine za (o := (F.un (zn tk G s w v _ _ _ p)).obj s) _ ho ?_
   refine ret ?_
   have := h _ _ _ hS
   rw [hne2] at this
   exact this
theorem zii {F : Store} {s p : Nat} {G : Store} {w : Wld} {v : AV} {L : List Ent} {o0 o1 o2 : AV} (hS : StandT tk F G s p w v L o0 o1 o2) (hr : yf w.U) (hU : w.U.length <= 1000000) (hn : ∀ u ∈ w.U, u.pos.ok) (hLl : L.length <= w.U.length) (hL : j3 w L) (q : Vc) (hq : q.ok) (r : Int) (hrr : 0 < r /\ r <= 262144) (R : AV -> Store -> Prop)
  (h : ∀ F' us, StandT tk F' G s p w v L o0 o1 o2 -> Be w q (r + 81920) us -> (us.map (·.id)).Pairwise (· < ·) -> us.length <= 1000000 -> R (lst 10 ze us) (F'.un (zn tk G s w v o0 o1 o2 p))) : ACalls Tryz.prog 137 [ptr s, .agg (zk q), int r] (F.un (zn tk G s w v o0 o1 o2 p)) R := by
 have ho := zf (a := F) (vj tk G s w v o0 o1 o2 p)
 refine ACalls.of_body (c := cfg 47) zb Tryz.func137 (by rfl) (by rfl) (by rfl) (by rfl) ?_
 refine ADraw.of_sched zb (by rfl) (by rfl) Ni (by rfl) ?_
 refine za (o := (F.un (zn tk G s w v _ _ _ p)).obj s) _ ho ?_
 refine zc (by omega) ?_
 refine ⟨Px hS.hc hS.hd (by omega) (Hk hL hn) hq (r := r + 81920) ⟨by omega, by omega⟩ _ (fun F' N nv ns g1 g2 g3 g4 g5 g6 => ⟨Tv, ?_⟩), Tv⟩
 have hS' : StandT tk F' G s p w v L o0 o1 o2 := ⟨hS.ht, g1, g3, hS.hs, hS.hu, hS.h0, hS.h1, hS.h2⟩
 have ho' : ((F'.un N).un (zn tk G s w v o0 o1 o2 p)).obj s = some (.cells (k6 tk w v o0 o1 o2 p)) := zf (vj tk G s w v o0 o1 o2 p)
 have g4' : zi (F'.un N) (zn tk G s w v o0 o1 o2 p) := disj_un.2 ⟨g3, g4⟩
 have hv : ∃ oa cap, nv = .s (.slice oa ns.length cap) /\ ∀ i, i < ns.length -> ∃ b J, oa = some ⟨b, 0, none⟩ /\ ((F'.un N).un (zn tk G s w v o0 o1 o2 p)).obj b = some (.cells (ns.map aI ++ J)) := by
  rcases Fz g5 with ⟨rfl, rfl⟩ | ⟨b, cap, J, rfl, hob, _⟩
  ·exact ⟨none, 0, rfl, fun i hi => absurd hi (Nat.not_lt_zero i)⟩
  ·exact ⟨_, cap, rfl, fun i _ => ⟨b, J, rfl, y3 g4' (zf hob)⟩⟩
 obtain ⟨oa, cap, rfl, hget⟩ := hv
 have hrow : RowsQ 10 ze ((F'.un N).un (zn tk G s w v o0 o1 o2 p)) v w.U := (Sl hS.hs hS.hu).un
 have hnl : ns.length <= w.U.length := by
  have := List.Nodup.length_le_of_subset (l₂ := L.map (·.1)) (g6.1.imp fun h => by omega) (fun id hid => by
   obtain ⟨e, he, h2, _⟩ := (g6.2 id).1 hid
   exact List.mem_map.2 ⟨e, he, h2⟩)
  rw [List.length_map] at this
  omega
 have hfin : ∀ us : List Unt, us.map (·.id) = ns -> (∀ u ∈ us, u ∈ w.U /\ u.inn = 0) -> R (lst 10 ze us) (F'.un (zn tk G s w v o0 o1 o2 p)) := fun us e1 e2 =>
  h F' us hS' (N5 hr hL g6 e1 e2) (by rw [e1]; exact g6.1) (by
   have := congrArg List.length e1
   rw [List.length_map] at this
   omega)
 have hback := Ov (S := zn tk G s w v o0 o1 o2 p) g2
 generalize (F'.un N).un (zn tk G s w v o0 o1 o2 p) = st1 at *
 refine AWp.loop (σ := Nat × AV × List Unt) ⟨fun x => [(0, .av (ptr s)), (6, .av x.2.1), (18, .av (.s (.slice oa ns.length cap))), (19, .av (int (ns.length : Nat))), (20, .av (int (x.1 : Nat)))], fun _ => [],
  fun x st' => x.1 <= ns.length /\ App 10 st1 x.2.1 (rws ze x.2.2) st' /\ x.2.2.map (·.id) = ns.take x.1 /\ ∀ u ∈ x.2.2, u ∈ w.U /\ u.inn = 0, fun x => ns.length - x.1⟩ zb ?_ ?_
 ·exact ⟨(0, _, []), Tv, ⟨Nat.zero_le _, App.start 10 st1, rfl, fun u hu => (by cases hu)⟩, ⟨Tq, Tq, Tq, Tq, Tq, Tv⟩, Tv⟩
 rintro ⟨i, v2, us⟩ st' ⟨hi, ha, hus, hin⟩
 dsimp only at hi ha hus hin ⊢
 refine bcd (fun h1 => ?_) (fun h1 => ?_)
 rotate_left
 ·have : i = ns.length := by omega
  subst this
  rw [List.take_length] at hus
  exact ⟨_, _, AV.le_trans ha.le (Tt), ha.has.trans hback, hfin us hus hin⟩
 have hlt : i < ns.length := by omega
 obtain ⟨b, J, rfl, hob⟩ := hget i hlt
 have hob' : st'.obj b = some (.cells (ns.map aI ++ J)) := by rw [ha.obj]; exact hob
 have hrow' : RowsQ 10 ze st' v w.U := by
  exact hrow.sub fun _ _ _ _ => by rw [ha.obj]
 have hos : st'.obj s = some (.cells (k6 tk w v o0 o1 o2 p)) := by rw [ha.obj]; exact ho'
 refine ⟨i, rfl, hlt, ?_⟩
 refine za (o := st'.obj b) _ hob' ?_
 refine za (o := List.head? _) (int ns[i]) (by
  rw [List.head?_drop, show 0 + i * ti3.size = i from by show 0 + i * 1 = i; omega, List.getElem?_append_left (by simpa using hlt), List.getElem?_map, List.getElem?_eq_getElem hlt]; rfl) ?_
 refine za (o := st'.obj s) _ hos ?_
 refine Lq hrow' (by omega) hr ns[i] _ (fun k hk z hz => ?_)
 obtain ⟨e, he, hid, _⟩ := (g6.2 ns[i]).1 (List.getElem_mem hlt)
 obtain ⟨u, hu, hu0, rfl⟩ := (hL e).1 he
 have hfound : ∃ hk2 : k < w.U.length, w.U[k].id = ns[i] := by
  obtain ⟨j, hj, rfl⟩ := List.getElem_of_mem hu
  have h5 : j >= k := Decidable.byContradiction fun hn2 => by
   have := hk.2.1 j hj (by omega)
   have h6 : (w.U[j]).id = ns[i] := hid
   omega
  have h7 : k < w.U.length := by omega
  refine ⟨h7, ?_⟩
  have h8 := hk.2.2 k h7 (Nat.le_refl _)
  have h6 : (w.U[j]).id = ns[i] := hid
  by_cases e : k = j
  ·subst e; exact h6
  ·have := w8 hr (show k < j by omega) hj
   omega
 obtain ⟨hk2, hk3⟩ := hfound
 refine za (o := st'.obj s) _ hos ?_
 obtain ⟨oa2, cap2, hv2, hget2⟩ := hrow'.form
 obtain ⟨b2, J2, rfl, hob2⟩ := hget2 k hk2
 subst hv2
 refine ⟨k, rfl, hk2, ?_⟩
 refine za (o := st'.obj b2) _ hob2 ?_
 refine qm (i := ti37) (row := ze w.U[k]) rfl rfl (I4 xb hk2) ?_
 refine ⟨by decide, ?_⟩
 have hul : us.length = i := by
  have := congrArg List.length hus
  rw [List.length_map, List.length_take] at this
  omega
 refine Cu (ie := ti37) (rows' := [ze w.U[k]]) ha ?_ ?_ ⟨?_, ?_⟩ (fun v3 st3 ha3 => ?_)
 ·rfl
 ·rfl
 ·simp only [zu, List.length_singleton, ti37]; omega
 ·simp only [zu, List.length_singleton]; omega
 refine zc (by omega) ?_
 have huk : w.U[k] = u := Ca hr (List.getElem_mem hk2) hu (by rw [hk3]; exact hid.symm)
 refine ⟨(i + 1, v3, us ++ [w.U[k]]), ?_, ⟨by dsimp only; omega, ?_, ?_, fun u2 hu2 => ?_⟩, ⟨Tq, Tq, Tq, Tq, Tq, Tv⟩, Tv⟩
 ·show ns.length - (i + 1) < ns.length - i
  omega
 ·dsimp only
  unfold rws at ha3 ⊢
  rw [List.map_append]
  exact ha3
 ·dsimp only
  rw [List.map_append, hus, List.take_succ_eq_append_getElem hlt]
  simp [hk3]
 ·rcases List.mem_append.1 hu2 with h9 | h9
  ·exact hin u2 h9
  ·simp at h9
   subst h9
   rw [huk]
   exact ⟨hu, hu0⟩
theorem zik {F : Store} {s p : Nat} {G : Store} {w : Wld} {v : AV} {L : List Ent} {o0 o1 o2 : AV} (hS : StandT tk F G s p w v L o0 o1 o2) (hr : yf w.U) (hU : w.U.length <= 1000000) (hn : ∀ u ∈ w.U, u.pos.ok) (hLl : L.length <= w.U.length) (hL : j3 w L) (q : Vc) (hq : q.ok) (r : Int) (hrr : 0 < r /\ r <= 262144) (R : AV -> Store -> Prop)
  (h : ∀ F' us, StandT tk F' G s p w v L o0 o1 o2 -> Be w q (r + 81920) us -> us.length <= 1000000 -> R (lst 10 ze us) (F'.un (zn tk G s w v o0 o1 o2 p))) : ACalls Tryz.prog 137 [ptr s, .agg (zk q), int r] (F.un (zn tk G s w v o0 o1 o2 p)) R :=
 zii hS hr hU hn hLl hL q hq r hrr R fun F' us a b _ d => h F' us a b d
theorem zib {F : Store} {s p : Nat} {G : Store} {w : Wld} {v : AV} {L : List Ent} {o0 o1 o2 : AV} (hS : StandT tk F G s p w v L o0 o1 o2) (hg : zl w.G) (hB : w.B.length <= 1000000000000) (hb : ∀ b ∈ w.B, z7 b /\ onP w.G b) (hr : yf w.U) (hU : w.U.length <= 1000000) (hn : ∀ u ∈ w.U, u.pos.ok) (hLl : L.length <= w.U.length) (hL : j3 w L)
  (id k : Int) (q : Vc) (hq : q.ok) (R : AV -> Store -> Prop)
  (h : ∀ z F' q0 q1 q2, (z = true ↔ y5 w id k q) -> StandT tk F' G s p w v L q0 q1 q2 -> R (V.bool z) (F'.un (zn tk G s w v q0 q1 q2 p))) : ACalls Tryz.prog 81 [ptr s, int id, int k, .agg (zk q)] (F.un (zn tk G s w v o0 o1 o2 p)) R := by
 have ho := zf (a := F) (vj tk G s w v o0 o1 o2 p)
 have hk := vy k
 have hc := Fy k
 refine ACalls.of_body (c := cfg 56) zb Tryz.func81 (by rfl) (by rfl) (by rfl) (by rfl) ?_
 refine qw k _ _ ?_
 refine ADraw.of_sched zb (by rfl) (by rfl) Nc (by rfl) ?_
 refine za (o := (F.un (zn tk G s w v _ _ _ p)).obj s) _ ho ?_
 refine ⟨zhv hS hg hB hb (yh k) hc _ (fun a0 a1 a2 hS1 => ⟨?_, ?_⟩), Tv⟩
 ·have ho1 := zf (a := F) (vj tk G s w v a0 a1 a2 p)
  repeat (first | exact Tv | refine ⟨rfl, ?_⟩ | refine ⟨za (o := (F.un (zn tk G s w v a0 a1 a2 p)).obj s) _ ho1 rfl, ?_⟩)
 have hqt := hS1.ht.fresh hS1.hs (.cells (k6 tk w v a0 a1 a2 p))
 have hqs : RowsQ 1 u8C (F.un (zn tk G s w v a0 a1 a2 p)) tk.1 w.G.T /\ RowsQ 6 zp (F.un (zn tk G s w v a0 a1 a2 p)) tk.2 w.B := ⟨hqt.1.un, hqt.2.un⟩
 refine ⟨zrc w.G hg hqs.1 w.B (yh k) q hq (zm k) ⟨hk.1, by omega⟩ _ (fun z hz => ⟨Tv, ?_⟩), Tv⟩
 refine z8 ?_
 refine zg (fun c1 => ?_) (fun c1 => ret (h false _ _ _ _ (by simp only [Bool.false_eq_true, false_iff]; exact fun hh => by have := hz.2 hh.1; rw [this] at c1; cases c1) hS1))
 have hfree := hz.1 c1
 refine zik hS1 hr hU hn hLl hL q hq (zm k) ⟨hk.1, by omega⟩ _ (fun F' us hS2 hus hul => ?_)
 have hci := Ps (id := id) hfree hus
 have no : ¬ y5 w id k q -> R (V.bool false) (F'.un (zn tk G s w v a0 a1 a2 p)) := fun hh => h false _ _ _ _ (by simp only [Bool.false_eq_true, false_iff]; exact hh) hS2
 refine AWp.loop (σ := Nat) ⟨fun i => [(1, .av (int id)), (7, .bx 7 0), (9, .bx 9 0), (32, .av (lst 10 ze us)), (33, .av (int (us.length : Nat))), (34, .av (int (i : Nat)))], fun _ => [(7, zk q), (9, vx k)],
  fun i st' => st' = F'.un (zn tk G s w v a0 a1 a2 p) /\ i <= us.length /\ ∀ j, (hj : j < us.length) -> j < i -> us[j].id ≠ id -> qo q (zm k) us[j].pos (zm us[j].kind) = true, fun i => us.length - i⟩ zb ?_ ?_
 ·refine ⟨0, Tv, ⟨rfl, Nat.zero_le _, fun j _ hj => by omega⟩, ⟨Tq, Tq, Tq, Tq, ?_, Tq, Tv⟩, ⟨rfl, rfl, Tv⟩⟩
  rw [<- zu (f := ze) us]; exact Tq
 rintro i st' ⟨rfl, hi, hall⟩
 refine bcd (fun h1 => ?_) (fun h1 => ?_)
 rotate_left
 ·refine ret (h true _ _ _ _ (by
   simp only [true_iff]
   refine hci.2 fun u hu hne => ?_
   obtain ⟨j, hj, rfl⟩ := List.getElem_of_mem hu
   exact hall j hj (by omega) hne) hS2)
 have hlt : i < us.length := by omega
 have hui := (hus us[i]).1 (List.getElem_mem hlt)
 have next : (us[i].id ≠ id -> qo q (zm k) us[i].pos (zm us[i].kind) = true) -> ∀ j, (hj : j < us.length) -> j < i + 1 -> us[j].id ≠ id -> qo q (zm k) us[j].pos (zm us[j].kind) = true := fun hh j hj hji => by
  by_cases e : j = i
  ·subst e; exact hh
  ·exact hall j hj (by omega)
 refine ⟨i, rfl, za _ (zj hlt) ?_⟩
 refine ADraw.of_sched zb (by rfl) (by rfl) Nb (by rfl) ?_
 refine qa (fun c2 => ?_) (fun c2 => ?_)
 ·refine ⟨qw us[i].kind _ _ ⟨(by repeat (first | exact Tv | refine ⟨rfl, ?_⟩ | refine ⟨optR (optR (optR (za _ (zd _ _ _) rfl))), ?_⟩)), ?_⟩, Tv⟩
  have hk2 := vy us[i].kind
  refine ⟨P9 q (zm k) us[i].pos (zm us[i].kind) hq (hn _ hui.1.1) ⟨hk.1, by omega⟩ ⟨hk2.1, by omega⟩ _ _ ⟨Tv, ?_⟩, Tv⟩
  refine z8 ?_
  refine zg (fun c3 => ?_) (fun c3 => ?_)
  ·refine zc (by omega) ?_
   refine ⟨i + 1, ?_, ⟨rfl, by omega, next fun _ => c3⟩, ⟨Tq, Tq, Tq, Tq, Tq, Tq, Tv⟩, ⟨rfl, rfl, Tv⟩⟩
   show us.length - (i + 1) < us.length - i
   omega
  ·refine ret (no fun hh => ?_)
   have := hci.1 hh us[i] (List.getElem_mem hlt) c2
   rw [this] at c3; cases c3
 ·refine ⟨⟨(by repeat (first | exact Tv | refine ⟨rfl, ?_⟩ | refine ⟨optR (optR (optR (za _ (zd _ _ _) rfl))), ?_⟩)), ?_⟩, Tv⟩
  refine ⟨⟨Tv, ?_⟩, Tv⟩
  refine zc (by omega) ?_
  refine ⟨i + 1, ?_, ⟨rfl, by omega, next fun hne => absurd c2 hne⟩, ⟨Tq, Tq, Tq, Tq, Tq, Tq, Tv⟩, ⟨rfl, rfl, Tv⟩⟩
  show us.length - (i + 1) < us.length - i
  omega
theorem zm0 {F G : Store} {s p : Nat} {w : Wld} {v : AV} {L : List Ent} {o0 o1 o2 : AV} (hS : StandT tk F G s p w v L o0 o1 o2) (hos : qv v s) (hr : yf w.U) (hU : w.U.length <= 1000000) (hL : L.length <= 1000000) (hok : ∀ e ∈ L, e.2.ok) {i : Nat} (hi : i < w.U.length) (u : Unt) (hid : w.U[i].id = u.id) (hp : u.pos.ok) (R : AV -> Store -> Prop)
  (h : ∀ F' G', StandT tk F' G' s p { w with U := w.U.set i u } v (ve L u) o0 o1 o2 -> (∀ q, qv v q -> G'.obj q = G.obj q) -> R (.tup []) (F'.un (zn tk G' s { w with U := w.U.set i u } v o0 o1 o2 p))) :
  ACalls Tryz.prog 95 [ptr s, .agg (ze u)] (F.un (zn tk G s w v o0 o1 o2 p)) R := by
 have hrow : RowsQ 10 ze (F.un (zn tk G s w v o0 o1 o2 p)) v w.U := (Sl hS.hs hS.hu).un
 have hs0 : (F.un (zn tk G s w v o0 o1 o2 p)).obj s = some (.cells (k6 tk w v o0 o1 o2 p)) := zf (vj tk _ _ _ _ _ _ _ _)
 rcases hS.hu with (⟨_, hl0⟩ | ⟨b, cap, J, rfl, ho, hc1, hc2, hc3⟩) | ⟨_, _, _, hl0⟩
 ·rw [hl0] at hi; exact absurd hi (Nat.not_lt_zero i)
 rotate_left
 ·rw [hl0] at hi; exact absurd hi (Nat.not_lt_zero i)
 have hbs : b ≠ s := hos b _ _ rfl (by omega)
 have hob : (F.un (zn tk G s w (.s (.slice (some ⟨b, 0, none⟩) w.U.length cap)) o0 o1 o2 p)).obj b = some (.cells ((rws ze w.U).flatten ++ J)) := zf (by
  show (G.setObj s _).obj b = _
  rw [zq hbs]; exact ho)
 refine ACalls.of_body (c := cfg 44) zb Tryz.func95 (by rfl) (by rfl) (by rfl) (by rfl) ?_
 refine ADraw.of_sched zb (by rfl) (by rfl) Vd (by rfl) ?_
 refine za (o := (F.un (zn tk G s w _ o0 o1 o2 p)).obj s) _ hs0 ?_
 refine ⟨Lq hrow (by omega) hr u.id _ (fun k hk z hz => ⟨(by repeat (first | exact Tv | refine ⟨rfl, ?_⟩ | refine ⟨optR (optR (optR (za _ (zd _ _ _) rfl))), ?_⟩)), ?_⟩), Tv⟩
 have hki : k = i := by
  by_cases h1 : k < i
  ·have := hk.2.2 k (by omega) (Nat.le_refl _)
   have := Hc hr h1 hi
   omega
  ·by_cases h2 : i < k
   ·have := hk.2.1 i hi h2; omega
   ·omega
 subst hki
 refine ⟨⟨Tv, ?_⟩, Tv⟩
 refine ⟨⟨Tv, ?_⟩, Tv⟩
 refine ADraw.of_sched zb (by rfl) (by rfl) Vb (by rfl) ?_
 refine za (o := (F.un (zn tk G s w _ o0 o1 o2 p)).obj s) _ hs0 ?_
 refine ⟨k, rfl, hi, ?_⟩
 refine ⟨?_, Tv⟩
 refine za _ rfl (xo rfl (xh (v := .agg (ze u)) rfl rfl rfl rfl ?_))
 refine kf (i := ti37) (v := .agg (ze u)) (xs := ze u) (b := b) (o := 0 + k * 10) (l := (rws ze w.U).flatten ++ J) rfl rfl rfl hob (by rw [List.length_append, k7 xb, xb]; omega) ?_
 have e0 : (F.un (zn tk G s w (.s (.slice (some ⟨b, 0, none⟩) w.U.length cap)) o0 o1 o2 p)).setObj b (.cells (zy ((rws ze w.U).flatten ++ J) (0 + k * 10) (ze u))) = F.un (zn tk (G.setObj b (.cells ((rws ze (w.U.set k u)).flatten ++ J))) s { w with U := w.U.set k u } (.s (.slice (some ⟨b, 0, none⟩) w.U.length cap)) o0 o1 o2 p) := by
  rw [Nat.zero_add, Vp xb hi u J, yx]
  unfold zn
  rw [Df hbs]
  rfl
 rw [e0]
 have hG : ∀ q, q ≠ b -> (G.setObj b (.cells ((rws ze (w.U.set k u)).flatten ++ J))).obj q = G.obj q := fun q hq => zq hq
 have hS' : StandT tk F (G.setObj b (.cells ((rws ze (w.U.set k u)).flatten ++ J))) s p { w with U := w.U.set k u } (.s (.slice (some ⟨b, 0, none⟩) w.U.length cap)) L o0 o1 o2 := by
  refine ⟨hS.ht.set (w' := { w with U := w.U.set k u }) (by omega) rfl rfl _, hS.hc, fun j h1 h2 => hS.hd j h1 (svSt_has.2 ?_), ?_, .inl (.inr ⟨b, cap, J, by rw [List.length_set], zd _ _ _, by rw [List.length_set]; exact hc1, by rw [List.length_set]; exact hc2, hc3⟩), hS.h0, hS.h1, hS.h2⟩
  ·rcases svSt_has.1 h2 with h2 | h2
   ·exact .inl h2
   ·rcases has_setObj_iff.1 h2 with rfl | h2
    ·exact .inr (ks ho)
    ·exact .inr h2
  ·rw [hG s (Ne.symm hbs)]; exact hS.hs
 have hoffG : ∀ q, qv (.s (.slice (some ⟨b, 0, none⟩) w.U.length cap)) q -> (G.setObj b (.cells ((rws ze (w.U.set k u)).flatten ++ J))).obj q = G.obj q := fun q hq => hG q (Ne.symm (hq b _ _ rfl (by omega)))
 generalize G.setObj b _ = G1 at hS' hoffG ⊢
 have hs1 : (F.un (zn tk G1 s { w with U := w.U.set k u } (.s (.slice (some ⟨b, 0, none⟩) w.U.length cap)) o0 o1 o2 p)).obj s = some (.cells (k6 tk w (.s (.slice (some ⟨b, 0, none⟩) w.U.length cap)) o0 o1 o2 p)) := zf (vj tk _ _ _ _ _ _ _ _)
 refine ⟨Tv, ?_⟩
 refine yp (fun c1 => ?_) (fun c1 => ?_)
 ·refine ADraw.of_sched zb (by rfl) (by rfl) Va (by rfl) ?_
  refine za (o := (F.un (zn tk G1 s _ _ o0 o1 o2 p)).obj s) _ hs1 ?_
  refine ⟨H3 hS'.hc hS'.hd (by omega) hok u.id u.pos hp _ (fun F2 h2 h3 => ⟨Tv, ?_⟩), Tv⟩
  have e9 : ve L u = yi L u.id ++ [(u.id, u.pos)] := if_pos c1
  exact ret (h F2 G1 ⟨hS'.ht, by rw [e9]; exact h2, h3, hS'.hs, hS'.hu, hS'.h0, hS'.h1, hS'.h2⟩ hoffG)
 ·refine ADraw.of_sched zb (by rfl) (by rfl) S9 (by rfl) ?_
  refine za (o := (F.un (zn tk G1 s _ _ o0 o1 o2 p)).obj s) _ hs1 ?_
  refine ⟨ep hS'.hc hS'.hd (by omega) hok u.id _ (fun F2 h2 h3 => ⟨Tv, ?_⟩), Tv⟩
  have e9 : ve L u = yi L u.id := if_neg c1
  exact ret (h F2 G1 ⟨hS'.ht, by rw [e9]; exact h2, h3, hS'.hs, hS'.hu, hS'.h0, hS'.h1, hS'.h2⟩ hoffG)
end
section
variable {tk : TK}
structure MoverT (tk : TK) (gv : AV) (F G : Store) (mb s p : Nat) (w : Wld) (v : AV) (L : List Ent) (o0 o1 o2 : AV) : Prop where
 S : StandT tk F G s p w v L o0 o1 o2
 hx : G.obj mb = some (.cells [ptr s, gv])
 ox : qv v mb
 os : qv v s
 hL : L.length <= w.U.length
 hF : j3 w L
theorem MoverT.ne {gv : AV} {F G : Store} {mb s p : Nat} {w : Wld} {v : AV} {L : List Ent} {o0 o1 o2 : AV} (h : MoverT tk gv F G mb s p w v L o0 o1 o2) : mb ≠ s := fun e => by
 have := h.S.hs
 rw [<- e, h.hx] at this
 cases this
theorem MoverT.m {gv : AV} {F F' G : Store} {mb s p : Nat} {w w' : Wld} {v : AV} {L : List Ent} {o0 o1 o2 q0 q1 q2 : AV} (h : MoverT tk gv F G mb s p w v L o0 o1 o2) : (F'.un (zn tk G s w' v q0 q1 q2 p)).obj mb = some (.cells [ptr s, gv]) :=
 zf (by
  show (G.setObj s _).obj mb = _
  rw [zq h.ne]
  exact h.hx)
theorem MoverT.s {gv : AV} {F F' G : Store} {mb s p : Nat} {w : Wld} {v : AV} {L : List Ent} {o0 o1 o2 q0 q1 q2 : AV} (h : MoverT tk gv F G mb s p w v L o0 o1 o2) : (F'.un (zn tk G s w v q0 q1 q2 p)).obj s = some (.cells (k6 tk w v q0 q1 q2 p)) := zf (vj tk _ _ _ _ _ _ _ _)
/-- After a unit is put. -/
theorem MoverT.put {gv : AV} {F G F' G' : Store} {mb s p i : Nat} {w : Wld} {v : AV} {L : List Ent} {o0 o1 o2 q0 q1 q2 : AV} (h : MoverT tk gv F G mb s p w v L o0 o1 o2) (hr : yf w.U) (hi : i < w.U.length) {u : Unt} (hid : w.U[i].id = u.id) (g1 : StandT tk F' G' s p { w with U := w.U.set i u } v (ve L u) q0 q1 q2)
  (g2 : ∀ q, qv v q -> G'.obj q = G.obj q) : MoverT tk gv F' G' mb s p (ya w u) v (ve L u) q0 q1 q2 := by
 rw [Az hr hi hid.symm]
 have hF3 := Wl h.hF hr hi (u := u) hid
 refine ⟨g1, by rw [g2 mb h.ox]; exact h.hx, h.ox, h.os, ?_, hF3⟩
 obtain ⟨_, _, _, _, _, _, _, _, inv⟩ := g1.hc
 exact Wm inv.n1 hF3
theorem zoj {gv : AV} {F G : Store} {mb s p : Nat} {w : Wld} {v : AV} {L : List Ent} {o0 o1 o2 : AV} (hW : MoverT tk gv F G mb s p w v L o0 o1 o2) (hm : MayF w) (hn : ∀ u ∈ w.U, u.pos.ok) {i : Nat} (hi : i < w.U.length) (u : Unt) (hid : w.U[i].id = u.id) (hp : u.pos.ok) (R : AV -> Store -> Prop)
  (h : ∀ F' G' L', MoverT tk gv F' G' mb s p (ya w u) v L' o0 o1 o2 -> R (.tup []) (F'.un (zn tk G' s (ya w u) v o0 o1 o2 p))) :
  ACalls Tryz.prog 95 [ptr s, .agg (ze u)] (F.un (zn tk G s w v o0 o1 o2 p)) R := by
 have hU := hm.hU
 refine zm0 hW.S hW.os hm.hr (by omega) (by have := hW.hL; omega) (Hk hW.hF hn) hi u hid hp R fun F' G' g1 g2 => ?_
 have e := Az (w := w) hm.hr hi hid.symm
 have := h F' G' _ (hW.put hm.hr hi hid g1 g2)
 rw [e] at this
 exact this
set_option maxHeartbeats 2000000 in
set_option maxRecDepth 20000 in
theorem lv {gv : AV} {F G : Store} {mb s p : Nat} {w : Wld} {v : AV} {L : List Ent} {o0 o1 o2 : AV} (hW : MoverT tk gv F G mb s p w v L o0 o1 o2) (hm : MayF w) (hn : ∀ u ∈ w.U, u.pos.ok) {i : Nat} (hi : i < w.U.length) (d : Vc) (hd : d.ok) (R : AV -> Store -> Prop)
  (h : ∀ F' G' L' q0 q1 q2, MoverT tk gv F' G' mb s p (yq w w.U[i] d) v L' q0 q1 q2 -> R (int (qt w w.U[i] d)) (F'.un (zn tk G' s (yq w w.U[i] d) v q0 q1 q2 p))) :
  ACalls Tryz.prog 52 [ptr mb, .agg (ze w.U[i]), .agg (zk d)] (F.un (zn tk G s w v o0 o1 o2 p)) R := by
 have hU := hm.hU
 have hB := hm.hB
 have hnd := Md hd
 have hpk := hn _ (List.getElem_mem hi)
 unfold yq qt at h
 have hhalf := fun k => Ow hnd k
 have hzero := fun n k => R4 (w := w) (u := w.U[i]) (v := ym d) (n := n) (k := k)
 have hnext := fun n k => R6 (w := w) (u := w.U[i]) (v := ym d) (n := n) (k := k)
 have hsome := fun n k => R5 (w := w) (u := w.U[i]) (v := ym d) (n := n) (k := k)
 have hhv : ∀ k, qz (ym d) k = ((ym d).1.tdiv ((2 ^ k : Nat) : Int), (ym d).2.tdiv ((2 ^ k : Nat) : Int)) := fun k => rfl
 refine ACalls.of_body (c := cfg 53) zb Tryz.func52 (by rfl) (by rfl) (by rfl) (by rfl) ?_
 refine Me d _ _ ?_
 generalize ym d = nd at *
 refine AWp.loop (σ := Nat × Store × AV × AV × AV) ⟨fun x => [(0, .av (ptr mb)), (4, .bx 4 0), (5, .bx 5 0), (12, .av (int (x.1 : Nat)))], fun _ => [(4, ze w.U[i]), (5, zk nd)],
  fun x st' => x.1 <= 5 /\ st' = x.2.1.un (zn tk G s w v x.2.2.1 x.2.2.2.1 x.2.2.2.2 p) /\ StandT tk x.2.1 G s p w v L x.2.2.1 x.2.2.2.1 x.2.2.2.2 /\ yy w w.U[i] nd 5 0 = yy w w.U[i] nd (5 - x.1) x.1, fun x => 5 - x.1⟩ zb ?_ ?_
 ·exact ⟨(0, F, o0, o1, o2), Tv, ⟨Nat.zero_le _, rfl, hW.S, rfl⟩, ⟨Tq, Tq, Tq, Tq, Tv⟩, ⟨rfl, rfl, Tv⟩⟩
 rintro ⟨k, F1, q0, q1, q2⟩ st' ⟨hk, rfl, hS1, hT⟩
 dsimp only at hk hS1 hT ⊢
 refine bcd (fun c1 => ?_) (fun c1 => ?_)
 rotate_left
 ·have : k = 5 := by omega
  subst this
  have hT : yy w w.U[i] nd 5 0 = none := hT
  rw [hT] at h
  exact ret (h F1 G L q0 q1 q2 ⟨hS1, hW.hx, hW.ox, hW.os, hW.hL, hW.hF⟩)
 have hk5 : k < 5 := by omega
 obtain ⟨n, hn5⟩ : ∃ n, 5 - k = n + 1 := ⟨4 - k, by omega⟩
 rw [hn5] at hT
 have hsh := M9 hk5
 have hkv := hhv k
 have hh := hhalf k
 have hp2 : ((2 ^ k : Nat) : Int) ≠ 0 := by have : 0 < 2 ^ k := Nat.pow_pos (by decide); omega
 rw [<- hsh] at hkv hp2
 have hh1 : z6 (nd.1.tdiv (IntKind.i64.wrap (1 * 2 ^ (min ((k : Int)).toNat IntKind.i64.bits)))) := by
  have := hh.1
  rw [hkv] at this
  exact ⟨by dsimp only at this; omega, by dsimp only at this; omega⟩
 have hh2 : z6 (nd.2.tdiv (IntKind.i64.wrap (1 * 2 ^ (min ((k : Int)).toNat IntKind.i64.bits)))) := by
  have := hh.2
  rw [hkv] at this
  exact ⟨by dsimp only at this; omega, by dsimp only at this; omega⟩
 have hz0 := hzero n k
 have hnx := hnext n k
 have hsm := hsome n k
 refine ADraw.of_sched zb (by rfl) (by rfl) Vf (by rfl) ?_
 refine ⟨by omega, ?_⟩
 refine ⟨hp2, zc hh1 ?_⟩
 refine ⟨by omega, ?_⟩
 refine ⟨hp2, zc hh2 ?_⟩
 refine ⟨⟨?_, ?_⟩, Tv⟩
 ·repeat (first | exact Tv | refine ⟨rfl, ?_⟩ | refine ⟨⟨by omega, rfl⟩, ?_⟩ | refine ⟨⟨hp2, zc hh1 rfl⟩, ?_⟩ | refine ⟨⟨hp2, zc hh2 rfl⟩, ?_⟩)
 refine ⟨⟨Tv, ?_⟩, Tv⟩
 rw [hkv] at hz0 hnx hsm hh
 generalize nd.1.tdiv (IntKind.i64.wrap (1 * 2 ^ (min ((k : Int)).toNat IntKind.i64.bits))) = a at *
 generalize nd.2.tdiv (IntKind.i64.wrap (1 * 2 ^ (min ((k : Int)).toNat IntKind.i64.bits))) = b at *
 refine zg (fun c2 => ?_) (fun c2 => ?_)
 ·have e : (a, b) = ((0 : Int), (0 : Int)) := by
   simp only [Bool.and_eq_true, beq_iff_eq] at c2
   exact Prod.ext c2.1 c2.2.1
  rw [hz0 e] at hT
  rw [hT] at h
  exact ret (h F1 G L q0 q1 q2 ⟨hS1, hW.hx, hW.ox, hW.os, hW.hL, hW.hF⟩)
 have hne : (a, b) ≠ ((0 : Int), (0 : Int)) := fun e => by
  cases e
  exact absurd c2 (by decide)
 refine Mi w.U[i].pos (a, b) hpk (Fs hh) _ _ ?_
 have hnp := Fs (N7 w.U[i].pos (a, b))
 have hnx := hnx hne
 have hsm := hsm hne
 generalize qi w.U[i].pos (a, b) = np at *
 refine ADraw.of_sched zb (by rfl) (by rfl) Ve (by rfl) ?_
 refine za (o := (F1.un (zn tk G s w v q0 q1 q2 p)).obj mb) _ hW.m ?_
 refine ⟨zib hS1 hm.hg (by omega) hm.hb hm.hr (by omega) hn hW.hL hW.hF w.U[i].id w.U[i].kind np hnp _ (fun z F2 a0 a1 a2 hz hS2 => ⟨Tv, ?_⟩), Tv⟩
 refine zg (fun c3 => ?_) (fun c3 => ?_)
 rotate_left
 ·rw [hnx (fun hh => by rw [hz.2 hh] at c3; cases c3)] at hT
  refine zc (by omega) ?_
  refine ⟨(k + 1, F2, a0, a1, a2), ?_, ⟨by dsimp only; omega, rfl, hS2, ?_⟩, ⟨Tq, Tq, Tq, Tq, Tv⟩, ⟨rfl, rfl, Tv⟩⟩
  ·show 5 - (k + 1) < 5 - k
   omega
  ·show yy w w.U[i] nd 5 0 = yy w w.U[i] nd (5 - (k + 1)) (k + 1)
   rw [hT]
   congr 1
   omega
 rw [hsm (hz.1 c3)] at hT
 rw [hT] at h
 have hW2 : MoverT tk gv F2 G mb s p w v L a0 a1 a2 := ⟨hS2, hW.hx, hW.ox, hW.os, hW.hL, hW.hF⟩
 refine ADraw.of_sched zb (by rfl) (by rfl) Vg (by rfl) ?_
 refine za (o := (F2.un (zn tk G s w v a0 a1 a2 p)).obj mb) _ hW.m ?_
 refine ⟨zoj hW2 hm hn hi { w.U[i] with pos := np } rfl hnp _ (fun F3 G3 L3 hW3 => ⟨Tv, ?_⟩), Tv⟩
 exact ret (h F3 G3 L3 a0 a1 a2 hW3)
end
def G5 : Bld := ⟨-9, 0, 0, 0, 0, 0⟩
def G4 : Unt := ⟨-9, 0, 0, (0, 0), 0, 0, 0, 0, 0⟩
def zBq : Bld := ⟨0, 0, 0, 0, 0, 0⟩
def zUq : Unt := ⟨0, 0, 0, (0, 0), 0, 0, 0, 0, 0⟩
theorem vd (st : Store) : st.Has Store.empty := ⟨fun b x h => (by cases h), fun b x h => (by cases h)⟩
theorem zh6 {S : Store} {v : AV} {l : List Bld} (hv : RowsQ 6 zp S v l) (hl : l.length <= 1000000) (R : AV -> Store -> Prop) (h : R (.tup []) Store.empty) : ACalls Tryz.prog 60 [v] S R := by
 refine ACalls.of_body (c := cfg 17) zb Tryz.func60 (by rfl) (by rfl) (by rfl) (by rfl) ?_
 refine AWp.loop (σ := Nat × List Bld × Store) ⟨fun s => [(0, .av v), (2, .av (int (s.1 : Nat)))], fun _ => [], fun s st' => st' = s.2.2 /\ RowsQ 6 zp s.2.2 v s.2.1 /\ s.2.1.length = l.length /\ s.1 <= l.length, fun s => l.length - s.1⟩ zb ?_ ?_
 ·exact ⟨(0, l, S), Tv, ⟨rfl, hv, rfl, Nat.zero_le _⟩, ⟨Tq, Tq, Tv⟩, Tv⟩
 rintro ⟨i, ms, S1⟩ st' ⟨rfl, hm, hml, hi⟩
 dsimp only at hm hml hi ⊢
 have hm0 := hm
 rcases hm with (⟨rfl, rfl⟩ | ⟨b, cap, L, rfl, ho, h1, h2, h3⟩) | ⟨a, ha, rfl, rfl⟩
 ·have hi0 : i = 0 := by simp at hml; omega
  subst hi0
  refine ⟨by decide, ?_⟩
  exact Bp (ie := ti164) rfl Bo (by decide) hm0 zBq rfl (by simp) (fun b cap L q1 q2 q3 q4 => qq (Tt) (vd _) h)
 ·refine bcd (fun c1 => ?_) (fun c1 => ?_)
  ·have hlt : i < ms.length := by omega
   refine ⟨i, rfl, hlt, ?_⟩
   refine kf (i := ti164) (v := .agg (zp G5)) (xs := zp G5) (b := b) (o := 0 + i * 6) (l := (rws zp ms).flatten ++ L) rfl rfl rfl ho (by rw [List.length_append, k7 Bo]; show 0 + i * 6 + 6 <= _; omega) ?_
   refine zc (by omega) ?_
   refine ⟨(i + 1, ms.set i G5, _), ?_, ⟨rfl, ?_, by dsimp only; rw [List.length_set]; exact hml, by dsimp only; omega⟩, ⟨Tq, Tq, Tv⟩, Tv⟩
   ·show l.length - (i + 1) < l.length - i
    omega
   ·have e := Fi (f := zp) (k := 6) (L := L) Bo hlt (j := 0) (ys := zp G5) (x' := G5) (by decide) rfl
    have e2 : 0 + i * 6 = i * 6 + 0 := by omega
    dsimp only
    rw [e2, e]
    exact .inl (.inr ⟨b, cap, L, by rw [List.length_set], zd _ _ _, by rw [List.length_set]; exact h1, by rw [List.length_set]; exact h2, h3⟩)
  ·refine ⟨by decide, ?_⟩
   exact Bp (ie := ti164) rfl Bo (by decide) hm0 zBq rfl (by omega) (fun b cap L q1 q2 q3 q4 => qq (Tt) (vd _) h)
 ·have hi0 : i = 0 := by simp at hml; omega
  subst hi0
  refine ⟨by decide, ?_⟩
  exact Bp (ie := ti164) rfl Bo (by decide) hm0 zBq rfl (by simp) (fun b cap L q1 q2 q3 q4 => qq (Tt) (vd _) h)
theorem zh4 {S : Store} {v : AV} {l : List Unt} (hv : RowsQ 10 ze S v l) (hl : l.length <= 1000000) (R : AV -> Store -> Prop) (h : R (.tup []) Store.empty) : ACalls Tryz.prog 61 [v] S R := by
 refine ACalls.of_body (c := cfg 17) zb Tryz.func61 (by rfl) (by rfl) (by rfl) (by rfl) ?_
 refine AWp.loop (σ := Nat × List Unt × Store) ⟨fun s => [(0, .av v), (2, .av (int (s.1 : Nat)))], fun _ => [], fun s st' => st' = s.2.2 /\ RowsQ 10 ze s.2.2 v s.2.1 /\ s.2.1.length = l.length /\ s.1 <= l.length, fun s => l.length - s.1⟩ zb ?_ ?_
 ·exact ⟨(0, l, S), Tv, ⟨rfl, hv, rfl, Nat.zero_le _⟩, ⟨Tq, Tq, Tv⟩, Tv⟩
 rintro ⟨i, ms, S1⟩ st' ⟨rfl, hm, hml, hi⟩
 dsimp only at hm hml hi ⊢
 have hm0 := hm
 rcases hm with (⟨rfl, rfl⟩ | ⟨b, cap, L, rfl, ho, h1, h2, h3⟩) | ⟨a, ha, rfl, rfl⟩
 ·have hi0 : i = 0 := by simp at hml; omega
  subst hi0
  refine ⟨by decide, ?_⟩
  exact Bp (ie := ti37) rfl xb (by decide) hm0 zUq rfl (by simp) (fun b cap L q1 q2 q3 q4 => qq (Tt) (vd _) h)
 ·refine bcd (fun c1 => ?_) (fun c1 => ?_)
  ·have hlt : i < ms.length := by omega
   refine ⟨i, rfl, hlt, ?_⟩
   refine kf (i := ti37) (v := .agg (ze G4)) (xs := ze G4) (b := b) (o := 0 + i * 10) (l := (rws ze ms).flatten ++ L) rfl rfl rfl ho (by rw [List.length_append, k7 xb]; show 0 + i * 10 + 10 <= _; omega) ?_
   refine zc (by omega) ?_
   refine ⟨(i + 1, ms.set i G4, _), ?_, ⟨rfl, ?_, by dsimp only; rw [List.length_set]; exact hml, by dsimp only; omega⟩, ⟨Tq, Tq, Tv⟩, Tv⟩
   ·show l.length - (i + 1) < l.length - i
    omega
   ·have e := Fi (f := ze) (k := 10) (L := L) xb hlt (j := 0) (ys := ze G4) (x' := G4) (by decide) rfl
    have e2 : 0 + i * 10 = i * 10 + 0 := by omega
    dsimp only
    rw [e2, e]
    exact .inl (.inr ⟨b, cap, L, by rw [List.length_set], zd _ _ _, by rw [List.length_set]; exact h1, by rw [List.length_set]; exact h2, h3⟩)
  ·refine ⟨by decide, ?_⟩
   exact Bp (ie := ti37) rfl xb (by decide) hm0 zUq rfl (by omega) (fun b cap L q1 q2 q3 q4 => qq (Tt) (vd _) h)
 ·have hi0 : i = 0 := by simp at hml; omega
  subst hi0
  refine ⟨by decide, ?_⟩
  exact Bp (ie := ti37) rfl xb (by decide) hm0 zUq rfl (by simp) (fun b cap L q1 q2 q3 q4 => qq (Tt) (vd _) h)
theorem zh5 {S : Store} {v : AV} {l : List UInt8} (hv : RowsQ 1 u8C S v l) (hl : l.length <= 1000000) (R : AV -> Store -> Prop) (h : R (.tup []) Store.empty) : ACalls Tryz.prog 59 [v] S R := by
 refine ACalls.of_body (c := cfg 20) zb Tryz.func59 (by rfl) (by rfl) (by rfl) (by rfl) ?_
 refine AWp.loop (σ := Nat × List UInt8 × Store) ⟨fun s => [(0, .av v), (2, .av (int (s.1 : Nat)))], fun _ => [], fun s st' => st' = s.2.2 /\ RowsQ 1 u8C s.2.2 v s.2.1 /\ s.2.1.length = l.length /\ s.1 <= l.length, fun s => l.length - s.1⟩ zb ?_ ?_
 ·exact ⟨(0, l, S), Tv, ⟨rfl, hv, rfl, Nat.zero_le _⟩, ⟨Tq, Tq, Tv⟩, Tv⟩
 rintro ⟨i, ms, S1⟩ st' ⟨rfl, hm, hml, hi⟩
 dsimp only at hm hml hi ⊢
 have hm0 := hm
 rcases hm with (⟨rfl, rfl⟩ | ⟨b, cap, L, rfl, ho, h1, h2, h3⟩) | ⟨a, ha, rfl, rfl⟩
 ·have hi0 : i = 0 := by simp at hml; omega
  subst hi0
  refine ⟨by decide, ?_⟩
  exact Bp (ie := ti5) rfl Av (by decide) hm0 5 rfl (by simp) (fun b cap L q1 q2 q3 q4 => qq (Tt) (vd _) h)
 ·refine bcd (fun c1 => ?_) (fun c1 => ?_)
  ·have hlt : i < ms.length := by omega
   refine ⟨i, rfl, hlt, ?_⟩
   have hhead : (((rws u8C ms).flatten ++ L).drop (0 + i * 1)).head? = some (.s (.int .u8 ms[i].toNat)) := by
    have hg := Co (k := 1) (rows := rws u8C ms) (fun row hr => by obtain ⟨c, _, rfl⟩ := List.mem_map.1 hr; rfl) (j := 0) (zj hlt) (x := .s (.int .u8 ms[i].toNat)) rfl
    have hlt2 := (List.getElem?_eq_some_iff.1 hg).1
    rw [List.head?_drop, show 0 + i * 1 = i * 1 + 0 by omega, List.getElem?_append_left hlt2]
    exact hg
   refine za _ ho (za _ hhead ?_)
   refine ⟨i, rfl, hlt, ?_⟩
   have hx : xq .xor .u8 ((ms[i].toNat : Nat) : Int) 85 = (((ms[i] ^^^ 85 : UInt8)).toNat : Int) := zt3 .xor ms[i] 85
   rw [hx]
   refine C9 (i := ti5) (v := u8 (ms[i] ^^^ 85)) (b := b) (o := 0 + i * 1) (l := (rws u8C ms).flatten ++ L) rfl rfl rfl ho (by rw [List.length_append, k7 Av]; omega) ?_
   refine zc (by omega) ?_
   refine ⟨(i + 1, ms.set i (ms[i] ^^^ 85), _), ?_, ⟨rfl, ?_, by dsimp only; rw [List.length_set]; exact hml, by dsimp only; omega⟩, ⟨Tq, Tq, Tv⟩, Tv⟩
   ·show l.length - (i + 1) < l.length - i
    omega
   ·have e := Fi (f := u8C) (k := 1) (L := L) Av hlt (j := 0) (ys := [u8 (ms[i] ^^^ 85)]) (x' := ms[i] ^^^ 85) (by simp) rfl
    have e2 : 0 + i * 1 = i * 1 + 0 := by omega
    dsimp only
    rw [e2, e]
    exact .inl (.inr ⟨b, cap, L, by rw [List.length_set], zd _ _ _, by rw [List.length_set]; exact h1, by rw [List.length_set]; exact h2, h3⟩)
  ·refine ⟨by decide, ?_⟩
   exact Bp (ie := ti5) rfl Av (by decide) hm0 5 rfl (by omega) (fun b cap L q1 q2 q3 q4 => qq (Tt) (vd _) h)
 ·have hi0 : i = 0 := by simp at hml; omega
  subst hi0
  refine ⟨by decide, ?_⟩
  exact Bp (ie := ti5) rfl Av (by decide) hm0 5 rfl (by simp) (fun b cap L q1 q2 q3 q4 => qq (Tt) (vd _) h)
theorem zh3 {S NT NB NU : Store} {w : Wld} {vT vB vU : AV} (ho : OwnQ S w vT vB vU NT NB NU) (hT : w.G.T.length <= 1000000) (hB : w.B.length <= 1000000) (hU : w.U.length <= 1000000) (R : AV -> Store -> Prop) (h : R (.tup []) Store.empty) : ACalls Tryz.prog 22 [.agg (At w vT vB vU)] S R := by
 have e : S = NT.un (NB.un NU) := by
  rw [ho.e, un_comm ho.dU, un_comm ho.dB, ll]
 have d1 : zi NT (NB.un NU) := fun i h1 h2 => by
  rcases un_has.1 h2 with h2 | h2
  ·exact ho.dB i h2 h1
  ·exact ho.dU i h2 (un_has.2 (.inr h1))
 have d2 : zi NB NU := fun i h1 h2 => ho.dU i h2 (un_has.2 (.inl h1))
 rw [e]
 refine ACalls.of_body (c := cfg 12) zb Tryz.func22 (by rfl) (by rfl) (by rfl) (by rfl) ?_
 refine ACalls.frame (R := fun r S => r = .tup [] /\ S = Store.empty) d1 (zh5 ho.rT hT _ ⟨rfl, rfl⟩) ?_
 rintro r S1 ⟨rfl, rfl⟩ _
 rw [kj]
 refine ACalls.frame (R := fun r S => r = .tup [] /\ S = Store.empty) d2 (zh6 ho.rB hB _ ⟨rfl, rfl⟩) ?_
 rintro r S1 ⟨rfl, rfl⟩ _
 rw [kj]
 refine zh4 ho.rU hU _ ?_
 exact ret h
theorem Vq {α : Type} {k : Nat} {f : α -> List AV} {S : Store} {v : AV} {l : List α} (h : RowsQ k f S v l) {b n c : Nat} (e : v = .s (.slice (some ⟨b, 0, none⟩) n c)) (hc : 0 < c) : S.obj b ≠ none := by
 rcases h with (⟨rfl, _⟩ | ⟨b2, cap, L, rfl, ho, _⟩) | ⟨a, _, rfl, _⟩
 ·cases e
 ·cases e
  rw [ho]; simp
 ·cases e
  exact absurd hc (by decide)
theorem zng {S NT NB NU : Store} {w : Wld} {vT vB vU : AV} (h : OwnQ S w vT vB vU NT NB NU) : TKin (vT, vB) S w vU /\ RowsQ 10 ze S vU w.U := by
 obtain ⟨rT, rB, rU⟩ := Nw h
 refine ⟨⟨rT, rB, fun b n c e hc => ?_, fun b n c e hc => ?_⟩, rU⟩
 ·have h1 := h.dU b (.inl (Vq h.rU e hc))
  exact ⟨Bc h.rT (ki fun hh => h1 (un_has.2 (.inr hh))).1, Bc h.rB (ki fun hh => h1 (un_has.2 (.inl hh))).1⟩
 ·have h1 : NT.has b := .inl (Vq h.rT e hc)
  exact Bc h.rB (ki fun hh => h.dB b hh h1).1
theorem TKin.fresh2 {tk : TK} {G : Store} {w : Wld} {v : AV} (h : TKin tk G w v) {s : Nat} (hs : G.obj s = none) (x : AObj) : TKin tk (G.setObj s x) w v :=
 ⟨(h.fresh hs x).1, (h.fresh hs x).2, h.off, h.two⟩
set_option maxHeartbeats 2000000 in
set_option maxRecDepth 20000 in
theorem fh (w : Wld) (hw : w.fits) (hn : ∀ u ∈ w.U, u.pos.ok) (hT : w.G.T.length <= 1000000) (hB : w.B.length <= 1000000) (hU : w.U.length <= 1000000) (id : Int) (R : AV -> Store -> Prop)
  (hbad : ∀ S, y7 w id ≠ 0 -> R (.tup [.s (.pointer none), .agg unt0, int (y7 w id)]) S)
  (hok : ∀ i, (hi : i < w.U.length) -> yg w -> w.U[i].id = id -> w.U[i].inn = 0 -> ∀ F G mb s p vT vB v L o0 o1 o2, MoverT (vT, vB) jr F G mb s p w v L o0 o1 o2 -> R (.tup [ptr mb, .agg (ze w.U[i]), int 0]) (F.un (zn (vT, vB) G s w v o0 o1 o2 p))) :
  ACalls Tryz.prog 51 [.agg (zr w), int id] Store.empty R := by
 refine ACalls.of_body (c := cfg 47 [20] []) zb Tryz.func51 (by rfl) (by rfl) (by rfl) (by rfl) ?_
 refine W0 w hw hn _ _ (fun z hz => ?_)
 refine z8 ?_
 refine zg (fun c1 => ?_) (fun c1 => ?_)
 rotate_left
 ·have hnm : ¬ yg w := fun hh => by rw [hz.2 hh] at c1; cases c1
  have e := H7 (id := id) hnm
  have := hbad Store.empty (by rw [e]; decide)
  rw [e] at this
  exact ret this
 have hm := hz.1 c1
 have hr : yf w.U := hm.1.2.1
 refine Wf w (by omega) (by omega) (by omega) _ (fun N vT vB v NT NB NU ho => ?_)
 obtain ⟨hin, hu⟩ := zng ho
 refine zns (tk := (vT, vB)) w v N hin hu hU hn _ (fun F s p L o0 o1 o2 hs hS hLl hmem => ?_)
 refine fy rfl (it := ti177) rfl rfl ?_
 intro mb hmb
 have hnF : ¬ F.has mb /\ ¬ (zn (vT, vB) N s w v o0 o1 o2 p).has mb := by
  have := fresh_iff.1 hmb
  exact ⟨fun hh => this (un_has.2 (.inl hh)), fun hh => this (un_has.2 (.inr hh))⟩
 have hms : mb ≠ s := fun e => hnF.2 (svSt_has.2 (.inl e))
 have hmN : ¬ N.has mb := fun hh => hnF.2 (svSt_has.2 (.inr hh))
 have hmN0 : N.obj mb = none := (ki hmN).1
 have omb : qv v mb := Bc hu hmN0
 have oms : qv v s := Bc hu hS.hs
 have e0 : (F.un (zn (vT, vB) N s w v o0 o1 o2 p)).setObj mb (.cells [ptr s, jr]) = F.un (zn (vT, vB) (N.setObj mb (.cells [ptr s, jr])) s w v o0 o1 o2 p) := by
  rw [yx]
  unfold zn
  rw [Df hms]
 have hW : MoverT (vT, vB) jr F (N.setObj mb (.cells [ptr s, jr])) mb s p w v L o0 o1 o2 :=
  ⟨⟨hin.fresh2 hmN0 _, hS.hc, fun i h1 h2 => by
    rcases svSt_has.1 h2 with h2 | h2
    ·exact hS.hd i h1 (svSt_has.2 (.inl h2))
    ·rcases has_setObj_iff.1 h2 with h2 | h2
     ·subst h2; exact hnF.1 h1
     ·exact hS.hd i h1 (svSt_has.2 (.inr h2)), by rw [zq (Ne.symm hms)]; exact hS.hs, hu.set omb _, hS.h0, hS.h1, hS.h2⟩, zd _ _ _, omb, oms, hLl, hmem hr⟩
 have e1 : (F.un (zn (vT, vB) N s w v o0 o1 o2 p)).setObj mb (AObj.cells [AV.s (Value.pointer (some { block := s, off := 0 })), AV.s (Value.iface 177 (Value.agg #[]))]) = F.un (zn (vT, vB) (N.setObj mb (.cells [ptr s, jr])) s w v o0 o1 o2 p) := e0
 refine H6 w.U (by omega) hr id _ _ (fun i hi z hz2 => ?_)
 rw [e1]
 refine z8 ?_
 refine zg (fun c2 => ?_) (fun c2 => ?_)
 rotate_left
 ·have e := P0 (id := id) hm (fun u hu' e => by
   obtain ⟨j, hj, rfl⟩ := List.getElem_of_mem hu'
   have hij : i = j := by
    by_cases h1 : j < i
    ·have := hi.2.1 j hj h1; omega
    ·by_cases h2 : i < j
     ·have h3 := hi.2.2 i (by omega) (Nat.le_refl _)
      have := vm hr h2 hj
      omega
     ·omega
   subst hij
   rw [hz2.2 ⟨hj, e⟩] at c2
   cases c2)
  have := hbad (F.un (zn (vT, vB) (N.setObj mb (.cells [ptr s, jr])) s w v o0 o1 o2 p)) (by rw [e]; decide)
  rw [e] at this
  exact ret this
 obtain ⟨hil, hid⟩ := hz2.1 c2
 have e := D4 hm hil
 rw [hid] at e
 refine ⟨i, rfl, za _ (zj hil) ?_⟩
 refine qa (fun c3 => ?_) (fun c3 => ?_)
 ·rw [if_neg c3] at e
  have := hbad (F.un (zn (vT, vB) (N.setObj mb (.cells [ptr s, jr])) s w v o0 o1 o2 p)) (by rw [e]; decide)
  rw [e] at this
  exact ret this
 refine ADraw.of_sched zb (by rfl) (by rfl) Vh (by rfl) ?_
 refine ⟨i, rfl, za _ (zj hil) ?_⟩
 refine ⟨⟨(by repeat (first | exact Tv | refine ⟨rfl, ?_⟩ | refine ⟨⟨i, rfl, za _ (zj hil) rfl⟩, ?_⟩)), ⟨⟨Tv, ⟨⟨Tv, ?_⟩, Tv⟩⟩, Tv⟩⟩, Tv⟩
 exact ret (hok i hil hm hid c3 F (N.setObj mb (.cells [ptr s, jr])) mb s p vT vB v L o0 o1 o2 hW)
/-- The block alone. -/
theorem Nk {α : Type} {k : Nat} {f : α -> List AV} {S : Store} {v : AV} {l : List α} (h : RowsQ k f S v l) : ∃ N, RowsQ k f N v l /\ S.Has N /\ ∀ b, N.has b -> ∃ n c, v = .s (.slice (some ⟨b, 0, none⟩) n c) /\ 0 < c := by
 have h0 : ∀ b, ¬ Store.empty.has b := fun b hb => hb.elim (fun h => h rfl) (fun h => h rfl)
 rcases h with (⟨rfl, rfl⟩ | ⟨b, cap, L, rfl, ho, hc, h2⟩) | ⟨a, ha, rfl, rfl⟩
 ·exact ⟨Store.empty, .inl (.inl ⟨rfl, rfl⟩), vd _, fun b hb => absurd hb (h0 b)⟩
 ·by_cases h1 : 0 < cap
  ·refine ⟨Store.empty.setObj b (.cells ((rws f l).flatten ++ L)), .inl (.inr ⟨b, cap, L, rfl, zd _ _ _, hc, h2⟩), ⟨fun q x hx => ?_, fun q x hx => by cases hx⟩, fun q hq => ?_⟩
   ·by_cases e : q = b
    ·subst e
     rw [zd] at hx
     rw [ho, hx]
    ·rw [zq e] at hx
     cases hx
   ·rcases has_setObj_iff.1 hq with rfl | hq
    ·exact ⟨_, _, rfl, h1⟩
    ·exact absurd hq (h0 q)
  ·have hc0 : cap = 0 := by omega
   subst hc0
   have hl : l = [] := List.eq_nil_of_length_eq_zero (by omega)
   subst hl
   exact ⟨Store.empty, .inr ⟨_, fun x hx => by cases hx; rfl, rfl, rfl⟩, vd _, fun b hb => absurd hb (h0 b)⟩
 ·exact ⟨Store.empty, .inr ⟨a, ha, rfl, rfl⟩, vd _, fun b hb => absurd hb (h0 b)⟩
theorem l6 {tk : TK} {S : Store} {w : Wld} {v : AV} (h : TKin tk S w v) (hu : RowsQ 10 ze S v w.U) : ∃ S2 NT NB NU, OwnQ S2 w tk.1 tk.2 v NT NB NU /\ S.Has S2 := by
 obtain ⟨NT, rT, sT, bT⟩ := Nk h.t
 obtain ⟨NB, rB, sB, bB⟩ := Nk h.b
 obtain ⟨NU, rU, sU, bU⟩ := Nk hu
 have dB : zi NB NT := fun b h1 h2 => by
  obtain ⟨n, c, e, hc⟩ := bB b h1
  obtain ⟨n2, c2, e2, hc2⟩ := bT b h2
  exact h.two b n2 c2 e2 hc2 b n c e hc rfl
 have dU : zi NU (NB.un NT) := fun b h1 h2 => by
  obtain ⟨n, c, e, hc⟩ := bU b h1
  obtain ⟨o1, o2⟩ := h.off b n c e hc
  rcases un_has.1 h2 with h2 | h2
  ·obtain ⟨n2, c2, e2, hc2⟩ := bB b h2
   exact o2 b n2 c2 e2 hc2 rfl
  ·obtain ⟨n2, c2, e2, hc2⟩ := bT b h2
   exact o1 b n2 c2 e2 hc2 rfl
 have hun : ∀ {a b : Store}, S.Has a -> S.Has b -> S.Has (a.un b) := fun {a b} ha hb => ⟨fun q x hx => by
  cases hg : b.obj q with
  | some y => rw [zf hg] at hx; exact hb.obj q x (hg.trans hx)
  | none => exact ha.obj q x (by simpa [Store.un, hg] using hx), fun q x hx => by
  rcases Il hx with h1 | ⟨_, h1⟩
  ·exact hb.tok q x h1
  ·exact ha.tok q x h1⟩
 exact ⟨NU.un (NB.un NT), NT, NB, NU, ⟨rfl, rT, rB, rU, dB, dU⟩, hun sU (hun sB sT)⟩
set_option maxHeartbeats 2000000 in
/-- move.Try; its result lies in memory of its own. -/
theorem zoh (w : Wld) (hm : yg w) (hn : ∀ u ∈ w.U, u.pos.ok) {i : Nat} (hi : i < w.U.length) (h0 : w.U[i].inn = 0) (d : Vc) (hd : d.ok) (R : AV -> Store -> Prop)
  (hok : ∀ S vT vB v NT NB NU, OwnQ S (yq w w.U[i] d) vT vB v NT NB NU -> R (.tup [.agg (At (yq w w.U[i] d) vT vB v), int (qt w w.U[i] d), int 0]) S) :
  ACalls Tryz.prog 18 [.agg (zr w), int w.U[i].id, .agg (zk d)] Store.empty R := by
 have f := vt hm
 have hB := f.hB
 have hU := f.hU
 have hT := f.hT
 have ea := D4 hm hi
 rw [if_pos h0] at ea
 have huniq : ∀ (j : Nat) (hj : j < w.U.length), w.U[j].id = w.U[i].id -> j = i := fun j hj hd => by
  rcases Nat.lt_trichotomy j i with g | g | g
  ·have := vm hm.1.2.1 g hi
   omega
  ·exact g
  ·have := vm hm.1.2.1 g hj
   omega
 refine ACalls.of_body (c := cfg 34) zb Tryz.func18 (by rfl) (by rfl) (by rfl) (by rfl) ?_
 refine fh w f.fits hn (by omega) (by omega) (by omega) w.U[i].id _ (fun S he => absurd ea he) (fun j hj _ hid _ F G mb s p vT vB v L o0 o1 o2 hW => ?_)
 have hji := huniq j hj hid
 subst hji
 refine lv hW f hn hi d hd _ (fun F' G' L' q0 q1 q2 hW2 => ?_)
 generalize yq w w.U[j] d = w2 at *
 generalize qt w w.U[j] d = n at *
 obtain ⟨oa, cap, ev, _⟩ := hW2.S.hu.form
 subst ev
 obtain ⟨oT, cT, eT, _⟩ := hW2.S.ht.t.form
 obtain ⟨oB, cB, eB, _⟩ := hW2.S.ht.b.form
 dsimp only at eT eB
 subst eT eB
 refine za (o := (F'.un (zn _ G' s w2 _ q0 q1 q2 p)).obj mb) _ hW2.m ?_
 refine za (o := (F'.un (zn _ G' s w2 _ q0 q1 q2 p)).obj s) _ hW2.s ?_
 obtain ⟨S2, NT, NB, NU, ho, hS⟩ := l6 hW2.S.ht hW2.S.hu
 refine qq (Tt) ?_ (hok S2 _ _ _ NT NB NU ho)
 refine Store.Has.trans (b := G') ⟨fun q x hx => zf ?_, fun q x hx => wy hx⟩ hS
 have hq : q ≠ s := fun e => by rw [e, hW2.S.hs] at hx; cases hx
 exact (zq hq).trans hx
end Go.Proofs
namespace Go.Proofs
open Go Go.V
end Go.Proofs
namespace Go.Proofs
open Go Go.V
set_option maxRecDepth 4000
end Go.Proofs
namespace Go.Proofs
open Go Go.V
set_option maxRecDepth 4000
end Go.Proofs
namespace Go.Proofs
open Go Go.V
set_option maxRecDepth 4000
def wkC (s : Nat) (c : Cmd) (fv : AV) : List AV := ptr s :: (zs8 c ++ [fv])
/-- A command's place of work, when it is begun. -/
structure Work (F G : Store) (xw s p : Nat) (w : Wld) (v : AV) (L : List Ent) (o0 o1 o2 : AV) (c : Cmd) (fv : AV) : Prop where
 S : StandR F G s p w v L o0 o1 o2
 hx : G.obj xw = some (.cells (wkC s c fv))
 ox : qv v xw
 os : qv v s
 hL : L.length <= w.U.length
 hF : j3 w L
theorem Work.ne {F G : Store} {xw s p : Nat} {w : Wld} {v : AV} {L : List Ent} {o0 o1 o2 : AV} {c : Cmd} {fv : AV} (h : Work F G xw s p w v L o0 o1 o2 c fv) : xw ≠ s := fun e => by
 have h1 := h.hx
 rw [e, h.S.hs] at h1
 cases h1
theorem Work.x {F F' G : Store} {xw s p : Nat} {w : Wld} {v : AV} {L : List Ent} {o0 o1 o2 q0 q1 q2 : AV} {c : Cmd} {fv : AV} (h : Work F G xw s p w v L o0 o1 o2 c fv) : (F'.un (svS G s w v q0 q1 q2 p)).obj xw = some (.cells (wkC s c fv)) := zf (by
 show (G.setObj s _).obj xw = _
 rw [zq h.ne]
 exact h.hx)
theorem Work.s {F F' G : Store} {xw s p : Nat} {w : Wld} {v : AV} {L : List Ent} {o0 o1 o2 q0 q1 q2 : AV} {c : Cmd} {fv : AV} (h : Work F G xw s p w v L o0 o1 o2 c fv) : (F'.un (svS G s w v q0 q1 q2 p)).obj s = some (.cells (svC w v q0 q1 q2 p)) := zf (k5 _ _ _ _ _ _ _ _)
theorem Work.r {F F' G : Store} {xw s p : Nat} {w : Wld} {v : AV} {L : List Ent} {o0 o1 o2 q0 q1 q2 : AV} {c : Cmd} {fv : AV} (h : Work F G xw s p w v L o0 o1 o2 c fv) : RowsQ 10 ze (F'.un (svS G s w v q0 q1 q2 p)) v w.U := (Iv h.S.hs h.S.hu).un
end Go.Proofs
namespace Go.Proofs
open Go Go.V
set_option maxRecDepth 4000
end Go.Proofs
namespace Go.Proofs
open Go Go.V
set_option maxRecDepth 4000
theorem dc {N NT NB NU st : Store} {w : Wld} {vT vB vU : AV} (ho : OwnQ N w vT vB vU NT NB NU) (hd : zi N st) (hw : w.fits) (R : AV -> Store -> Prop) (h : R (V.bool true) (N.un st)) : ACalls Tryz.prog 20 [.agg (At w vT vB vU), .agg (zr w)] (N.un st) R :=
 ACalls.frame hd (ACalls.read (R := fun r S => r = V.bool true /\ S = N) (ys := [.agg (zr w), .agg (zr w)]) (Q := fun r => r = V.bool true) (fun Oth M W vs sto hr => by
  obtain ⟨x, y, rfl, h1, h2⟩ := Fo hr
  exact Reads.cons (znh ho sto h1) (Reads.cons (qr h2) Reads.nil)) (Dv w hw _ _ rfl) (fun r hr => by subst hr; exact Du _) (fun r hr => ⟨hr, rfl⟩)) fun r S ⟨e, e2⟩ _ => by subst e e2; exact h
theorem Ix {N NT NB NU st : Store} {w : Wld} {vT vB vU : AV} (ho : OwnQ N w vT vB vU NT NB NU) (hd : zi N st) (hT : w.G.T.length <= 1000000) (hB : w.B.length <= 1000000) (hU : w.U.length <= 1000000) (R : AV -> Store -> Prop) (h : R (.tup []) st) : ACalls Tryz.prog 22 [.agg (At w vT vB vU)] (N.un st) R :=
 ACalls.frame hd (zh3 ho hT hB hU (fun r S => r = .tup [] /\ S = Store.empty) ⟨rfl, rfl⟩) fun r S ⟨e, e2⟩ _ => by subst e e2; rw [kj]; exact h
set_option maxHeartbeats 4000000 in
set_option maxRecDepth 20000 in
theorem zk7 {S : Store} {w : Wld} (hw : playW w) {i : Nat} (hi : i < w.U.length) (h0 : w.U[i].inn = 0) (d : Vc) (hd : d.ok) (R : AV -> Store -> Prop)
  (hl : R (.tup [.agg (zr (yq w w.U[i] d)), int (qt w w.U[i] d)]) S)
  (h : ∀ v2 N, RowsQ 10 ze (N.un S) v2 (yq w w.U[i] d).U -> zi N S -> R (.tup [.agg (xf (yq w w.U[i] d) v2), int (qt w w.U[i] d)]) (N.un S)) :
  ACalls Tryz.prog 21 [.agg (zr w), int w.U[i].id, .agg (zk d)] S R := by
 have f := vt hw.1
 have hU := f.hU
 have hnd := Md hd
 have hhalf := fun k => Ow hnd k
 have t0 : Cz w w.U[i] (ym d) 0 := rfl
 have hnone := fun (e : yy w w.U[i] (ym d) 5 0 = none) => R8 e
 have hsome := fun k p (e : yy w w.U[i] (ym d) 5 0 = some (k, p)) => R7 e
 have hkk := f.hk _ (List.getElem_mem hi)
 have hpk := hw.2 _ (List.getElem_mem hi)
 have hsame : yy w w.U[i] (ym d) 5 0 = none -> R (.tup [.agg (zr w), int 5]) S := fun e => by
  obtain ⟨e1, e2⟩ := hnone e
  rw [e1, e2] at hl
  exact hl
 refine ACalls.of_body (c := cfg 74) zb Tryz.func21 (by rfl) (by rfl) (by rfl) (by rfl) ?_
 refine zl6 w hw hi w.U[i].id rfl _ _ ?_
 refine ⟨i, rfl, za _ (zj hi) ?_⟩
 refine ADraw.of_sched zb (by rfl) (by rfl) zj4 (by rfl) ?_
 refine ⟨Bz d.1 _ _ ⟨(by repeat (first | exact Tv | refine ⟨rfl, ?_⟩ | refine ⟨optR (optR (optR (za _ (zd _ _ _) rfl))), ?_⟩)), ?_⟩, Tv⟩
 refine ⟨Bz d.2 _ _ ⟨(by repeat (first | exact Tv | refine ⟨rfl, ?_⟩ | refine ⟨optR (optR (optR (za _ (zd _ _ _) rfl))), ?_⟩)), ?_⟩, Tv⟩
 refine ⟨⟨Tv, ?_⟩, Tv⟩
 have hT := hw.1.1.2.1
 have hR : ∀ k p, yy w w.U[i] (ym d) 5 0 = some (k, p) -> ∀ v2 N, RowsQ 10 ze (N.un S) v2 (w.U.set i { w.U[i] with pos := p }) -> zi N S -> R (.tup [.agg (xf w v2), int (k : Int)]) (N.un S) := fun k p e v2 N h1 h2 => by
  obtain ⟨e1, e2⟩ := hsome k p e
  have e3 := Az (w := w) hT hi (u := { w.U[i] with pos := p }) rfl
  rw [e3] at e2
  have := h v2 N (by rw [e2]; exact h1) h2
  rw [e1, e2] at this
  exact this
 clear h hl hsome hnone
 have hhv : ∀ k, qz (ym d) k = ((ym d).1.tdiv ((2 ^ k : Nat) : Int), (ym d).2.tdiv ((2 ^ k : Nat) : Int)) := fun k => rfl
 refine AWp.loop (σ := Nat) ⟨fun k => [(1, .av (int w.U[i].id)), (3, .bx 3 0), (5, .bx 5 0), (6, .bx 6 0), (8, .av (int (i : Nat))), (9, .bx 9 0), (10, .av (int (k : Nat)))], fun _ => [(3, zr w), (5, zk (ym d)), (6, Gr), (9, ze w.U[i])],
  fun k st' => k <= 5 /\ Cz w w.U[i] (ym d) k /\ st' = S, fun k => 5 - k⟩ zb ?_ ?_
 ·exact ⟨0, Tv, ⟨Nat.zero_le _, t0, rfl⟩, ⟨Tq, Tq, Tq, Tq, Tq, Tq, Tq, Tv⟩, ⟨rfl, rfl, rfl, rfl, Tv⟩⟩
 rintro k st' ⟨hk, htk, rfl⟩
 dsimp only at hk htk ⊢
 generalize ym d = nd at *
 refine bcd (fun c1 => ?_) (fun c1 => ?_)
 rotate_left
 ·exact ret (hsame (R9 htk (fun hq => absurd hq (by omega)) hk))
 have hk5 : k < 5 := by omega
 have hsh := M9 hk5
 have hkv := hhv k
 have hh := hhalf k
 have hp2 : ((2 ^ k : Nat) : Int) ≠ 0 := by have : 0 < 2 ^ k := Nat.pow_pos (by decide); omega
 rw [<- hsh] at hkv hp2
 have hh1 : z6 (nd.1.tdiv (IntKind.i64.wrap (1 * 2 ^ (min ((k : Int)).toNat IntKind.i64.bits)))) := by
  have := hh.1
  rw [hkv] at this
  exact ⟨by dsimp only at this; omega, by dsimp only at this; omega⟩
 have hh2 : z6 (nd.2.tdiv (IntKind.i64.wrap (1 * 2 ^ (min ((k : Int)).toNat IntKind.i64.bits)))) := by
  have := hh.2
  rw [hkv] at this
  exact ⟨by dsimp only at this; omega, by dsimp only at this; omega⟩
 have nx := ly htk hk5
 have sm := lx htk hk5
 have no := R9 htk
 refine ADraw.of_sched zb (by rfl) (by rfl) zj3 (by rfl) ?_
 refine ⟨by omega, ?_⟩
 refine ⟨hp2, zc hh1 ?_⟩
 refine ⟨by omega, ?_⟩
 refine ⟨hp2, zc hh2 ?_⟩
 refine ⟨⟨?_, ?_⟩, Tv⟩
 ·repeat (first | exact Tv | refine ⟨rfl, ?_⟩ | refine ⟨⟨by omega, rfl⟩, ?_⟩ | refine ⟨⟨hp2, zc hh1 rfl⟩, ?_⟩ | refine ⟨⟨hp2, zc hh2 rfl⟩, ?_⟩)
 refine ⟨⟨Tv, ?_⟩, Tv⟩
 rw [hkv] at nx sm no hh
 generalize nd.1.tdiv (IntKind.i64.wrap (1 * 2 ^ (min ((k : Int)).toNat IntKind.i64.bits))) = x at *
 generalize nd.2.tdiv (IntKind.i64.wrap (1 * 2 ^ (min ((k : Int)).toNat IntKind.i64.bits))) = y at *
 refine yp (fun c2 => ?_) (fun c2 => ?_)
 refine yp (fun c3 => ?_) (fun c3 => ?_)
 ·exact ret (hsame (no (fun _ => by rw [c2, c3]) hk))
 have hne : (x, y) ≠ ((0 : Int), (0 : Int)) := fun e => c3 (congrArg (fun v : Vc => v.2) e)
 rotate_left
 have hne : (x, y) ≠ ((0 : Int), (0 : Int)) := fun e => c2 (congrArg (fun v : Vc => v.1) e)
 all_goals
  refine zk0 w.U[i].pos (x, y) hpk (Fs hh) _ _ ?_
  have nx := nx hne
  have sm := sm hne
  have hnp := Rw w.U[i].pos (x, y)
  generalize qi w.U[i].pos (x, y) = np at *
  refine zld w hw w.U[i].id w.U[i].kind hkk np hnp _ _ (fun z hz => ?_)
  refine zg (fun c4 => ?_) (fun c4 => ?_)
  rotate_left
  ·refine zc (by omega) ?_
   exact ⟨k + 1, (show 5 - (k + 1) < 5 - k by omega), ⟨by omega, nx (fun hc => by rw [hz.2 hc] at c4; cases c4), rfl⟩, ⟨Tq, Tq, Tq, Tq, Tq, Tq, Tq, Tv⟩, ⟨rfl, rfl, rfl, rfl, Tv⟩⟩
  have hRk := hR _ _ (sm (hz.1 c4))
  refine zs1 w (vt hw.1).fits (by omega) _ _ (fun v2 N hv2 hd2 => ?_)
  rcases hv2 with ⟨_, e⟩ | ⟨b2, cap, L, rfl, ho2, g1, g2, g3⟩
  ·rw [e] at hi; exact absurd hi (Nat.not_lt_zero i)
  have hnb : ¬ st'.has b2 := hd2 _ (ks ho2)
  have hlen : 0 + i * 10 + 3 + 2 <= ((rws ze w.U).flatten ++ L).length := by
   rw [List.length_append, k7 xb]
   omega
  have hrow := zle (g := N) (b := b2) (L := L) g1 g2 g3 hi (j := 3) (ys := zk np) (show 3 + 2 <= 10 by decide) (u' := { w.U[i] with pos := np }) rfl
  refine ⟨i, rfl, hi, ?_⟩
  refine kf (i := ti34) (v := .agg (zk np)) (xs := zk np) (b := b2) (o := 0 + i * 10 + 3) (l := (rws ze w.U).flatten ++ L) rfl rfl rfl (y3 hd2 ho2) hlen ?_
  rw [Im hnb]
  exact ret (hRk _ _ (RowsO.q (hrow.unL (Pm hd2 hnb))) (Pm hd2 hnb))
theorem zk8 {w : Wld} (hw : playW w) {i : Nat} (hi : i < w.U.length) (h0 : w.U[i].inn = 0) (d : Vc) (hd : d.ok) :
  ACalls Tryz.prog 21 [.agg (zr w), int w.U[i].id, .agg (zk d)] Store.empty fun r _ => r = .tup [.agg (zr (yq w w.U[i] d)), int (qt w w.U[i] d)] := by
 refine (zk7 (S := Store.empty) hw hi h0 d hd (fun r S => r = .tup [.agg (zr (yq w w.U[i] d)), int (qt w w.U[i] d)] \/ ∃ v, RowsQ 10 ze S v (yq w w.U[i] d).U /\ r = .tup [.agg (xf (yq w w.U[i] d) v), int (qt w w.U[i] d)]) (.inl rfl) (fun v2 N h1 _ => .inr ⟨v2, h1, rfl⟩)).frozen ?_
 rintro r S (rfl | ⟨v, hv, rfl⟩)
 ·exact ⟨_, rfl, fun Oth M W x sto hx => qr hx⟩
 refine ⟨_, rfl, fun Oth M W x sto hx => ?_⟩
 cases hx with
 | tup _ c hl hc =>
  refine .tup _ c hl fun i y z hy hz => ?_
  match i with
  | 0 => simp only [List.getElem?_cons_zero, Option.some.injEq] at hy; subst hy; exact Rk hv sto (hc 0 _ z rfl hz)
  | 1 => simp only [List.getElem?_cons_succ, List.getElem?_cons_zero, Option.some.injEq] at hy; subst hy; exact qr (hc 1 _ z rfl hz)
  | i + 2 => simp at hy
theorem I3 {w : Wld} (hw : playW w) {i : Nat} (hi : i < w.U.length) (h0 : w.U[i].inn = 0) (id : Int) (hid : w.U[i].id = id) (d : Vc) (hd : d.ok) (x : Wld) (hx : yq w w.U[i] d = x) (n : Int) (hn : qt w w.U[i] d = n) (st : Store) (R : AV -> Store -> Prop)
  (h : R (.tup [.agg (zr x), int n]) st) : ACalls Tryz.prog 21 [.agg (zr w), int id, .agg (zk d)] st R := by
 subst hid hx hn
 exact Og (zk8 hw hi h0 d hd) st R fun r hr => hr ▸ h
def Rg : Wld := ⟨0, 0, 0, ⟨0, 0, []⟩, [], []⟩
theorem znd : OwnQ Store.empty Rg (.s (.slice none 0 0)) (.s (.slice none 0 0)) (.s (.slice none 0 0)) Store.empty Store.empty Store.empty :=
 ⟨by rw [kj, kj], .inl (.inl ⟨rfl, rfl⟩), .inl (.inl ⟨rfl, rfl⟩), .inl (.inl ⟨rfl, rfl⟩), Gf _, Gf _⟩
/-- move.Try, whatever is asked; its result lies in memory of its own. -/
theorem zoi (w : Wld) (hw : w.fits) (hn : ∀ u ∈ w.U, u.pos.ok) (hT : w.G.T.length <= 1000000) (hB : w.B.length <= 1000000) (hU : w.U.length <= 1000000) (id : Int) (d : Vc) (hd : d.ok) (e : Int) (he : y7 w id = e) (st : Store) (R : AV -> Store -> Prop)
  (h : ∀ S x k vT vB v NT NB NU, zi S st -> OwnQ S x vT vB v NT NB NU -> (x.G.T.length <= 1000000 /\ x.B.length <= 1000000 /\ x.U.length <= 1000000) -> (e = 0 -> ∀ i, (hi : i < w.U.length) -> w.U[i].id = id -> w.U[i].inn = 0 -> yg w -> x = yq w w.U[i] d /\ k = qt w w.U[i] d) -> R (.tup [.agg (At x vT vB v), int k, int e]) (S.un st)) :
  ACalls Tryz.prog 18 [.agg (zr w), int id, .agg (zk d)] st R := by
 subst he
 have key : ACalls Tryz.prog 18 [.agg (zr w), int id, .agg (zk d)] Store.empty fun r S => ∃ x k vT vB v NT NB NU, OwnQ S x vT vB v NT NB NU /\ (x.G.T.length <= 1000000 /\ x.B.length <= 1000000 /\ x.U.length <= 1000000) /\ (y7 w id = 0 -> ∀ i, (hi : i < w.U.length) -> w.U[i].id = id -> w.U[i].inn = 0 -> yg w -> x = yq w w.U[i] d /\ k = qt w w.U[i] d) /\ r = .tup [.agg (At x vT vB v), int k, int (y7 w id)] := by
  by_cases e0 : y7 w id = 0
  ·have hm : yg w := by
    by_cases hm : yg w
    ·exact hm
    ·rw [H7 hm] at e0; cases e0
   obtain ⟨i, hi, q1, q2⟩ := fm hm e0
   subst q1
   rw [e0]
   have hs := (Mq ⟨hm, hn⟩ hi q2 d).1.sizes
   refine zoh w hm hn hi q2 d hd _ (fun S vT vB v NT NB NU ho => ⟨_, _, vT, vB, v, NT, NB, NU, ho, ?_, fun _ j hj q3 _ _ => ?_, rfl⟩)
   ·exact hs
   ·have hji : j = i := by
     rcases Nat.lt_trichotomy j i with g | g | g
     ·have := vm hm.1.2.1 g hi
      omega
     ·exact g
     ·have := vm hm.1.2.1 g hj
      omega
    subst hji
    exact ⟨rfl, rfl⟩
  ·refine ACalls.of_body (c := cfg 34) zb Tryz.func18 (by rfl) (by rfl) (by rfl) (by rfl) ?_
   refine fh w hw hn hT hB hU id _ (fun S _ => ?_) (fun j hj hm hid hin _ _ _ _ _ _ _ _ _ _ _ _ _ => ?_)
   ·refine qa (fun _ => ?_) (fun c => absurd c e0)
    exact qq (Tt) (vd _) ⟨Rg, 0, _, _, _, _, _, _, znd, ⟨by decide, by decide, by decide⟩, fun q => absurd q e0, rfl⟩
   ·have := D4 hm hj
    rw [hid, if_pos hin] at this
    exact absurd this e0
 rw [<- kj st]
 refine ACalls.frame (Gf st) key ?_
 rintro r S ⟨x, k, vT, vB, v, NT, NB, NU, ho, hs, hk, rfl⟩ hd2
 exact h S x k vT vB v NT NB NU hd2 ho hs hk
set_option maxHeartbeats 4000000 in
set_option maxRecDepth 20000 in
theorem zok (s : Scr24) (hs : s.good) (st : Store) (R : AV -> Store -> Prop) (h : R (V.bool true) st) : ACalls Tryz.prog 4 [.agg (G9 s)] st R := by
 refine ACalls.of_body (c := cfg 104) zb Tryz.func4 (by rfl) (by rfl) (by rfl) (by rfl) ?_
 refine zpy s _ _ (fun z hz => ?_)
 refine zg (fun c1 => ret h) (fun c1 => ?_)
 have hnh : ¬ Ks s := fun hh => by have := hz.2 hh; rw [this] at c1; cases c1
 unfold Ks Hu at hnh
 have hfit : s.W.fits := ⟨by unfold Gnd.fits; omega, by omega, by omega⟩
 have hI : s.I.length <= 40 := by omega
 have hw1 : s.W.G.T.length <= 1000000 := by omega
 have hw2 : s.W.B.length <= 1000000 := by omega
 have hw3 : s.W.U.length <= 1000000 := by omega
 clear hnh
 refine AWp.loop (σ := Nat) ⟨fun i => [(1, .bx 1 0), (3, .av (int (i : Nat)))], fun _ => [(1, G9 s)], fun i st' => i <= s.I.length /\ st' = st, fun i => s.I.length - i⟩ zb ?_ ?_
 ·exact ⟨0, Tv, ⟨Nat.zero_le _, rfl⟩, ⟨Tq, Tq, Tv⟩, ⟨rfl, Tv⟩⟩
 rintro i st' ⟨hi, rfl⟩
 dsimp only at hi ⊢
 refine zg (fun h1 => ?_) (fun h1 => Ma _ _ (ret h))
 have hlt : i < s.I.length := qy h1
 refine zg (fun h2 => ?_) (fun h2 => Ma _ _ (ret h))
 have hlv : i < s.V.length := qy h2
 refine bcd (fun h3 => ?_) (fun h3 => Ma _ _ (ret h))
 have hask := fun st2 R2 => zub s.W hs.1 hfit hw3 s.I[i] _ rfl st2 R2
 have ap := fun st2 R2 => zoi s.W hfit hs.1 hw1 hw2 hw3 s.I[i] s.V[i] (hs.2.2 _ (List.getElem_mem hlv)) _ rfl st2 R2
 have hz0 : y7 s.W s.I[i] = 0 -> yg s.W /\ ∃ (k : Nat) (hk : k < s.W.U.length), s.W.U[k].id = s.I[i] /\ s.W.U[k].inn = 0 := fun e => by
  have hm : yg s.W := by
   by_cases hm : yg s.W
   ·exact hm
   ·rw [H7 hm] at e; cases e
  exact ⟨hm, fm hm e⟩
 generalize y7 s.W s.I[i] = e at *
 refine ADraw.of_sched zb (by rfl) (by rfl) zi8 (by rfl) ?_
 refine ⟨i, rfl, za _ (zj hlt) ?_⟩
 refine ⟨hask _ _ ⟨Tv, ⟨⟨Tv, ?_⟩, Tv⟩⟩, Tv⟩
 refine zs0 s.W hfit _ _ ?_
 refine ADraw.of_sched zb (by rfl) (by rfl) zi7 (by rfl) ?_
 refine ⟨i, rfl, za _ (zj hlt) ?_⟩
 refine ⟨i, rfl, za _ (zj hlv) ?_⟩
 refine ⟨ap _ _ (fun S x k vT vB v NT NB NU hd ho hsz hxk => ⟨Tv, ?_⟩), ⟨⟨(by repeat (first | exact Tv | refine ⟨rfl, ?_⟩ | refine ⟨⟨i, rfl, za _ (zj hlt) rfl⟩, ?_⟩ | refine ⟨⟨i, rfl, za _ (zj hlv) rfl⟩, ?_⟩)), ⟨ap _ _ (fun S x k vT vB v NT NB NU hd ho hsz hxk => ⟨Tv, ?_⟩), Tv⟩⟩, Tv⟩⟩
 ·obtain ⟨_, _, e1, _⟩ := ho.rT.form
  obtain ⟨_, _, e2, _⟩ := ho.rB.form
  obtain ⟨_, _, e3, _⟩ := ho.rU.form
  subst e1 e2 e3
  refine ⟨⟨(by repeat (first | exact Tv | refine ⟨rfl, ?_⟩ | refine ⟨⟨i, rfl, za _ (zj hlt) rfl⟩, ?_⟩ | refine ⟨⟨i, rfl, za _ (zj hlv) rfl⟩, ?_⟩)), ⟨⟨Tv, ⟨⟨Tv, ⟨⟨Tv, ?_⟩, Tv⟩⟩, Tv⟩⟩, Tv⟩⟩, Tv⟩
  refine Ny _ _ _ ?_
  refine qa (fun c3 => absurd rfl c3) (fun c3 => ?_)
  refine Dv s.W hfit _ _ ?_
  refine yp (fun e0 => ?_) (fun e0 => ?_)
  rotate_left
  ·refine Ix ho hd hsz.1 hsz.2.1 hsz.2.2 _ ?_
   refine Dv s.W hfit _ _ ?_
   refine zc (by omega) ?_
   exact ⟨i + 1, (show s.I.length - (i + 1) < s.I.length - i by omega), ⟨hlt, rfl⟩, ⟨Tq, Tq, Tv⟩, ⟨rfl, Tv⟩⟩
  obtain ⟨hm, k0, hk0, q1, q2⟩ := hz0 e0
  obtain ⟨hx1, hx2⟩ := hxk e0 k0 hk0 q1 q2 hm
  have hxf : x.fits := by rw [hx1]; exact (vt (Mq ⟨hm, hs.1⟩ hk0 q2 s.V[i]).1.1).fits
  refine ADraw.of_sched zb (by rfl) (by rfl) Vi (by rfl) ?_
  refine ⟨i, rfl, za _ (zj hlt) ?_⟩
  refine ⟨i, rfl, za _ (zj hlv) ?_⟩
  refine ⟨I3 ⟨hm, hs.1⟩ hk0 q2 s.I[i] q1 s.V[i] (hs.2.2 _ (List.getElem_mem hlv)) x hx1.symm k hx2.symm _ _ ⟨Tv, ⟨⟨(by repeat (first | exact Tv | refine ⟨rfl, ?_⟩ | refine ⟨⟨i, rfl, za _ (zj hlt) rfl⟩, ?_⟩ | refine ⟨⟨i, rfl, za _ (zj hlv) rfl⟩, ?_⟩)), ⟨⟨Tv, ⟨⟨Tv, ?_⟩, Tv⟩⟩, Tv⟩⟩, Tv⟩⟩, ⟨⟨(by repeat (first | exact Tv | refine ⟨rfl, ?_⟩ | refine ⟨⟨i, rfl, za _ (zj hlt) rfl⟩, ?_⟩ | refine ⟨⟨i, rfl, za _ (zj hlv) rfl⟩, ?_⟩)), ⟨I3 ⟨hm, hs.1⟩ hk0 q2 s.I[i] q1 s.V[i] (hs.2.2 _ (List.getElem_mem hlv)) x hx1.symm k hx2.symm _ _ ⟨Tv, ⟨⟨Tv, ⟨⟨Tv, ?_⟩, Tv⟩⟩, Tv⟩⟩, Tv⟩⟩, Tv⟩⟩
  all_goals
   refine qa (fun c4 => absurd rfl c4) (fun c4 => ?_)
   refine dc ho hd hxf _ ?_
   refine Ix ho hd hsz.1 hsz.2.1 hsz.2.2 _ ?_
   refine Dv s.W hfit _ _ ?_
   refine zc (by omega) ?_
   exact ⟨i + 1, (show s.I.length - (i + 1) < s.I.length - i by omega), ⟨hlt, rfl⟩, ⟨Tq, Tq, Tv⟩, ⟨rfl, Tv⟩⟩
 ·obtain ⟨_, _, e1, _⟩ := ho.rT.form
  obtain ⟨_, _, e2, _⟩ := ho.rB.form
  obtain ⟨_, _, e3, _⟩ := ho.rU.form
  subst e1 e2 e3
  refine ⟨⟨Tv, ⟨⟨Tv, ⟨⟨Tv, ?_⟩, Tv⟩⟩, Tv⟩⟩, Tv⟩
  refine Ny _ _ _ ?_
  refine qa (fun c3 => absurd rfl c3) (fun c3 => ?_)
  refine Dv s.W hfit _ _ ?_
  refine yp (fun e0 => ?_) (fun e0 => ?_)
  rotate_left
  ·refine Ix ho hd hsz.1 hsz.2.1 hsz.2.2 _ ?_
   refine Dv s.W hfit _ _ ?_
   refine zc (by omega) ?_
   exact ⟨i + 1, (show s.I.length - (i + 1) < s.I.length - i by omega), ⟨hlt, rfl⟩, ⟨Tq, Tq, Tv⟩, ⟨rfl, Tv⟩⟩
  obtain ⟨hm, k0, hk0, q1, q2⟩ := hz0 e0
  obtain ⟨hx1, hx2⟩ := hxk e0 k0 hk0 q1 q2 hm
  have hxf : x.fits := by rw [hx1]; exact (vt (Mq ⟨hm, hs.1⟩ hk0 q2 s.V[i]).1.1).fits
  refine ADraw.of_sched zb (by rfl) (by rfl) Vi (by rfl) ?_
  refine ⟨i, rfl, za _ (zj hlt) ?_⟩
  refine ⟨i, rfl, za _ (zj hlv) ?_⟩
  refine ⟨I3 ⟨hm, hs.1⟩ hk0 q2 s.I[i] q1 s.V[i] (hs.2.2 _ (List.getElem_mem hlv)) x hx1.symm k hx2.symm _ _ ⟨Tv, ⟨⟨(by repeat (first | exact Tv | refine ⟨rfl, ?_⟩ | refine ⟨⟨i, rfl, za _ (zj hlt) rfl⟩, ?_⟩ | refine ⟨⟨i, rfl, za _ (zj hlv) rfl⟩, ?_⟩)), ⟨⟨Tv, ⟨⟨Tv, ?_⟩, Tv⟩⟩, Tv⟩⟩, Tv⟩⟩, ⟨⟨(by repeat (first | exact Tv | refine ⟨rfl, ?_⟩ | refine ⟨⟨i, rfl, za _ (zj hlt) rfl⟩, ?_⟩ | refine ⟨⟨i, rfl, za _ (zj hlv) rfl⟩, ?_⟩)), ⟨I3 ⟨hm, hs.1⟩ hk0 q2 s.I[i] q1 s.V[i] (hs.2.2 _ (List.getElem_mem hlv)) x hx1.symm k hx2.symm _ _ ⟨Tv, ⟨⟨Tv, ⟨⟨Tv, ?_⟩, Tv⟩⟩, Tv⟩⟩, Tv⟩⟩, Tv⟩⟩
  all_goals
   refine qa (fun c4 => absurd rfl c4) (fun c4 => ?_)
   refine dc ho hd hxf _ ?_
   refine Ix ho hd hsz.1 hsz.2.1 hsz.2.2 _ ?_
   refine Dv s.W hfit _ _ ?_
   refine zc (by omega) ?_
   exact ⟨i + 1, (show s.I.length - (i + 1) < s.I.length - i by omega), ⟨hlt, rfl⟩, ⟨Tq, Tq, Tv⟩, ⟨rfl, Tv⟩⟩
end Go.Proofs
