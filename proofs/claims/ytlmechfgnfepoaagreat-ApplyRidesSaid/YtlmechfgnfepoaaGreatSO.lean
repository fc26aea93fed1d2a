/- The ground on which laws of thronglaw23 are proved: contracts of functions and plain lemmas; no condition beyond the row's own. -/
import Derived.Test.YtlmechfgnfepoaaGreatSK
import Derived.Test.YtlmechfgnfepoaaGreatSN
import Derived.Test.YtlmechfgnfepoaaGreatSM
set_option linter.unusedSimpArgs false
set_option linter.unusedVariables false
namespace Go.Proofs
open Go Go.V
theorem zp1 (k : Int) : 0 ≤ vi k ∧ vi k ≤ 3 := by unfold vi; split <;> decide
set_option maxHeartbeats 1000000 in
set_option maxRecDepth 20000 in
/-- Good places about a tile, told by a place of work. -/
theorem zjd {S : Store} {xw s p : Nat} {w : Wld} {v o0 o1 o2 : AV} {c : Cmd} (ha : AtW S xw s p w v o0 o1 o2 c nF) (hm : MayF w) (k : Int) (t : Nat) (ht : t < w.G.T.length) (n : Nat) (hn : n ≤ 1000) (R : AV → Store → Prop) (h : R (ints (natI (yh w k (t : Int) n))) S) : ACalls Tryz.prog 164 [ptr xw, int k, int t, int n] S R := by
 obtain ⟨hx, hs, hv⟩ := ha
 obtain ⟨oa, cap, e, hget⟩ := hv.form
 subst e
 refine ACalls.of_body (c := cfg 53) zd Tryz.func164 (by rfl) (by rfl) (by rfl) (by rfl) ?_
 refine y4 k _ _ ?_
 refine ADraw.of_sched zd (by rfl) (by rfl) zwq (by rfl) ?_
 refine za (o := S.obj xw) _ hx ?_
 refine za (o := S.obj s) _ hs ?_
 refine za (o := S.obj xw) _ hx ?_
 refine za (o := S.obj xw) _ hx ?_
 refine za (o := S.obj s) _ hs ?_
 refine za (o := S.obj xw) _ hx ?_
 refine za (o := S.obj s) _ hs ?_
 refine ⟨znc w.G hm.hg w.B (by have := hm.hB; omega) hm.hb (kCls k) (vi k) (zp1 k) _ _ (fun b hf => ?_), trivial⟩
 have hbx : xw ≠ b := fun e => by have := hf.1; rw [← e, hx] at this; cases this
 have hbs : s ≠ b := fun e => by have := hf.1; rw [← e, hs] at this; cases this
 have hx2 : (S.setObj b (.cells (netC w.G w.B (kCls k) (vi k)))).obj xw = some (.cells (wkC s c nF)) := (zg hbx).trans hx
 have hs2 : (S.setObj b (.cells (netC w.G w.B (kCls k) (vi k)))).obj s = some (.cells (svC w (.s (.slice oa w.U.length cap)) o0 o1 o2 p)) := (zg hbs).trans hs
 have hb2 : (S.setObj b (.cells (netC w.G w.B (kCls k) (vi k)))).obj b = some (.cells (netC w.G w.B (kCls k) (vi k))) := zb _ _ _
 have hback : (S.setObj b (.cells (netC w.G w.B (kCls k) (vi k)))).Has S := xo hf.1
 generalize S.setObj b (.cells (netC w.G w.B (kCls k) (vi k))) = S2 at *
 refine ⟨?_, ?_⟩
 ·repeat (first | exact trivial | refine ⟨rfl, ?_⟩ | refine ⟨za (o := S2.obj xw) _ hx2 rfl, ?_⟩ | refine ⟨za (o := S2.obj s) _ hs2 rfl, ?_⟩)
 refine za (o := S2.obj b) _ hb2 ?_
 refine ⟨znx w.G hm.hg (zcr w.G w.B (kCls k) (vi k)) (vi k) (zp1 k) t ht n hn _ _ ⟨(by repeat (first | exact trivial | refine ⟨rfl, ?_⟩ | refine ⟨optR (optR (optR (za _ (zb _ _ _) rfl))), ?_⟩)), ?_⟩, trivial⟩
 refine ⟨⟨trivial, ?_⟩, trivial⟩
 exact k8 (ar_ _) hback h
theorem zb2 {S : Store} {xw s p : Nat} {w : Wld} {v o0 o1 o2 : AV} {c : Cmd} (ha : AtW S xw s p w v o0 o1 o2 c nF) (hm : MayF w) (k : Int) (t : Nat) (ht : t < w.G.T.length) (tI : Int) (htI : tI = (t : Int)) (n : Nat) (hn : n ≤ 1000) (R : AV → Store → Prop) (h : R (ints (natI (yh w k tI n))) S) : ACalls Tryz.prog 164 [ptr xw, int k, int tI, int n] S R := by
 subst htI
 exact zjd ha hm k t ht n hn R h
/-- A unit comes out beside a tile. -/
def outW (w : Wld) (i t : Nat) (hi : i < w.U.length) : Wld := { w with U := w.U.set i (unlU w.U[i] (cenV w.G t)) }
set_option maxHeartbeats 2000000 in
set_option maxRecDepth 20000 in
theorem zn0 {F G : Store} {xw s p : Nat} {w : Wld} {v : AV} {L : List Ent} {o0 o1 o2 : AV} {c : Cmd} (hW : Work F G xw s p w v L o0 o1 o2 c nF) (hm : MayF w) (hn : ∀ u ∈ w.U, u.pos.ok) {i : Nat} (hi : i < w.U.length) (t : Nat) (ht : t < w.G.T.length) (htI : c.T = (t : Int)) (R : AV → Store → Prop)
  (h : ∀ S', outF w w.U[i] c.T = none → R (V.bool false) S')
  (h1 : ∀ t2, outF w w.U[i] c.T = some t2 → t2 < w.G.T.length → ∀ F' G' L' q0 q1 q2, Work F' G' xw s p (outW w i t2 hi) v L' q0 q1 q2 c nF → (∀ q, offB v q → G'.obj q = G.obj q) → R (V.bool true) (F'.un (svS G' s (outW w i t2 hi) v q0 q1 q2 p))) : ACalls Tryz.prog 175 [ptr xw, .agg (untC w.U[i])] (F.un (svS G s w v o0 o1 o2 p)) R := by
 have hU := hm.hU
 have hB := hm.hB
 have hx := hW.x (F' := F) (q0 := o0) (q1 := o1) (q2 := o2)
 have hs := hW.s (F' := F) (q0 := o0) (q1 := o1) (q2 := o2)
 have hr := hW.r (F' := F) (q0 := o0) (q1 := o1) (q2 := o2)
 obtain ⟨oa, cap, e, hget⟩ := hW.S.hu.form
 subst e
 refine ACalls.of_body (c := cfg 52) zd Tryz.func175 (by rfl) (by rfl) (by rfl) (by rfl) ?_
 refine ADraw.of_sched zd (by rfl) (by rfl) zwf (by rfl) ?_
 refine za (o := (F.un (svS G s w _ o0 o1 o2 p)).obj xw) _ hx ?_
 refine ⟨zb2 ⟨hx, hs, hr⟩ hm w.U[i].kind t ht c.T htI 64 (by decide) _ ⟨?_, ?_⟩, trivial⟩
 ·repeat (first | exact trivial | refine ⟨rfl, ?_⟩ | refine ⟨za (o := (F.un (svS G s w _ o0 o1 o2 p)).obj xw) _ hx rfl, ?_⟩)
 have hlen := zl8 w w.U[i].kind c.T 64
 have hlt3 := fun (t2 : Nat) (h2 : t2 ∈ yh w w.U[i].kind c.T 64) => (zhe h2).1
 have hsome := fun (j : Nat) (hj : j < (yh w (w.U[i]'hi).kind c.T 64).length) => zo9 (w := w) (u := w.U[i]'hi) (tile := c.T) (j := j) hj
 have hnone := zpa (w := w) (u := w.U[i]'hi) (tile := c.T)
 generalize yh w w.U[i].kind c.T 64 = sl at *
 refine AWp.loop (σ := Nat × Store × AV × AV × AV) ⟨fun x => [(0, .av (ptr xw)), (3, .bx 3 0), (16, .av (ints (natI sl))), (17, .av (int (sl.length : Nat))), (18, .av (int (x.1 : Nat)))], fun _ => [(3, untC w.U[i])],
  fun x st' => x.1 ≤ sl.length ∧ st' = x.2.1.un (svS G s w (.s (.slice oa w.U.length cap)) x.2.2.1 x.2.2.2.1 x.2.2.2.2 p) ∧ StandR x.2.1 G s p w (.s (.slice oa w.U.length cap)) L x.2.2.1 x.2.2.2.1 x.2.2.2.2 ∧ ∀ j, (hj : j < sl.length) → j < x.1 → ¬ yk w w.U[i].id w.U[i].kind (cenV w.G sl[j]), fun x => sl.length - x.1⟩ zd ?_ ?_
 ·refine ⟨(0, F, o0, o1, o2), trivial, ⟨Nat.zero_le _, rfl, hW.S, fun j _ hj => by dsimp only at hj; omega⟩, ⟨lr_ _, lr_ _, lr_ _, ?_, lr_ _, trivial⟩, ⟨rfl, trivial⟩⟩
  show LV.le (.av (int ((rws intC (natI sl)).length : Nat))) (.av (int (sl.length : Nat)))
  rw [zh, ja]; exact lr_ _
 rintro ⟨j, F1, q0, q1, q2⟩ st' ⟨hj, rfl, hS1, hall⟩
 dsimp only at hj hS1 hall ⊢
 refine bcd (fun c1 => ?_) (fun c1 => ?_)
 rotate_left
 ·exact ret (h _ (hnone fun j' hj' => hall j' hj' (by omega)))
 have hlt : j < sl.length := by omega
 have hlt2 : j < (natI sl).length := by rw [ja]; exact hlt
 have hsl := hlt3 _ (List.getElem_mem hlt)
 have hnat : (natI sl)[j]'hlt2 = ((sl[j] : Nat) : Int) := List.getElem_map ..
 have hx1 := hW.x (F' := F1) (q0 := q0) (q1 := q1) (q2 := q2)
 have hs1 := hW.s (F' := F1) (q0 := q0) (q1 := q1) (q2 := q2)
 have ha := zq hm.hg
 refine ⟨j, rfl, za _ (zj hlt2) ?_⟩
 refine za (o := (F1.un (svS G s w _ q0 q1 q2 p)).obj xw) _ hx1 ?_
 refine za (o := (F1.un (svS G s w _ q0 q1 q2 p)).obj s) _ hs1 ?_
 refine zdp w.G hm.hg sl[j] (by omega) _ hnat _ _ ?_
 refine ADraw.of_sched zd (by rfl) (by rfl) zwe (by rfl) ?_
 refine za (o := (F1.un (svS G s w _ q0 q1 q2 p)).obj xw) _ hx1 ?_
 refine ⟨zb5 hS1 hm.hg (by omega) hm.hb hm.hr (by omega) hn hW.hL hW.hF w.U[i].id w.U[i].kind (cenV w.G sl[j]) (zd3 hm.hg hsl) _ (fun z F2 a0 a1 a2 hz hS2 => ?_), trivial⟩
 have hx2 := hW.x (F' := F2) (q0 := a0) (q1 := a1) (q2 := a2)
 have hs2 := hW.s (F' := F2) (q0 := a0) (q1 := a1) (q2 := a2)
 refine ⟨trivial, ?_⟩
 refine ze (fun c2 => ?_) (fun c2 => ?_)
 rotate_left
 ·refine in64 (by omega) ?_
  refine ⟨(j + 1, F2, a0, a1, a2), ?_, ⟨by dsimp only; omega, rfl, hS2, fun j' hj' hjj => ?_⟩, ⟨lr_ _, lr_ _, lr_ _, lr_ _, lr_ _, trivial⟩, ⟨rfl, trivial⟩⟩
  ·show sl.length - (j + 1) < sl.length - j
   omega
  ·by_cases e : j' = j
   ·subst e
    intro hh
    have := hz.2 hh
    rw [this] at c2; cases c2
   ·exact hall j' hj' (by dsimp only at hjj; omega)
 have hcl := hz.1 c2
 have hout := hsome j hlt (fun i' hi' hii => hall i' hi' hii) hcl
 refine ADraw.of_sched zd (by rfl) (by rfl) zwd (by rfl) ?_
 refine ⟨⟨(by repeat (first | exact trivial | refine ⟨rfl, ?_⟩ | refine ⟨optR (optR (optR (za _ (zb _ _ _) rfl))), ?_⟩)), ?_⟩, trivial⟩
 refine ⟨⟨trivial, ?_⟩, trivial⟩
 refine ADraw.of_sched zd (by rfl) (by rfl) zwc (by rfl) ?_
 refine za (o := (F2.un (svS G s w _ a0 a1 a2 p)).obj xw) _ hx2 ?_
 refine ⟨zo5 hS2 hW.os hm.hr (by omega) (by have := hW.hL; omega) (jg hW.hF hn) hi (unlU w.U[i] (cenV w.G sl[j])) rfl (zd3 hm.hg hsl) _ (fun F3 G3 g1 g2 => ⟨trivial, ?_⟩), trivial⟩
 have hF3 := zjy hW.hF hm.hr hi (u := unlU w.U[i] (cenV w.G sl[j])) rfl
 refine ret (h1 sl[j] hout hsl F3 G3 _ a0 a1 a2 ⟨g1, by rw [g2 xw hW.ox]; exact hW.hx, hW.ox, hW.os, ?_, hF3⟩ g2)
 obtain ⟨_, _, _, _, _, _, _, _, inv⟩ := g1.hc
 exact zjz inv.n1 hF3
end Go.Proofs
namespace Go.Proofs
open Go Go.V
theorem zld {U : List Unt} {i : Nat} {x u : Unt} (h : u ∈ U.set i x) : u = x ∨ u ∈ U := by
 rcases List.mem_or_eq_of_mem_set h with h | h
 ·exact .inr h
 ·exact .inl h
theorem MayF.put {w : Wld} (h : MayF w) {i : Nat} (hi : i < w.U.length) {u : Unt} (hid : w.U[i].id = u.id) (hk : ko u.kind) : MayF { w with U := w.U.set i u } :=
 ⟨h.hg, h.hB, by show (w.U.set i u).length ≤ _; rw [List.length_set]; exact h.hU, h.hT, h.hb, fun x hx => by
  rcases zld (show x ∈ w.U.set i u from hx) with rfl | hx
  ·exact hk
  ·exact h.hk x hx, zdk h.hr hi hid, h.hn1, h.hn2⟩
theorem yeb {w : Wld} {c : Cmd} (h : carE w c.P c.N ≠ 0) : ulE w c = carE w c.P c.N := by unfold ulE; rw [if_neg h]
theorem yea {w : Wld} {c : Cmd} (h : carE w c.P c.N = 0) (h2 : ¬ (0 ≤ c.T ∧ c.T < w.G.W * w.G.H)) : ulE w c = 3 := by unfold ulE; rw [if_pos h, if_neg h2]
theorem yd9 {w : Wld} {c : Cmd} (h : carE w c.P c.N = 0) (h2 : 0 ≤ c.T ∧ c.T < w.G.W * w.G.H) (h3 : farP (cenV w.G c.T.toNat) (uAt w c.N).pos) : ulE w c = 8 := by unfold ulE; rw [if_pos h, if_pos h2, if_pos h3]
theorem yd8 {w : Wld} {c : Cmd} (h : carE w c.P c.N = 0) (h2 : 0 ≤ c.T ∧ c.T < w.G.W * w.G.H) (h3 : ¬ farP (cenV w.G c.T.toNat) (uAt w c.N).pos) (h4 : unl c.T (inOf w.U c.N) w = none) : ulE w c = 5 := by unfold ulE; rw [if_pos h, if_pos h2, if_neg h3, h4]
theorem yd7 {w : Wld} {c : Cmd} (h : carE w c.P c.N = 0) (h2 : 0 ≤ c.T ∧ c.T < w.G.W * w.G.H) (h3 : ¬ farP (cenV w.G c.T.toNat) (uAt w c.N).pos) {x : Wld} (h4 : unl c.T (inOf w.U c.N) w = some x) : ulE w c = 0 ∧ ulW w c = x := by
 unfold ulE ulW
 rw [if_pos h, if_pos h2, if_neg h3, h4]
 exact ⟨rfl, rfl⟩
theorem zp7 {w : Wld} (hr : z7 w.U) {n id : Int} (h : id ∈ inOf w.U n) : ∃ i, ∃ hi : i < w.U.length, yr w.U id = some i := by
 unfold inOf at h
 obtain ⟨u, hu, rfl⟩ := List.mem_map.1 h
 obtain ⟨hu, _⟩ := List.mem_filter.1 hu
 obtain ⟨i, hi, rfl⟩ := List.getElem_of_mem hu
 exact ⟨i, hi, zgh hr hi rfl⟩
set_option maxHeartbeats 2000000 in
set_option maxRecDepth 20000 in
theorem zgw {F G : Store} {xw s p : Nat} {w : Wld} {v : AV} {L : List Ent} {o0 o1 o2 : AV} {c : Cmd} (hW : Work F G xw s p w v L o0 o1 o2 c nF) (hm : MayF w) (hn : ∀ u ∈ w.U, u.pos.ok) (R : AV → Store → Prop)
  (h : ∀ S', ulE w c ≠ 0 → R (int (ulE w c)) S') (h0 : ulE w c = 0 → ∀ S', Done S' xw s c nF (ulW w c) → R (int 0) S') : ACalls Tryz.prog 124 [ptr xw] (F.un (svS G s w v o0 o1 o2 p)) R := by
 have hU := hm.hU
 have hx := hW.x (F' := F) (q0 := o0) (q1 := o1) (q2 := o2)
 have hs := hW.s (F' := F) (q0 := o0) (q1 := o1) (q2 := o2)
 have hr := hW.r (F' := F) (q0 := o0) (q1 := o1) (q2 := o2)
 obtain ⟨oa, cap, e, hget⟩ := hW.S.hu.form
 subst e
 have ha := zq hm.hg
 refine ACalls.of_body (c := cfg 96) zd Tryz.func124 (by rfl) (by rfl) (by rfl) (by rfl) ?_
 refine zck ⟨hx, hs, hr⟩ hm.hr (by omega) _ ?_
 refine bcne (fun c1 => ?_) (fun c1 => ?_)
 ·have := yeb c1
  rw [this] at h
  exact ret (h _ c1)
 obtain ⟨hask, hroom⟩ := zix c1
 obtain ⟨ix, hix, hfx, hidx, hux, _, _⟩ := wg hask
 refine ADraw.of_sched zd (by rfl) (by rfl) zw4 (by rfl) ?_
 refine za (o := (F.un (svS G s w _ o0 o1 o2 p)).obj xw) _ hx ?_
 refine za (o := (F.un (svS G s w _ o0 o1 o2 p)).obj s) _ hs ?_
 refine za (o := (F.un (svS G s w _ o0 o1 o2 p)).obj xw) _ hx ?_
 refine ⟨zf8 w.G c.T hm.hg _ _ (fun z hz => ⟨trivial, ?_⟩), trivial⟩
 refine ⟨⟨trivial, ?_⟩, trivial⟩
 refine yv ?_
 refine ze (fun c2 => ?_) (fun c2 => ?_)
 rotate_left
 ·have := yea c1 (fun hh => by have := hz.2 hh; rw [this] at c2; cases c2)
  rw [this] at h
  exact ret (h _ (by decide))
 have htile := hz.1 c2
 have htn : c.T = ((c.T.toNat : Nat) : Int) := by omega
 have htl : c.T.toNat < w.G.T.length := by omega
 have hup : (uAt w c.N).pos.ok := zy0 hn c.N
 refine ADraw.of_sched zd (by rfl) (by rfl) zw3 (by rfl) ?_
 refine za (o := (F.un (svS G s w _ o0 o1 o2 p)).obj xw) _ hx ?_
 refine za (o := (F.un (svS G s w _ o0 o1 o2 p)).obj s) _ hs ?_
 refine za (o := (F.un (svS G s w _ o0 o1 o2 p)).obj xw) _ hx ?_
 refine ⟨zdp w.G hm.hg c.T.toNat (by omega) _ htn _ _ ⟨?_, ?_⟩, trivial⟩
 ·repeat (first | exact trivial | refine ⟨rfl, ?_⟩ | refine ⟨za (o := (F.un (svS G s w _ o0 o1 o2 p)).obj xw) _ hx rfl, ?_⟩ | refine ⟨za (o := (F.un (svS G s w _ o0 o1 o2 p)).obj s) _ hs rfl, ?_⟩)
 refine ⟨zll (cenV w.G c.T.toNat) (uAt w c.N).pos (zd3 hm.hg htl) hup _ _ ⟨(by repeat (first | exact trivial | refine ⟨rfl, ?_⟩ | refine ⟨za (o := (F.un (svS G s w _ o0 o1 o2 p)).obj xw) _ hx rfl, ?_⟩ | refine ⟨za (o := (F.un (svS G s w _ o0 o1 o2 p)).obj s) _ hs rfl, ?_⟩)), ?_⟩, trivial⟩
 refine ⟨⟨trivial, ?_⟩, trivial⟩
 refine bcd (fun c3 => ?_) (fun c3 => ?_)
 ·have := yd9 c1 htile c3
  rw [this] at h
  exact ret (h _ (by decide))
 refine ADraw.of_sched zd (by rfl) (by rfl) zw2 (by rfl) ?_
 refine za (o := (F.un (svS G s w _ o0 o1 o2 p)).obj xw) _ hx ?_
 refine za (o := (F.un (svS G s w _ o0 o1 o2 p)).obj s) _ hs ?_
 rw [hux, hidx]
 refine ⟨zli hr (by omega) c.N _ ⟨(by repeat (first | exact trivial | refine ⟨rfl, ?_⟩ | refine ⟨za (o := (F.un (svS G s w _ o0 o1 o2 p)).obj xw) _ hx rfl, ?_⟩ | refine ⟨za (o := (F.un (svS G s w _ o0 o1 o2 p)).obj s) _ hs rfl, ?_⟩)), ?_⟩, trivial⟩
 have e4 := fun h4 => yd8 (w := w) (c := c) c1 htile c3 h4
 have e5 := fun x h4 => yd7 (w := w) (c := c) c1 htile c3 (x := x) h4
 have hids := fun id (hid : id ∈ inOf w.U c.N) => zp7 (w := w) hm.hr hid
 have hin : (inOf w.U c.N).length ≤ w.U.length := by unfold inOf; rw [List.length_map]; exact List.length_filter_le _ _
 generalize inOf w.U c.N = ids at *
 refine AWp.loop (σ := Nat × Wld × Store × Store × List Ent × AV × AV × AV) ⟨fun x => [(0, .av (ptr xw)), (62, .av (ints ids)), (63, .av (int (ids.length : Nat))), (64, .av (int (x.1 : Nat)))], fun _ => [],
  fun x st' => x.1 ≤ ids.length ∧ st' = x.2.2.1.un (svS x.2.2.2.1 s x.2.1 (.s (.slice oa w.U.length cap)) x.2.2.2.2.2.1 x.2.2.2.2.2.2.1 x.2.2.2.2.2.2.2 p) ∧ Work x.2.2.1 x.2.2.2.1 xw s p x.2.1 (.s (.slice oa w.U.length cap)) x.2.2.2.2.1 x.2.2.2.2.2.1 x.2.2.2.2.2.2.1 x.2.2.2.2.2.2.2 c nF ∧ unl c.T (ids.drop x.1) x.2.1 = unl c.T ids w ∧ MayF x.2.1 ∧ (∀ u ∈ x.2.1.U, u.pos.ok) ∧ x.2.1.U.length = w.U.length ∧ x.2.1.G = w.G ∧ ∀ id, yr x.2.1.U id = yr w.U id, fun x => ids.length - x.1⟩ zd ?_ ?_
 ·refine ⟨(0, w, F, G, L, o0, o1, o2), trivial, ⟨Nat.zero_le _, rfl, hW, by rw [List.drop_zero], hm, hn, rfl, rfl, fun _ => rfl⟩, ⟨lr_ _, lr_ _, ?_, lr_ _, trivial⟩, trivial⟩
  show LV.le (.av (int ((rws intC ids).length : Nat))) (.av (int (ids.length : Nat)))
  rw [zh]; exact lr_ _
 rintro ⟨k, wc, F1, G1, L1, q0, q1, q2⟩ st' ⟨hk, rfl, hW1, hun, hm1, hn1, hl1, hG1, hf1⟩
 dsimp only at hk hW1 hun hm1 hn1 hl1 hG1 hf1 ⊢
 have hx1 := hW1.x (F' := F1) (q0 := q0) (q1 := q1) (q2 := q2)
 have hs1 := hW1.s (F' := F1) (q0 := q0) (q1 := q1) (q2 := q2)
 have hr1 := hW1.r (F' := F1) (q0 := q0) (q1 := q1) (q2 := q2)
 refine bcd (fun h1 => ?_) (fun h1 => ?_)
 rotate_left
 ·have : k = ids.length := by omega
  subst this
  rw [List.drop_length] at hun
  obtain ⟨g1, g2⟩ := e5 wc hun.symm
  rw [g2] at h0
  exact ret (h0 g1 _ ⟨_, q0, q1, q2, p, hx1, hs1, hr1⟩)
 have hlt : k < ids.length := by omega
 obtain ⟨iu, hiu, hfu⟩ := hids _ (List.getElem_mem hlt)
 have hiu1 : iu < wc.U.length := by omega
 have hfu1 : yr wc.U ids[k] = some iu := by rw [hf1]; exact hfu
 rw [List.drop_eq_getElem_cons hlt] at hun
 refine ⟨k, rfl, za _ (zj hlt) ?_⟩
 refine za (o := (F1.un (svS G1 s wc _ q0 q1 q2 p)).obj xw) _ hx1 ?_
 refine za (o := (F1.un (svS G1 s wc _ q0 q1 q2 p)).obj s) _ hs1 ?_
 refine zc4 hr1 (by omega) hm1.hr ids[k] _ (fun i hi z hz => ?_)
 obtain ⟨g1, g2⟩ := zlk hm1.hr hz hi
 have hzi : i = iu := by
  cases z with
  | false => rw [g2 rfl] at hfu1; cases hfu1
  | true => rw [g1 rfl] at hfu1; exact Option.some.inj hfu1
 subst hzi
 refine za (o := (F1.un (svS G1 s wc _ q0 q1 q2 p)).obj xw) _ hx1 ?_
 refine za (o := (F1.un (svS G1 s wc _ q0 q1 q2 p)).obj s) _ hs1 ?_
 have hget1 := hr1.form
 obtain ⟨oa2, cap2, e2, hget1⟩ := hget1
 simp only [AV.s.injEq, Value.slice.injEq] at e2
 obtain ⟨rfl, _, rfl⟩ := e2
 obtain ⟨b, J, rfl, hob⟩ := hget1 i hiu1
 refine ⟨i, rfl, hiu, ?_⟩
 refine za (o := (F1.un (svS G1 s wc _ q0 q1 q2 p)).obj b) _ hob ?_
 refine vt (i := ti50) (row := untC wc.U[i]) rfl rfl (vr qb hiu1) ?_
 refine zn0 hW1 hm1 hn1 hiu1 c.T.toNat (by rw [hG1]; exact htl) htn _ (fun S' hno => ?_) (fun t2 hso ht2 F2 G2 L2 a0 a1 a2 hW2 _ => ?_)
 ·rw [zky hiu1 hfu1 hno] at hun
  have g5 := e4 hun.symm
  rw [g5] at h
  exact ret (h _ (by decide))
 ·rw [zkx hiu1 hfu1 hso] at hun
  refine in64 (by omega) ?_
  refine ⟨(k + 1, outW wc i t2 hiu1, F2, G2, L2, a0, a1, a2), ?_, ⟨by dsimp only; omega, rfl, hW2, hun, hm1.put hiu1 rfl (show ko wc.U[i].kind from hm1.hk _ (List.getElem_mem hiu1)), fun u hu => ?_, ?_, hG1, fun id => ?_⟩, ⟨lr_ _, lr_ _, lr_ _, lr_ _, trivial⟩, trivial⟩
  ·show ids.length - (k + 1) < ids.length - k
   omega
  ·rcases zld (show u ∈ wc.U.set i _ from hu) with rfl | hu
   ·exact zd3 hm1.hg ht2
   ·exact hn1 u hu
  ·show (wc.U.set i _).length = _
   rw [List.length_set]; exact hl1
  ·show yr (wc.U.set i (unlU wc.U[i] (cenV wc.G t2))) id = _
   rw [zqm hm1.hr hiu1 (u := unlU wc.U[i] (cenV wc.G t2)) rfl]
   exact hf1 id
theorem yen : vg 7 ulE ulW := by
 intro F G xw s p w v L o0 o1 o2 c hW hm hn hc hp hk R h h0
 have hx := hW.x (F' := F) (q0 := o0) (q1 := o1) (q2 := o2)
 refine ACalls.of_body (c := cfg 34) zd Tryz.func79 (by rfl) (by rfl) (by rfl) (by rfl) ?_
 refine za (o := (F.un (svS G s w v o0 o1 o2 p)).obj xw) _ hx ?_
 refine bceq (fun c1 => absurd (hk.symm.trans c1) (by decide)) (fun _ => ?_)
 refine bceq (fun c1 => absurd (hk.symm.trans c1) (by decide)) (fun _ => ?_)
 refine bceq (fun c1 => absurd (hk.symm.trans c1) (by decide)) (fun _ => ?_)
 refine bceq (fun c1 => absurd (hk.symm.trans c1) (by decide)) (fun _ => ?_)
 refine bceq (fun c1 => absurd (hk.symm.trans c1) (by decide)) (fun _ => ?_)
 refine bceq (fun c1 => absurd (hk.symm.trans c1) (by decide)) (fun _ => ?_)
 refine zgw hW (mayF hm) hn _ (fun S' he => ret (h S' he)) (fun he S' hd => ret (h0 he S' hd))
end Go.Proofs
namespace Go.Proofs
open Go Go.V
def slO (cs : List (Int × List Nat)) (bs : List Nat) (clk : Nat) : AObj := .map (cs.map (entI fun l => ints (natI l))) bs clk
def slV (m : Nat) : AV := .s (.map (some m))
/-- What a map of places says is true. -/
def slOK (w : Wld) (c : Cmd) (cs : List (Int × List Nat)) : Prop := ∀ kd l, getI cs kd = some l → l = yh w kd c.T c.U.length
/-- A step of a way: units put, a map beside. -/
structure MvS (F G G0 : Store) (xw s p m : Nat) (w : Wld) (v : AV) (L : List Ent) (n : Nat) (o0 o1 o2 : AV) (c : Cmd) (k : Nat) (cs : List (Int × List Nat)) (bs : List Nat) (clk : Nat) : Prop where
 S : StandR F G s p { w with U := mvL w c k } v L o0 o1 o2
 keep : ∀ q, offB v q → q ≠ m → G.obj q = G0.obj q
 hm : G.obj m = some (slO cs bs clk)
 hl : L.length ≤ n + k
 ok : ∀ e ∈ L, e.2.ok
 sl : slOK w c cs
theorem yci {w : Wld} (hm : MayF w) (c : Cmd) (k : Nat) : MayF { w with U := mvL w c k } :=
 ⟨hm.hg, hm.hB, by show (mvL w c k).length ≤ _; rw [x5]; exact hm.hU, hm.hT, hm.hb, fun u hu => by
  obtain ⟨x, hx, _, _, e, _⟩ := zpk hu
  rw [e]; exact hm.hk x hx, zdo hm.hr c k, hm.hn1, hm.hn2⟩
theorem vo {F G : Store} {s p : Nat} {w : Wld} {v : AV} {o0 o1 o2 : AV} {m : Nat} {x : AObj} (h : G.obj m = some x) (hms : m ≠ s) : (F.un (svS G s w v o0 o1 o2 p)).obj m = some x := un_r (by
 show (G.setObj s _).obj m = _
 rw [zg hms]; exact h)
/-- The map is changed. -/
theorem MvS.upd {F G G0 : Store} {xw s p m : Nat} {w : Wld} {v : AV} {L : List Ent} {n : Nat} {o0 o1 o2 : AV} {c : Cmd} {k : Nat} {cs : List (Int × List Nat)} {bs : List Nat} {clk : Nat} (h : MvS F G G0 xw s p m w v L n o0 o1 o2 c k cs bs clk) (hms : m ≠ s) (hoff : offB v m) {cs' : List (Int × List Nat)} (bs' : List Nat) (clk' : Nat) (hs : slOK w c cs') :
  MvS F (G.setObj m (slO cs' bs' clk')) G0 xw s p m w v L n o0 o1 o2 c k cs' bs' clk' ∧ (F.un (svS G s { w with U := mvL w c k } v o0 o1 o2 p)).setObj m (slO cs' bs' clk') = F.un (svS (G.setObj m (slO cs' bs' clk')) s { w with U := mvL w c k } v o0 o1 o2 p) := by
 refine ⟨⟨⟨h.S.hc, fun i h1 h2 => h.S.hd i h1 (svS_has.2 ?_), ?_, h.S.hu.set hoff _, h.S.h0, h.S.h1, h.S.h2⟩, fun q h1 h2 => ?_, zb _ _ _, h.hl, h.ok, hs⟩, ?_⟩
 ·rcases svS_has.1 h2 with h2 | h2
  ·exact .inl h2
  ·rcases has_setObj_iff.1 h2 with rfl | h2
   ·exact .inr (kq h.hm)
   ·exact .inr h2
 ·rw [zg (Ne.symm hms)]; exact h.S.hs
 ·rw [zg h2]; exact h.keep q h1 h2
 ·rw [zo]
  unfold svS
  rw [km hms]
set_option maxHeartbeats 2000000 in
set_option maxRecDepth 20000 in
theorem zly {F G : Store} {xw s p : Nat} {w : Wld} {v : AV} {L : List Ent} {o0 o1 o2 : AV} {c : Cmd} (hW : Work F G xw s p w v L o0 o1 o2 c nF) (hm : MayF w) (hn : ∀ u ∈ w.U, u.pos.ok) (hcU : c.U.length ≤ 64) (R : AV → Store → Prop)
  (h : ∀ S', mvE w c ≠ 0 → R (int (mvE w c)) S') (h0 : mvE w c = 0 → ∀ S', Done S' xw s c nF (mvW w c) → R (int 0) S') : ACalls Tryz.prog 119 [ptr xw] (F.un (svS G s w v o0 o1 o2 p)) R := by
 have hU := hm.hU
 have hx := hW.x (F' := F) (q0 := o0) (q1 := o1) (q2 := o2)
 have hs := hW.s (F' := F) (q0 := o0) (q1 := o1) (q2 := o2)
 have hr := hW.r (F' := F) (q0 := o0) (q1 := o1) (q2 := o2)
 obtain ⟨oa, cap, e, hget⟩ := hW.S.hu.form
 subst e
 have ha := zq hm.hg
 refine ACalls.of_awp (c := cfg 94) zd Tryz.func119 (by rfl) (by rfl) (by rfl) (by rfl) ?_
 refine AWp.seq (AWp.of_vc zd ?_)
 refine AWp.seq (AWp.of_vc zd ?_)
 refine ADraw.of_sched zd (by rfl) (by rfl) zxc (by rfl) ?_
 refine za (o := (F.un (svS G s w _ o0 o1 o2 p)).obj xw) _ hx ?_
 refine za (o := (F.un (svS G s w _ o0 o1 o2 p)).obj s) _ hs ?_
 refine za (o := (F.un (svS G s w _ o0 o1 o2 p)).obj xw) _ hx ?_
 refine ⟨zf8 w.G c.T hm.hg _ _ (fun z hz => ⟨trivial, ?_⟩), trivial⟩
 refine yv ?_
 refine ze (fun c2 => ?_) (fun c2 => ?_)
 rotate_left
 ·have := yeg (w := w) (c := c) (fun hh => by have := hz.2 hh; rw [this] at c2; cases c2)
  rw [this] at h
  exact ret (h _ (by decide))
 have htile := hz.1 c2
 have htn : c.T = ((c.T.toNat : Nat) : Int) := by omega
 have htl : c.T.toNat < w.G.T.length := by omega
 have hE := yef htile
 rw [hE] at h h0
 refine AWp.seq (AWp.of_vc zd ?_)
 refine all_nil ⟨hx, hs, hr⟩ hm.hr (by omega) (by omega) _ (fun he => ?_) (fun he => ?_)
 rotate_left
 ·refine AWp.of_vc zd ?_
  refine bcne (fun c3 => ?_) (fun c3 => absurd c3 he)
  exact ret (h _ he)
 have hzero := zbj he
 refine AWp.seq (AWp.of_vc zd ?_)
 refine AWp.seq (AWp.of_vc zd ?_)
 refine x3 rfl (fun m hmf => ?_)
 obtain ⟨hW1, e1, off1, hms⟩ := hW.add hmf (slO [] [] 0)
 have hmx : m ≠ xw := fun e => by
  have := hmf.1
  rw [e, hx] at this; cases this
 have e1' : (F.un (svS G s w (.s (.slice oa w.U.length cap)) o0 o1 o2 p)).setObj m (.map [] [] 0) = F.un (svS (G.setObj m (slO [] [] 0)) s w (.s (.slice oa w.U.length cap)) o0 o1 o2 p) := e1
 rw [e1']
 have hmv0 : MvS F (G.setObj m (slO [] [] 0)) (G.setObj m (slO [] [] 0)) xw s p m w (.s (.slice oa w.U.length cap)) L L.length o0 o1 o2 c 0 [] [] 0 := ⟨hW1.S, fun _ _ _ => rfl, zb _ _ _, by omega, jg hW.hF hn, fun kd l hh => by cases hh⟩
 have hx0 := hW1.hx
 have hox := hW1.ox
 have hos := hW1.os
 have hxs := hW1.ne
 have hLl := hW.hL
 generalize G.setObj m (slO [] [] 0) = G0 at *
 refine AWp.meetA (σ := Unit) ⟨fun _ => [], fun _ => [], fun _ st' => Done st' xw s c nF (mvW w c)⟩ ?_ ?_
 rotate_left
 ·rintro _ st' hd
  refine AWp.of_vc zd ?_
  exact ret (h0 he _ hd)
 refine AWp.seq (AWp.of_vc zd ?_)
 refine AWp.block ?_
 refine AWp.loopA (σ := Nat × Store × Store × List Ent × List (Int × List Nat) × List Nat × Nat) ⟨fun x => [(0, .av (ptr xw)), (3, .av (lst 10 untC (c.U.map (uAt w)))), (5, .av (slV m)), (35, .av (lst 10 untC (c.U.map (uAt w)))), (36, .av (int (c.U.length : Nat))), (37, .av (int (x.1 : Nat)))], fun _ => [],
  fun x st' => x.1 ≤ c.U.length ∧ st' = x.2.1.un (svS x.2.2.1 s { w with U := mvL w c x.1 } (.s (.slice oa w.U.length cap)) o0 o1 o2 p) ∧ MvS x.2.1 x.2.2.1 G0 xw s p m w (.s (.slice oa w.U.length cap)) x.2.2.2.1 L.length o0 o1 o2 c x.1 x.2.2.2.2.1 x.2.2.2.2.2.1 x.2.2.2.2.2.2, fun x => c.U.length - x.1⟩ ?_ ?_
 ·refine ⟨(0, F, G0, L, [], [], 0), trivial, ⟨Nat.zero_le _, rfl, hmv0⟩, ⟨lr_ _, lr_ _, lr_ _, lr_ _, ?_, lr_ _, trivial⟩, trivial⟩
  show LV.le (.av (int ((rws untC (c.U.map (uAt w))).length : Nat))) (.av (int (c.U.length : Nat)))
  rw [zh, List.length_map]; exact lr_ _
 rintro ⟨k, F1, G1, L1, cs, bs, clk⟩ st' ⟨hk, rfl, hS⟩
 dsimp only at hk hS ⊢
 refine AWp.seq (AWp.of_vc zd ?_)
 refine AWp.seq (AWp.of_vc zd ?_)
 refine bcd (fun h1 => ?_) (fun h1 => ?_)
 rotate_left
 ·have : k = c.U.length := by omega
  subst this
  have hxk : G1.obj xw = some (.cells (wkC s c nF)) := by rw [hS.keep xw hox (Ne.symm hmx)]; exact hx0
  exact ⟨(), ⟨_, o0, o1, o2, p, vo hxk hxs, un_r (qn _ _ _ _ _ _ _ _), (kj hS.S.hs hS.S.hu).un⟩, trivial, trivial⟩
 have hlt : k < c.U.length := by omega
 obtain ⟨i, hi, hf, hid, hu, how, hin⟩ := wg (hzero c.U[k] (List.getElem_mem hlt))
 have hlm : k < (c.U.map (uAt w)).length := by rw [List.length_map]; exact hlt
 have hgm : (c.U.map (uAt w))[k] = w.U[i] := by rw [List.getElem_map, hu]
 have hlU : (c.U.map (uAt w)).length = c.U.length := List.length_map ..
 have hsu : ∀ kd n, yh { w with U := mvL w c k } kd c.T n = yh w kd c.T n := fun _ _ => rfl
 have hm1 := yci hm c k
 refine AWp.seq (AWp.block ?_)
 refine AWp.seq (AWp.of_vc zd ?_)
 refine ⟨k, rfl, za _ (zj hlm) ?_⟩
 rw [hgm]
 refine AWp.meetA (σ := Store × List (Int × List Nat) × List Nat × Nat) ⟨fun _ => [(0, .av (ptr xw)), (3, .av (lst 10 untC (c.U.map (uAt w)))), (5, .av (slV m)), (6, .av (int (k : Nat))), (7, .bx 7 0), (35, .av (lst 10 untC (c.U.map (uAt w)))), (36, .av (int (c.U.length : Nat))), (37, .av (int (k : Nat)))], fun _ => [(7, untC w.U[i])],
  fun x st' => st' = F1.un (svS x.1 s { w with U := mvL w c k } (.s (.slice oa w.U.length cap)) o0 o1 o2 p) ∧ MvS F1 x.1 G0 xw s p m w (.s (.slice oa w.U.length cap)) L1 L.length o0 o1 o2 c k x.2.1 x.2.2.1 x.2.2.2 ∧ getI x.2.1 w.U[i].kind = some (yh w w.U[i].kind c.T c.U.length)⟩ ?_ ?_
 ·have hmo : (F1.un (svS G1 s { w with U := mvL w c k } (.s (.slice oa w.U.length cap)) o0 o1 o2 p)).obj m = some (slO cs bs clk) := vo hS.hm hms
  have hxk : G1.obj xw = some (.cells (wkC s c nF)) := by rw [hS.keep xw hox (Ne.symm hmx)]; exact hx0
  have hx1 : (F1.un (svS G1 s { w with U := mvL w c k } (.s (.slice oa w.U.length cap)) o0 o1 o2 p)).obj xw = some (.cells (wkC s c nF)) := vo hxk hxs
  have hs1 : (F1.un (svS G1 s { w with U := mvL w c k } (.s (.slice oa w.U.length cap)) o0 o1 o2 p)).obj s = some (.cells (svC { w with U := mvL w c k } (.s (.slice oa w.U.length cap)) o0 o1 o2 p)) := un_r (qn _ _ _ _ _ _ _ _)
  have hr1 : RowsQ 10 untC (F1.un (svS G1 s { w with U := mvL w c k } (.s (.slice oa w.U.length cap)) o0 o1 o2 p)) (.s (.slice oa w.U.length cap)) (mvL w c k) := (kj hS.S.hs hS.S.hu).un
  refine AWp.of_vc zd ?_
  refine yi rfl (it := ti181) (ie := ti36) (ik := ti3) rfl rfl rfl rfl hmo rfl (qA w.U[i].kind) (fun e he => ?_) ?_
  ·obtain ⟨e, _, rfl⟩ := List.mem_map.1 he
   rfl
  rw [zpu]
  cases hg : getI cs w.U[i].kind with
  | some l =>
   have hl := hS.sl _ _ hg
   rw [hl] at hg
   exact ⟨(G1, cs, bs, clk), ⟨rfl, hS, hg⟩, ⟨lr_ _, lr_ _, lr_ _, lr_ _, lr_ _, lr_ _, lr_ _, lr_ _, trivial⟩, ⟨rfl, trivial⟩⟩
  | none =>
   dsimp only
   refine ADraw.of_sched zd (by rfl) (by rfl) zom (by rfl) ?_
   refine za (o := (F1.un (svS G1 s _ _ o0 o1 o2 p)).obj xw) _ hx1 ?_
   refine ⟨zb2 ⟨hx1, hs1, hr1⟩ hm1 w.U[i].kind c.T.toNat htl c.T htn (rws untC (c.U.map (uAt w))).length (by rw [zh, hlU]; omega) _ ⟨?_, ?_⟩, trivial⟩
   ·repeat (first | exact trivial | refine ⟨rfl, ?_⟩ | refine ⟨za (o := (F1.un (svS G1 s _ _ o0 o1 o2 p)).obj xw) _ hx1 rfl, ?_⟩)
   rw [hsu, zh, hlU]
   refine ⟨qi (.inl rfl) rfl (it := ti181) (ik := ti3) rfl rfl rfl (es := cs.map (entI fun l => ints (natI l))) (bs := bs) (clk := clk) (k := int w.U[i].kind) (v := ints (natI (yh w w.U[i].kind c.T c.U.length))) hmo rfl rfl (qA w.U[i].kind) (fun e he => ?_) (fun e1 he hq => ?_) ?_, trivial⟩
   ·obtain ⟨e, _, rfl⟩ := List.mem_map.1 he
    rfl
   ·obtain ⟨g1, _, rfl⟩ := List.mem_map.1 he
    have : w.U[i].kind = g1.1 := by simpa [qA, entI, int] using hq
    show int g1.1 = _
    rw [this]
   obtain ⟨bs', clk', hput⟩ := zaq (fun l => ints (natI l)) cs bs clk w.U[i].kind (yh w w.U[i].kind c.T c.U.length)
   have hput : xi (cs.map (entI fun l => ints (natI l))) bs clk (qA w.U[i].kind) (int w.U[i].kind) (ints (natI (yh w w.U[i].kind c.T c.U.length))) = slO (putI cs w.U[i].kind (yh w w.U[i].kind c.T c.U.length)) bs' clk' := hput
   obtain ⟨u1, u2⟩ := hS.upd hms off1 (cs' := putI cs w.U[i].kind (yh w w.U[i].kind c.T c.U.length)) bs' clk' (fun kd l hh => by
    rw [wt] at hh
    by_cases e : kd = w.U[i].kind
    ·rw [if_pos e] at hh
     rw [e]; exact (Option.some.inj hh).symm
    ·rw [if_neg e] at hh
     exact hS.sl kd l hh)
   rw [hput, u2]
   refine ⟨trivial, (_, _, _, _), ⟨rfl, u1, ?_⟩, ⟨lr_ _, lr_ _, lr_ _, lr_ _, lr_ _, lr_ _, lr_ _, lr_ _, trivial⟩, ⟨rfl, trivial⟩⟩
   rw [wt, if_pos rfl]
 rintro ⟨G2, cs2, bs2, clk2⟩ _ ⟨rfl, hS2, hg2⟩
 dsimp only at hS2 hg2 ⊢
 have hmo : (F1.un (svS G2 s { w with U := mvL w c k } (.s (.slice oa w.U.length cap)) o0 o1 o2 p)).obj m = some (slO cs2 bs2 clk2) := vo hS2.hm hms
 have hxk : G2.obj xw = some (.cells (wkC s c nF)) := by rw [hS2.keep xw hox (Ne.symm hmx)]; exact hx0
 have hx1 : (F1.un (svS G2 s { w with U := mvL w c k } (.s (.slice oa w.U.length cap)) o0 o1 o2 p)).obj xw = some (.cells (wkC s c nF)) := vo hxk hxs
 have hiL : i < (mvL w c k).length := by rw [x5]; exact hi
 refine AWp.of_vc zd ?_
 refine za (o := (F1.un (svS G2 s _ _ o0 o1 o2 p)).obj xw) _ hx1 ?_
 refine yi rfl (it := ti181) (ie := ti36) (ik := ti3) rfl rfl rfl rfl hmo rfl (qA w.U[i].kind) (fun e he => ?_) ?_
 ·obtain ⟨e, _, rfl⟩ := List.mem_map.1 he
  rfl
 rw [zba, hg2]
 have hput : ∀ g, g = zaa w c k w.U[i].kind → (mvL w c k).set i (mvG g w.U[i]) = mvL w c (k + 1) := fun g hg => by
  rw [zxy hlt hf hi, hg]
 have hlen := ja (yh w w.U[i].kind c.T c.U.length)
 have hid' : (mvL w c k)[i].id = w.U[i].id := zpl w c k i hi
 have fin : ∀ {F3 G3 L3}, StandR F3 G3 s p { w with U := mvL w c (k + 1) } (.s (.slice oa w.U.length cap)) L3 o0 o1 o2 → (∀ q, offB (.s (.slice oa w.U.length cap)) q → G3.obj q = G2.obj q) → L3.length ≤ L1.length + 1 → (∀ e ∈ L3, e.2.ok) → MvS F3 G3 G0 xw s p m w (.s (.slice oa w.U.length cap)) L3 L.length o0 o1 o2 c (k + 1) cs2 bs2 clk2 := fun g1 g2 g3 g4 =>
  ⟨g1, fun q h1 h2 => (g2 q h1).trans (hS2.keep q h1 h2), (g2 m off1).trans hS2.hm, by have := hS2.hl; omega, g4, hS2.sl⟩
 have hdec : c.U.length - (k + 1) < c.U.length - k := by omega
 have hL1 := hS2.hl
 refine bcd (fun c5 => ?_) (fun c5 => ?_)
 ·rw [zh, hlen] at c5
  have hk2 : k < (natI (yh w w.U[i].kind c.T c.U.length)).length := by rw [hlen]; omega
  have hk3 : k < (yh w w.U[i].kind c.T c.U.length).length := by omega
  have hg9 : (natI (yh w w.U[i].kind c.T c.U.length))[k] = zaa w c k w.U[i].kind := by
   rw [zj0 hk3]; exact List.getElem_map ..
  refine ⟨k, rfl, za _ (zj hk2) ?_⟩
  refine ADraw.of_sched zd (by rfl) (by rfl) zhi (by rfl) ?_
  refine za (o := (F1.un (svS G2 s _ _ o0 o1 o2 p)).obj xw) _ hx1 ?_
  refine ⟨zcv hS2.S hos (zdo hm.hr c k) (by show (mvL w c k).length ≤ _; rw [x5]; omega) (by omega) hS2.ok hiL (mvG ((natI (yh w w.U[i].kind c.T c.U.length))[k]'hk2) w.U[i]) hid' (show w.U[i].pos.ok from hn _ (List.getElem_mem hi)) _ (fun F3 G3 L3 g1 g2 g3 g4 => ⟨trivial, ?_⟩), trivial⟩
  dsimp only at g1 ⊢
  rw [hput _ hg9] at g1 ⊢
  refine AWp.of_vc zd ?_
  refine in64 (by omega) ?_
  exact ⟨(k + 1, F3, G3, L3, cs2, bs2, clk2), hdec, ⟨by dsimp only; omega, rfl, fin g1 g2 g3 g4⟩, ⟨lr_ _, lr_ _, lr_ _, lr_ _, lr_ _, lr_ _, trivial⟩, trivial⟩
 ·rw [zh, hlen] at c5
  have hk3 : ¬ k < (yh w w.U[i].kind c.T c.U.length).length := by omega
  have hg9 : c.T = zaa w c k w.U[i].kind := (zj1 hk3).symm
  refine ADraw.of_sched zd (by rfl) (by rfl) zhi (by rfl) ?_
  refine za (o := (F1.un (svS G2 s _ _ o0 o1 o2 p)).obj xw) _ hx1 ?_
  refine ⟨zcv hS2.S hos (zdo hm.hr c k) (by show (mvL w c k).length ≤ _; rw [x5]; omega) (by omega) hS2.ok hiL (mvG c.T w.U[i]) hid' (show w.U[i].pos.ok from hn _ (List.getElem_mem hi)) _ (fun F3 G3 L3 g1 g2 g3 g4 => ⟨trivial, ?_⟩), trivial⟩
  dsimp only at g1 ⊢
  rw [hput _ hg9] at g1 ⊢
  refine AWp.of_vc zd ?_
  refine in64 (by omega) ?_
  exact ⟨(k + 1, F3, G3, L3, cs2, bs2, clk2), hdec, ⟨by dsimp only; omega, rfl, fin g1 g2 g3 g4⟩, ⟨lr_ _, lr_ _, lr_ _, lr_ _, lr_ _, lr_ _, trivial⟩, trivial⟩
end Go.Proofs
namespace Go.Proofs
open Go Go.V
theorem zaw (g : Gnd) (hg : gndP g) (t : Nat) (ht : t < g.T.length) (tI : Int) (htI : tI = (t : Int)) (st : Store) (R : AV → Store → Prop) (h : R (.agg (vecC (cenV g t))) st) : ACalls Tryz.prog 25 [.agg (gndC g), int tI] st R := by
 subst htI
 have ha := zq hg
 have htb := w7 hg (t := t) (by omega)
 have hq := trem (t := t) hg.1.1
 have hq2 := tquo (t := t) hg.1.1
 have hg1 := hg.1
 have hg2 := hg.2.1
 unfold cenV tx ty at h
 rw [← hq, ← hq2] at h
 refine ACalls.of_body (c := cfg 18) zd Tryz.func25 (by rfl) (by rfl) (by rfl) (by rfl) ?_
 refine ADraw.of_sched zd (by rfl) (by rfl) yb8 (by rfl) ?_
 refine ⟨by omega, ?_⟩
 refine in64 (by omega) ?_
 refine in64 (by omega) ?_
 refine ⟨by omega, ?_⟩
 refine in64 (by omega) ?_
 refine in64 (by omega) ?_
 refine in64 (by omega) ?_
 refine ⟨⟨(by repeat (first | exact trivial | refine ⟨rfl, ?_⟩ | refine ⟨optR (optR (optR (za _ (zb _ _ _) rfl))), ?_⟩)), ?_⟩, trivial⟩
 exact ret h
end Go.Proofs
namespace Go.Proofs
open Go Go.V
theorem yeu : vg 2 mvE mvW := by
 intro F G xw s p w v L o0 o1 o2 c hW hm hn hc hp hk R h h0
 have hx := hW.x (F' := F) (q0 := o0) (q1 := o1) (q2 := o2)
 have hok := (Cmd.ok2 hk).1 hc.1
 refine ACalls.of_body (c := cfg 34) zd Tryz.func79 (by rfl) (by rfl) (by rfl) (by rfl) ?_
 refine za (o := (F.un (svS G s w v o0 o1 o2 p)).obj xw) _ hx ?_
 refine bceq (fun c1 => absurd (hk.symm.trans c1) (by decide)) (fun _ => ?_)
 refine bceq (fun _ => ?_) (fun c1 => absurd hk c1)
 refine zly hW (mayF hm) hn hok.1.1.2 _ (fun S' he => ret (h S' he)) (fun he S' hd => ret (h0 he S' hd))
end Go.Proofs
