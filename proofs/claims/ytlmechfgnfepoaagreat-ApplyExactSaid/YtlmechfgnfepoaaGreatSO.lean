/- The ground on which laws of thronglaw23 are proved: contracts of functions and plain lemmas; no condition beyond the row's own. -/
import Derived.Test.YtlmechfgnfepoaaGreatSK
import Derived.Test.YtlmechfgnfepoaaGreatSN
import Derived.Test.YtlmechfgnfepoaaGreatSM
set_option linter.unusedSimpArgs false
set_option linter.unusedVariables false
namespace Go.Proofs
open Go Go.V
theorem zij (k : Int) : 0 ≤ j9 k ∧ j9 k ≤ 3 := by unfold j9; split <;> decide
set_option maxHeartbeats 1000000 in
set_option maxRecDepth 20000 in
/-- Good places about a tile, told by a place of work. -/
theorem zl2 {S : Store} {xw s p : Nat} {w : Wld} {v o0 o1 o2 : AV} {c : Cmd} (ha : AtW S xw s p w v o0 o1 o2 c nF) (hm : MayF w) (k : Int) (t : Nat) (ht : t < w.G.T.length) (n : Nat) (hn : n ≤ 1000) (R : AV → Store → Prop) (h : R (ints (natI (z8 w k (t : Int) n))) S) : ACalls Tryz.prog 164 [ptr xw, int k, int t, int n] S R := by
 obtain ⟨hx, hs, hv⟩ := ha
 obtain ⟨oa, cap, e, hget⟩ := hv.form
 subst e
 refine ACalls.of_body (c := cfg 53) ze Tryz.func164 (by rfl) (by rfl) (by rfl) (by rfl) ?_
 refine qr k _ _ ?_
 refine ADraw.of_sched ze (by rfl) (by rfl) yap (by rfl) ?_
 refine za (o := S.obj xw) _ hx ?_
 refine za (o := S.obj s) _ hs ?_
 refine za (o := S.obj xw) _ hx ?_
 refine za (o := S.obj xw) _ hx ?_
 refine za (o := S.obj s) _ hs ?_
 refine za (o := S.obj xw) _ hx ?_
 refine za (o := S.obj s) _ hs ?_
 refine ⟨zqt w.G hm.hg w.B (by have := hm.hB; omega) hm.hb (kCls k) (j9 k) (zij k) _ _ (fun b hf => ?_), trivial⟩
 have hbx : xw ≠ b := fun e => by have := hf.1; rw [← e, hx] at this; cases this
 have hbs : s ≠ b := fun e => by have := hf.1; rw [← e, hs] at this; cases this
 have hx2 : (S.setObj b (.cells (netC w.G w.B (kCls k) (j9 k)))).obj xw = some (.cells (wkC s c nF)) := (zh hbx).trans hx
 have hs2 : (S.setObj b (.cells (netC w.G w.B (kCls k) (j9 k)))).obj s = some (.cells (svC w (.s (.slice oa w.U.length cap)) o0 o1 o2 p)) := (zh hbs).trans hs
 have hb2 : (S.setObj b (.cells (netC w.G w.B (kCls k) (j9 k)))).obj b = some (.cells (netC w.G w.B (kCls k) (j9 k))) := zb _ _ _
 have hback : (S.setObj b (.cells (netC w.G w.B (kCls k) (j9 k)))).Has S := jq hf.1
 generalize S.setObj b (.cells (netC w.G w.B (kCls k) (j9 k))) = S2 at *
 refine ⟨?_, ?_⟩
 ·repeat (first | exact trivial | refine ⟨rfl, ?_⟩ | refine ⟨za (o := S2.obj xw) _ hx2 rfl, ?_⟩ | refine ⟨za (o := S2.obj s) _ hs2 rfl, ?_⟩)
 refine za (o := S2.obj b) _ hb2 ?_
 refine ⟨zrc w.G hm.hg (jr w.G w.B (kCls k) (j9 k)) (j9 k) (zij k) t ht n hn _ _ ⟨(by repeat (first | exact trivial | refine ⟨rfl, ?_⟩ | refine ⟨optR (optR (optR (za _ (zb _ _ _) rfl))), ?_⟩)), ?_⟩, trivial⟩
 refine ⟨⟨trivial, ?_⟩, trivial⟩
 exact x6 (ar_ _) hback h
theorem zdj {S : Store} {xw s p : Nat} {w : Wld} {v o0 o1 o2 : AV} {c : Cmd} (ha : AtW S xw s p w v o0 o1 o2 c nF) (hm : MayF w) (k : Int) (t : Nat) (ht : t < w.G.T.length) (tI : Int) (htI : tI = (t : Int)) (n : Nat) (hn : n ≤ 1000) (R : AV → Store → Prop) (h : R (ints (natI (z8 w k tI n))) S) : ACalls Tryz.prog 164 [ptr xw, int k, int tI, int n] S R := by
 subst htI
 exact zl2 ha hm k t ht n hn R h
/-- A unit comes out beside a tile. -/
def outW (w : Wld) (i t : Nat) (hi : i < w.U.length) : Wld := { w with U := w.U.set i (unlU w.U[i] (cenV w.G t)) }
set_option maxHeartbeats 2000000 in
set_option maxRecDepth 20000 in
theorem zrf {F G : Store} {xw s p : Nat} {w : Wld} {v : AV} {L : List Ent} {o0 o1 o2 : AV} {c : Cmd} (hW : Work F G xw s p w v L o0 o1 o2 c nF) (hm : MayF w) (hn : ∀ u ∈ w.U, u.pos.ok) {i : Nat} (hi : i < w.U.length) (t : Nat) (ht : t < w.G.T.length) (htI : c.T = (t : Int)) (R : AV → Store → Prop)
  (h : ∀ S', outF w w.U[i] c.T = none → R (V.bool false) S')
  (h1 : ∀ t2, outF w w.U[i] c.T = some t2 → t2 < w.G.T.length → ∀ F' G' L' q0 q1 q2, Work F' G' xw s p (outW w i t2 hi) v L' q0 q1 q2 c nF → (∀ q, offB v q → G'.obj q = G.obj q) → R (V.bool true) (F'.un (svS G' s (outW w i t2 hi) v q0 q1 q2 p))) : ACalls Tryz.prog 175 [ptr xw, .agg (untC w.U[i])] (F.un (svS G s w v o0 o1 o2 p)) R := by
 have hU := hm.hU
 have hB := hm.hB
 have hx := hW.x (F' := F) (q0 := o0) (q1 := o1) (q2 := o2)
 have hs := hW.s (F' := F) (q0 := o0) (q1 := o1) (q2 := o2)
 have hr := hW.r (F' := F) (q0 := o0) (q1 := o1) (q2 := o2)
 obtain ⟨oa, cap, e, hget⟩ := hW.S.hu.form
 subst e
 refine ACalls.of_body (c := cfg 52) ze Tryz.func175 (by rfl) (by rfl) (by rfl) (by rfl) ?_
 refine ADraw.of_sched ze (by rfl) (by rfl) yae (by rfl) ?_
 refine za (o := (F.un (svS G s w _ o0 o1 o2 p)).obj xw) _ hx ?_
 refine ⟨zdj ⟨hx, hs, hr⟩ hm w.U[i].kind t ht c.T htI 64 (by decide) _ ⟨?_, ?_⟩, trivial⟩
 ·repeat (first | exact trivial | refine ⟨rfl, ?_⟩ | refine ⟨za (o := (F.un (svS G s w _ o0 o1 o2 p)).obj xw) _ hx rfl, ?_⟩)
 have hlen := zgw w w.U[i].kind c.T 64
 have hlt3 := fun (t2 : Nat) (h2 : t2 ∈ z8 w w.U[i].kind c.T 64) => (ze1 h2).1
 have hsome := fun (j : Nat) (hj : j < (z8 w (w.U[i]'hi).kind c.T 64).length) => zke (w := w) (u := w.U[i]'hi) (tile := c.T) (j := j) hj
 have hnone := zkf (w := w) (u := w.U[i]'hi) (tile := c.T)
 generalize z8 w w.U[i].kind c.T 64 = sl at *
 refine AWp.loop (σ := Nat × Store × AV × AV × AV) ⟨fun x => [(0, .av (ptr xw)), (3, .bx 3 0), (16, .av (ints (natI sl))), (17, .av (int (sl.length : Nat))), (18, .av (int (x.1 : Nat)))], fun _ => [(3, untC w.U[i])],
  fun x st' => x.1 ≤ sl.length ∧ st' = x.2.1.un (svS G s w (.s (.slice oa w.U.length cap)) x.2.2.1 x.2.2.2.1 x.2.2.2.2 p) ∧ StandR x.2.1 G s p w (.s (.slice oa w.U.length cap)) L x.2.2.1 x.2.2.2.1 x.2.2.2.2 ∧ ∀ j, (hj : j < sl.length) → j < x.1 → ¬ y5 w w.U[i].id w.U[i].kind (cenV w.G sl[j]), fun x => sl.length - x.1⟩ ze ?_ ?_
 ·refine ⟨(0, F, o0, o1, o2), trivial, ⟨Nat.zero_le _, rfl, hW.S, fun j _ hj => by dsimp only at hj; omega⟩, ⟨lr_ _, lr_ _, lr_ _, ?_, lr_ _, trivial⟩, ⟨rfl, trivial⟩⟩
  show LV.le (.av (int ((rws intC (natI sl)).length : Nat))) (.av (int (sl.length : Nat)))
  rw [zf, qq]; exact lr_ _
 rintro ⟨j, F1, q0, q1, q2⟩ st' ⟨hj, rfl, hS1, hall⟩
 dsimp only at hj hS1 hall ⊢
 refine bcd (fun c1 => ?_) (fun c1 => ?_)
 rotate_left
 ·exact ret (h _ (hnone fun j' hj' => hall j' hj' (by omega)))
 have hlt : j < sl.length := by omega
 have hlt2 : j < (natI sl).length := by rw [qq]; exact hlt
 have hsl := hlt3 _ (List.getElem_mem hlt)
 have hnat : (natI sl)[j]'hlt2 = ((sl[j] : Nat) : Int) := List.getElem_map ..
 have hx1 := hW.x (F' := F1) (q0 := q0) (q1 := q1) (q2 := q2)
 have hs1 := hW.s (F' := F1) (q0 := q0) (q1 := q1) (q2 := q2)
 have ha := zt hm.hg
 refine ⟨j, rfl, za _ (zi hlt2) ?_⟩
 refine za (o := (F1.un (svS G s w _ q0 q1 q2 p)).obj xw) _ hx1 ?_
 refine za (o := (F1.un (svS G s w _ q0 q1 q2 p)).obj s) _ hs1 ?_
 refine zfj w.G hm.hg sl[j] (by omega) _ hnat _ _ ?_
 refine ADraw.of_sched ze (by rfl) (by rfl) yad (by rfl) ?_
 refine za (o := (F1.un (svS G s w _ q0 q1 q2 p)).obj xw) _ hx1 ?_
 refine ⟨zdm hS1 hm.hg (by omega) hm.hb hm.hr (by omega) hn hW.hL hW.hF w.U[i].id w.U[i].kind (cenV w.G sl[j]) (zap hm.hg hsl) _ (fun z F2 a0 a1 a2 hz hS2 => ?_), trivial⟩
 have hx2 := hW.x (F' := F2) (q0 := a0) (q1 := a1) (q2 := a2)
 have hs2 := hW.s (F' := F2) (q0 := a0) (q1 := a1) (q2 := a2)
 refine ⟨trivial, ?_⟩
 refine zd (fun c2 => ?_) (fun c2 => ?_)
 rotate_left
 ·refine in64 (by omega) ?_
  refine ⟨(j + 1, F2, a0, a1, a2), ?_, ⟨by dsimp only; omega, rfl, hS2, fun j' hj' hjj => ?_⟩, ⟨lr_ _, lr_ _, lr_ _, lr_ _, lr_ _, trivial⟩, ⟨rfl, trivial⟩⟩
  ·show sl.length - (j + 1) < sl.length - j
   omega
  ·by_cases e : j' = j
   ·subst e
    intro hh
    have := hz.2 hh
    rw [this] at c2; cases c2
   ·exact hall j' hj' (by dsimp only at hjj; omega)
 have hcl := hz.1 c2
 have hout := hsome j hlt (fun i' hi' hii => hall i' hi' hii) hcl
 refine ADraw.of_sched ze (by rfl) (by rfl) yac (by rfl) ?_
 refine ⟨⟨(by repeat (first | exact trivial | refine ⟨rfl, ?_⟩ | refine ⟨optR (optR (optR (za _ (zb _ _ _) rfl))), ?_⟩)), ?_⟩, trivial⟩
 refine ⟨⟨trivial, ?_⟩, trivial⟩
 refine ADraw.of_sched ze (by rfl) (by rfl) yab (by rfl) ?_
 refine za (o := (F2.un (svS G s w _ a0 a1 a2 p)).obj xw) _ hx2 ?_
 refine ⟨zso hS2 hW.os hm.hr (by omega) (by have := hW.hL; omega) (kj hW.hF hn) hi (unlU w.U[i] (cenV w.G sl[j])) rfl (zap hm.hg hsl) _ (fun F3 G3 g1 g2 => ⟨trivial, ?_⟩), trivial⟩
 have hF3 := zmy hW.hF hm.hr hi (u := unlU w.U[i] (cenV w.G sl[j])) rfl
 refine ret (h1 sl[j] hout hsl F3 G3 _ a0 a1 a2 ⟨g1, by rw [g2 xw hW.ox]; exact hW.hx, hW.ox, hW.os, ?_, hF3⟩ g2)
 obtain ⟨_, _, _, _, _, _, _, _, inv⟩ := g1.hc
 exact zmz inv.n1 hF3
end Go.Proofs
namespace Go.Proofs
open Go Go.V
theorem zie {U : List Unt} {i : Nat} {x u : Unt} (h : u ∈ U.set i x) : u = x ∨ u ∈ U := by
 rcases List.mem_or_eq_of_mem_set h with h | h
 ·exact .inr h
 ·exact .inl h
theorem MayF.put {w : Wld} (h : MayF w) {i : Nat} (hi : i < w.U.length) {u : Unt} (hid : w.U[i].id = u.id) (hk : k9 u.kind) : MayF { w with U := w.U.set i u } :=
 ⟨h.hg, h.hB, by show (w.U.set i u).length ≤ _; rw [List.length_set]; exact h.hU, h.hT, h.hb, fun x hx => by
  rcases zie (show x ∈ w.U.set i u from hx) with rfl | hx
  ·exact hk
  ·exact h.hk x hx, ze8 h.hr hi hid, h.hn1, h.hn2⟩
theorem yhx {w : Wld} {c : Cmd} (h : carE w c.P c.N ≠ 0) : ulE w c = carE w c.P c.N := by unfold ulE; rw [if_neg h]
theorem yhw {w : Wld} {c : Cmd} (h : carE w c.P c.N = 0) (h2 : ¬ (0 ≤ c.T ∧ c.T < w.G.W * w.G.H)) : ulE w c = 3 := by unfold ulE; rw [if_pos h, if_neg h2]
theorem yhv {w : Wld} {c : Cmd} (h : carE w c.P c.N = 0) (h2 : 0 ≤ c.T ∧ c.T < w.G.W * w.G.H) (h3 : farP (cenV w.G c.T.toNat) (uAt w c.N).pos) : ulE w c = 8 := by unfold ulE; rw [if_pos h, if_pos h2, if_pos h3]
theorem yhu {w : Wld} {c : Cmd} (h : carE w c.P c.N = 0) (h2 : 0 ≤ c.T ∧ c.T < w.G.W * w.G.H) (h3 : ¬ farP (cenV w.G c.T.toNat) (uAt w c.N).pos) (h4 : unl c.T (inOf w.U c.N) w = none) : ulE w c = 5 := by unfold ulE; rw [if_pos h, if_pos h2, if_neg h3, h4]
theorem yht {w : Wld} {c : Cmd} (h : carE w c.P c.N = 0) (h2 : 0 ≤ c.T ∧ c.T < w.G.W * w.G.H) (h3 : ¬ farP (cenV w.G c.T.toNat) (uAt w c.N).pos) {x : Wld} (h4 : unl c.T (inOf w.U c.N) w = some x) : ulE w c = 0 ∧ ulW w c = x := by
 unfold ulE ulW
 rw [if_pos h, if_pos h2, if_neg h3, h4]
 exact ⟨rfl, rfl⟩
theorem zku {w : Wld} (hr : yk w.U) {n id : Int} (h : id ∈ inOf w.U n) : ∃ i, ∃ hi : i < w.U.length, yp w.U id = some i := by
 unfold inOf at h
 obtain ⟨u, hu, rfl⟩ := List.mem_map.1 h
 obtain ⟨hu, _⟩ := List.mem_filter.1 hu
 obtain ⟨i, hi, rfl⟩ := List.getElem_of_mem hu
 exact ⟨i, hi, zel hr hi rfl⟩
set_option maxHeartbeats 2000000 in
set_option maxRecDepth 20000 in
theorem zi8 {F G : Store} {xw s p : Nat} {w : Wld} {v : AV} {L : List Ent} {o0 o1 o2 : AV} {c : Cmd} (hW : Work F G xw s p w v L o0 o1 o2 c nF) (hm : MayF w) (hn : ∀ u ∈ w.U, u.pos.ok) (R : AV → Store → Prop)
  (h : ∀ S', ulE w c ≠ 0 → R (int (ulE w c)) S') (h0 : ulE w c = 0 → ∀ S', Done S' xw s c nF (ulW w c) → R (int 0) S') : ACalls Tryz.prog 124 [ptr xw] (F.un (svS G s w v o0 o1 o2 p)) R := by
 have hU := hm.hU
 have hx := hW.x (F' := F) (q0 := o0) (q1 := o1) (q2 := o2)
 have hs := hW.s (F' := F) (q0 := o0) (q1 := o1) (q2 := o2)
 have hr := hW.r (F' := F) (q0 := o0) (q1 := o1) (q2 := o2)
 obtain ⟨oa, cap, e, hget⟩ := hW.S.hu.form
 subst e
 have ha := zt hm.hg
 refine ACalls.of_body (c := cfg 96) ze Tryz.func124 (by rfl) (by rfl) (by rfl) (by rfl) ?_
 refine zd4 ⟨hx, hs, hr⟩ hm.hr (by omega) _ ?_
 refine bcne (fun c1 => ?_) (fun c1 => ?_)
 ·have := yhx c1
  rw [this] at h
  exact ret (h _ c1)
 obtain ⟨hask, hroom⟩ := zco c1
 obtain ⟨ix, hix, hfx, hidx, hux, _, _⟩ := qt hask
 refine ADraw.of_sched ze (by rfl) (by rfl) ya4 (by rfl) ?_
 refine za (o := (F.un (svS G s w _ o0 o1 o2 p)).obj xw) _ hx ?_
 refine za (o := (F.un (svS G s w _ o0 o1 o2 p)).obj s) _ hs ?_
 refine za (o := (F.un (svS G s w _ o0 o1 o2 p)).obj xw) _ hx ?_
 refine ⟨zik w.G c.T hm.hg _ _ (fun z hz => ⟨trivial, ?_⟩), trivial⟩
 refine ⟨⟨trivial, ?_⟩, trivial⟩
 refine yc ?_
 refine zd (fun c2 => ?_) (fun c2 => ?_)
 rotate_left
 ·have := yhw c1 (fun hh => by have := hz.2 hh; rw [this] at c2; cases c2)
  rw [this] at h
  exact ret (h _ (by decide))
 have htile := hz.1 c2
 have htn : c.T = ((c.T.toNat : Nat) : Int) := by omega
 have htl : c.T.toNat < w.G.T.length := by omega
 have hup : (uAt w c.N).pos.ok := ycy hn c.N
 refine ADraw.of_sched ze (by rfl) (by rfl) ya3 (by rfl) ?_
 refine za (o := (F.un (svS G s w _ o0 o1 o2 p)).obj xw) _ hx ?_
 refine za (o := (F.un (svS G s w _ o0 o1 o2 p)).obj s) _ hs ?_
 refine za (o := (F.un (svS G s w _ o0 o1 o2 p)).obj xw) _ hx ?_
 refine ⟨zfj w.G hm.hg c.T.toNat (by omega) _ htn _ _ ⟨?_, ?_⟩, trivial⟩
 ·repeat (first | exact trivial | refine ⟨rfl, ?_⟩ | refine ⟨za (o := (F.un (svS G s w _ o0 o1 o2 p)).obj xw) _ hx rfl, ?_⟩ | refine ⟨za (o := (F.un (svS G s w _ o0 o1 o2 p)).obj s) _ hs rfl, ?_⟩)
 refine ⟨zou (cenV w.G c.T.toNat) (uAt w c.N).pos (zap hm.hg htl) hup _ _ ⟨(by repeat (first | exact trivial | refine ⟨rfl, ?_⟩ | refine ⟨za (o := (F.un (svS G s w _ o0 o1 o2 p)).obj xw) _ hx rfl, ?_⟩ | refine ⟨za (o := (F.un (svS G s w _ o0 o1 o2 p)).obj s) _ hs rfl, ?_⟩)), ?_⟩, trivial⟩
 refine ⟨⟨trivial, ?_⟩, trivial⟩
 refine bcd (fun c3 => ?_) (fun c3 => ?_)
 ·have := yhv c1 htile c3
  rw [this] at h
  exact ret (h _ (by decide))
 refine ADraw.of_sched ze (by rfl) (by rfl) ya2 (by rfl) ?_
 refine za (o := (F.un (svS G s w _ o0 o1 o2 p)).obj xw) _ hx ?_
 refine za (o := (F.un (svS G s w _ o0 o1 o2 p)).obj s) _ hs ?_
 rw [hux, hidx]
 refine ⟨zoq hr (by omega) c.N _ ⟨(by repeat (first | exact trivial | refine ⟨rfl, ?_⟩ | refine ⟨za (o := (F.un (svS G s w _ o0 o1 o2 p)).obj xw) _ hx rfl, ?_⟩ | refine ⟨za (o := (F.un (svS G s w _ o0 o1 o2 p)).obj s) _ hs rfl, ?_⟩)), ?_⟩, trivial⟩
 have e4 := fun h4 => yhu (w := w) (c := c) c1 htile c3 h4
 have e5 := fun x h4 => yht (w := w) (c := c) c1 htile c3 (x := x) h4
 have hids := fun id (hid : id ∈ inOf w.U c.N) => zku (w := w) hm.hr hid
 have hin : (inOf w.U c.N).length ≤ w.U.length := by unfold inOf; rw [List.length_map]; exact List.length_filter_le _ _
 generalize inOf w.U c.N = ids at *
 refine AWp.loop (σ := Nat × Wld × Store × Store × List Ent × AV × AV × AV) ⟨fun x => [(0, .av (ptr xw)), (62, .av (ints ids)), (63, .av (int (ids.length : Nat))), (64, .av (int (x.1 : Nat)))], fun _ => [],
  fun x st' => x.1 ≤ ids.length ∧ st' = x.2.2.1.un (svS x.2.2.2.1 s x.2.1 (.s (.slice oa w.U.length cap)) x.2.2.2.2.2.1 x.2.2.2.2.2.2.1 x.2.2.2.2.2.2.2 p) ∧ Work x.2.2.1 x.2.2.2.1 xw s p x.2.1 (.s (.slice oa w.U.length cap)) x.2.2.2.2.1 x.2.2.2.2.2.1 x.2.2.2.2.2.2.1 x.2.2.2.2.2.2.2 c nF ∧ unl c.T (ids.drop x.1) x.2.1 = unl c.T ids w ∧ MayF x.2.1 ∧ (∀ u ∈ x.2.1.U, u.pos.ok) ∧ x.2.1.U.length = w.U.length ∧ x.2.1.G = w.G ∧ ∀ id, yp x.2.1.U id = yp w.U id, fun x => ids.length - x.1⟩ ze ?_ ?_
 ·refine ⟨(0, w, F, G, L, o0, o1, o2), trivial, ⟨Nat.zero_le _, rfl, hW, by rw [List.drop_zero], hm, hn, rfl, rfl, fun _ => rfl⟩, ⟨lr_ _, lr_ _, ?_, lr_ _, trivial⟩, trivial⟩
  show LV.le (.av (int ((rws intC ids).length : Nat))) (.av (int (ids.length : Nat)))
  rw [zf]; exact lr_ _
 rintro ⟨k, wc, F1, G1, L1, q0, q1, q2⟩ st' ⟨hk, rfl, hW1, hun, hm1, hn1, hl1, hG1, hf1⟩
 dsimp only at hk hW1 hun hm1 hn1 hl1 hG1 hf1 ⊢
 have hx1 := hW1.x (F' := F1) (q0 := q0) (q1 := q1) (q2 := q2)
 have hs1 := hW1.s (F' := F1) (q0 := q0) (q1 := q1) (q2 := q2)
 have hr1 := hW1.r (F' := F1) (q0 := q0) (q1 := q1) (q2 := q2)
 refine bcd (fun h1 => ?_) (fun h1 => ?_)
 rotate_left
 ·have : k = ids.length := by omega
  subst this
  rw [List.drop_length] at hun
  obtain ⟨g1, g2⟩ := e5 wc hun.symm
  rw [g2] at h0
  exact ret (h0 g1 _ ⟨_, q0, q1, q2, p, hx1, hs1, hr1⟩)
 have hlt : k < ids.length := by omega
 obtain ⟨iu, hiu, hfu⟩ := hids _ (List.getElem_mem hlt)
 have hiu1 : iu < wc.U.length := by omega
 have hfu1 : yp wc.U ids[k] = some iu := by rw [hf1]; exact hfu
 rw [List.drop_eq_getElem_cons hlt] at hun
 refine ⟨k, rfl, za _ (zi hlt) ?_⟩
 refine za (o := (F1.un (svS G1 s wc _ q0 q1 q2 p)).obj xw) _ hx1 ?_
 refine za (o := (F1.un (svS G1 s wc _ q0 q1 q2 p)).obj s) _ hs1 ?_
 refine zep hr1 (by omega) hm1.hr ids[k] _ (fun i hi z hz => ?_)
 obtain ⟨g1, g2⟩ := zot hm1.hr hz hi
 have hzi : i = iu := by
  cases z with
  | false => rw [g2 rfl] at hfu1; cases hfu1
  | true => rw [g1 rfl] at hfu1; exact Option.some.inj hfu1
 subst hzi
 refine za (o := (F1.un (svS G1 s wc _ q0 q1 q2 p)).obj xw) _ hx1 ?_
 refine za (o := (F1.un (svS G1 s wc _ q0 q1 q2 p)).obj s) _ hs1 ?_
 have hget1 := hr1.form
 obtain ⟨oa2, cap2, e2, hget1⟩ := hget1
 simp only [AV.s.injEq, Value.slice.injEq] at e2
 obtain ⟨rfl, _, rfl⟩ := e2
 obtain ⟨b, J, rfl, hob⟩ := hget1 i hiu1
 refine ⟨i, rfl, hiu, ?_⟩
 refine za (o := (F1.un (svS G1 s wc _ q0 q1 q2 p)).obj b) _ hob ?_
 refine z7 (i := ti50) (row := untC wc.U[i]) rfl rfl (zy zm hiu1) ?_
 refine zrf hW1 hm1 hn1 hiu1 c.T.toNat (by rw [hG1]; exact htl) htn _ (fun S' hno => ?_) (fun t2 hso ht2 F2 G2 L2 a0 a1 a2 hW2 _ => ?_)
 ·rw [zh1 hiu1 hfu1 hno] at hun
  have g5 := e4 hun.symm
  rw [g5] at h
  exact ret (h _ (by decide))
 ·rw [zh0 hiu1 hfu1 hso] at hun
  refine in64 (by omega) ?_
  refine ⟨(k + 1, outW wc i t2 hiu1, F2, G2, L2, a0, a1, a2), ?_, ⟨by dsimp only; omega, rfl, hW2, hun, hm1.put hiu1 rfl (show k9 wc.U[i].kind from hm1.hk _ (List.getElem_mem hiu1)), fun u hu => ?_, ?_, hG1, fun id => ?_⟩, ⟨lr_ _, lr_ _, lr_ _, lr_ _, trivial⟩, trivial⟩
  ·show ids.length - (k + 1) < ids.length - k
   omega
  ·rcases zie (show u ∈ wc.U.set i _ from hu) with rfl | hu
   ·exact zap hm1.hg ht2
   ·exact hn1 u hu
  ·show (wc.U.set i _).length = _
   rw [List.length_set]; exact hl1
  ·show yp (wc.U.set i (unlU wc.U[i] (cenV wc.G t2))) id = _
   rw [zla hm1.hr hiu1 (u := unlU wc.U[i] (cenV wc.G t2)) rfl]
   exact hf1 id
theorem yi5 : vk 7 ulE ulW := by
 intro F G xw s p w v L o0 o1 o2 c hW hm hn hc hp hk R h h0
 have hx := hW.x (F' := F) (q0 := o0) (q1 := o1) (q2 := o2)
 refine ACalls.of_body (c := cfg 34) ze Tryz.func79 (by rfl) (by rfl) (by rfl) (by rfl) ?_
 refine za (o := (F.un (svS G s w v o0 o1 o2 p)).obj xw) _ hx ?_
 refine bceq (fun c1 => absurd (hk.symm.trans c1) (by decide)) (fun _ => ?_)
 refine bceq (fun c1 => absurd (hk.symm.trans c1) (by decide)) (fun _ => ?_)
 refine bceq (fun c1 => absurd (hk.symm.trans c1) (by decide)) (fun _ => ?_)
 refine bceq (fun c1 => absurd (hk.symm.trans c1) (by decide)) (fun _ => ?_)
 refine bceq (fun c1 => absurd (hk.symm.trans c1) (by decide)) (fun _ => ?_)
 refine bceq (fun c1 => absurd (hk.symm.trans c1) (by decide)) (fun _ => ?_)
 refine zi8 hW (mayF hm) hn _ (fun S' he => ret (h S' he)) (fun he S' hd => ret (h0 he S' hd))
end Go.Proofs
namespace Go.Proofs
open Go Go.V
def slO (cs : List (Int × List Nat)) (bs : List Nat) (clk : Nat) : AObj := .map (cs.map (entI fun l => ints (natI l))) bs clk
def slV (m : Nat) : AV := .s (.map (some m))
/-- What a map of places says is true. -/
def slOK (w : Wld) (c : Cmd) (cs : List (Int × List Nat)) : Prop := ∀ kd l, getI cs kd = some l → l = z8 w kd c.T c.U.length
/-- A step of a way: units put, a map beside. -/
structure MvS (F G G0 : Store) (xw s p m : Nat) (w : Wld) (v : AV) (L : List Ent) (n : Nat) (o0 o1 o2 : AV) (c : Cmd) (k : Nat) (cs : List (Int × List Nat)) (bs : List Nat) (clk : Nat) : Prop where
 S : StandR F G s p { w with U := mvL w c k } v L o0 o1 o2
 keep : ∀ q, offB v q → q ≠ m → G.obj q = G0.obj q
 hm : G.obj m = some (slO cs bs clk)
 hl : L.length ≤ n + k
 ok : ∀ e ∈ L, e.2.ok
 sl : slOK w c cs
theorem yg8 {w : Wld} (hm : MayF w) (c : Cmd) (k : Nat) : MayF { w with U := mvL w c k } :=
 ⟨hm.hg, hm.hB, by show (mvL w c k).length ≤ _; rw [xa]; exact hm.hU, hm.hT, hm.hb, fun u hu => by
  obtain ⟨x, hx, _, _, e, _⟩ := zs4 hu
  rw [e]; exact hm.hk x hx, zcc hm.hr c k, hm.hn1, hm.hn2⟩
theorem w7 {F G : Store} {s p : Nat} {w : Wld} {v : AV} {o0 o1 o2 : AV} {m : Nat} {x : AObj} (h : G.obj m = some x) (hms : m ≠ s) : (F.un (svS G s w v o0 o1 o2 p)).obj m = some x := un_r (by
 show (G.setObj s _).obj m = _
 rw [zh hms]; exact h)
/-- The map is changed. -/
theorem MvS.upd {F G G0 : Store} {xw s p m : Nat} {w : Wld} {v : AV} {L : List Ent} {n : Nat} {o0 o1 o2 : AV} {c : Cmd} {k : Nat} {cs : List (Int × List Nat)} {bs : List Nat} {clk : Nat} (h : MvS F G G0 xw s p m w v L n o0 o1 o2 c k cs bs clk) (hms : m ≠ s) (hoff : offB v m) {cs' : List (Int × List Nat)} (bs' : List Nat) (clk' : Nat) (hs : slOK w c cs') :
  MvS F (G.setObj m (slO cs' bs' clk')) G0 xw s p m w v L n o0 o1 o2 c k cs' bs' clk' ∧ (F.un (svS G s { w with U := mvL w c k } v o0 o1 o2 p)).setObj m (slO cs' bs' clk') = F.un (svS (G.setObj m (slO cs' bs' clk')) s { w with U := mvL w c k } v o0 o1 o2 p) := by
 refine ⟨⟨⟨h.S.hc, fun i h1 h2 => h.S.hd i h1 (svS_has.2 ?_), ?_, h.S.hu.set hoff _, h.S.h0, h.S.h1, h.S.h2⟩, fun q h1 h2 => ?_, zb _ _ _, h.hl, h.ok, hs⟩, ?_⟩
 ·rcases svS_has.1 h2 with h2 | h2
  ·exact .inl h2
  ·rcases has_setObj_iff.1 h2 with rfl | h2
   ·exact .inr (kw h.hm)
   ·exact .inr h2
 ·rw [zh (Ne.symm hms)]; exact h.S.hs
 ·rw [zh h2]; exact h.keep q h1 h2
 ·rw [zw]
  unfold svS
  rw [ko hms]
set_option maxHeartbeats 2000000 in
set_option maxRecDepth 20000 in
theorem zo6 {F G : Store} {xw s p : Nat} {w : Wld} {v : AV} {L : List Ent} {o0 o1 o2 : AV} {c : Cmd} (hW : Work F G xw s p w v L o0 o1 o2 c nF) (hm : MayF w) (hn : ∀ u ∈ w.U, u.pos.ok) (hcU : c.U.length ≤ 64) (R : AV → Store → Prop)
  (h : ∀ S', mvE w c ≠ 0 → R (int (mvE w c)) S') (h0 : mvE w c = 0 → ∀ S', Done S' xw s c nF (mvW w c) → R (int 0) S') : ACalls Tryz.prog 119 [ptr xw] (F.un (svS G s w v o0 o1 o2 p)) R := by
 have hU := hm.hU
 have hx := hW.x (F' := F) (q0 := o0) (q1 := o1) (q2 := o2)
 have hs := hW.s (F' := F) (q0 := o0) (q1 := o1) (q2 := o2)
 have hr := hW.r (F' := F) (q0 := o0) (q1 := o1) (q2 := o2)
 obtain ⟨oa, cap, e, hget⟩ := hW.S.hu.form
 subst e
 have ha := zt hm.hg
 refine ACalls.of_awp (c := cfg 94) ze Tryz.func119 (by rfl) (by rfl) (by rfl) (by rfl) ?_
 refine AWp.seq (AWp.of_vc ze ?_)
 refine AWp.seq (AWp.of_vc ze ?_)
 refine ADraw.of_sched ze (by rfl) (by rfl) ybc (by rfl) ?_
 refine za (o := (F.un (svS G s w _ o0 o1 o2 p)).obj xw) _ hx ?_
 refine za (o := (F.un (svS G s w _ o0 o1 o2 p)).obj s) _ hs ?_
 refine za (o := (F.un (svS G s w _ o0 o1 o2 p)).obj xw) _ hx ?_
 refine ⟨zik w.G c.T hm.hg _ _ (fun z hz => ⟨trivial, ?_⟩), trivial⟩
 refine yc ?_
 refine zd (fun c2 => ?_) (fun c2 => ?_)
 rotate_left
 ·have := yih (w := w) (c := c) (fun hh => by have := hz.2 hh; rw [this] at c2; cases c2)
  rw [this] at h
  exact ret (h _ (by decide))
 have htile := hz.1 c2
 have htn : c.T = ((c.T.toNat : Nat) : Int) := by omega
 have htl : c.T.toNat < w.G.T.length := by omega
 have hE := yig htile
 rw [hE] at h h0
 refine AWp.seq (AWp.of_vc ze ?_)
 refine all_nil ⟨hx, hs, hr⟩ hm.hr (by omega) (by omega) _ (fun he => ?_) (fun he => ?_)
 rotate_left
 ·refine AWp.of_vc ze ?_
  refine bcne (fun c3 => ?_) (fun c3 => absurd c3 he)
  exact ret (h _ he)
 have hzero := ky he
 refine AWp.seq (AWp.of_vc ze ?_)
 refine AWp.seq (AWp.of_vc ze ?_)
 refine j2 rfl (fun m hmf => ?_)
 obtain ⟨hW1, e1, off1, hms⟩ := hW.add hmf (slO [] [] 0)
 have hmx : m ≠ xw := fun e => by
  have := hmf.1
  rw [e, hx] at this; cases this
 have e1' : (F.un (svS G s w (.s (.slice oa w.U.length cap)) o0 o1 o2 p)).setObj m (.map [] [] 0) = F.un (svS (G.setObj m (slO [] [] 0)) s w (.s (.slice oa w.U.length cap)) o0 o1 o2 p) := e1
 rw [e1']
 have hmv0 : MvS F (G.setObj m (slO [] [] 0)) (G.setObj m (slO [] [] 0)) xw s p m w (.s (.slice oa w.U.length cap)) L L.length o0 o1 o2 c 0 [] [] 0 := ⟨hW1.S, fun _ _ _ => rfl, zb _ _ _, by omega, kj hW.hF hn, fun kd l hh => by cases hh⟩
 have hx0 := hW1.hx
 have hox := hW1.ox
 have hos := hW1.os
 have hxs := hW1.ne
 have hLl := hW.hL
 generalize G.setObj m (slO [] [] 0) = G0 at *
 refine AWp.meetA (σ := Unit) ⟨fun _ => [], fun _ => [], fun _ st' => Done st' xw s c nF (mvW w c)⟩ ?_ ?_
 rotate_left
 ·rintro _ st' hd
  refine AWp.of_vc ze ?_
  exact ret (h0 he _ hd)
 refine AWp.seq (AWp.of_vc ze ?_)
 refine AWp.block ?_
 refine AWp.loopA (σ := Nat × Store × Store × List Ent × List (Int × List Nat) × List Nat × Nat) ⟨fun x => [(0, .av (ptr xw)), (3, .av (lst 10 untC (c.U.map (uAt w)))), (5, .av (slV m)), (35, .av (lst 10 untC (c.U.map (uAt w)))), (36, .av (int (c.U.length : Nat))), (37, .av (int (x.1 : Nat)))], fun _ => [],
  fun x st' => x.1 ≤ c.U.length ∧ st' = x.2.1.un (svS x.2.2.1 s { w with U := mvL w c x.1 } (.s (.slice oa w.U.length cap)) o0 o1 o2 p) ∧ MvS x.2.1 x.2.2.1 G0 xw s p m w (.s (.slice oa w.U.length cap)) x.2.2.2.1 L.length o0 o1 o2 c x.1 x.2.2.2.2.1 x.2.2.2.2.2.1 x.2.2.2.2.2.2, fun x => c.U.length - x.1⟩ ?_ ?_
 ·refine ⟨(0, F, G0, L, [], [], 0), trivial, ⟨Nat.zero_le _, rfl, hmv0⟩, ⟨lr_ _, lr_ _, lr_ _, lr_ _, ?_, lr_ _, trivial⟩, trivial⟩
  show LV.le (.av (int ((rws untC (c.U.map (uAt w))).length : Nat))) (.av (int (c.U.length : Nat)))
  rw [zf, List.length_map]; exact lr_ _
 rintro ⟨k, F1, G1, L1, cs, bs, clk⟩ st' ⟨hk, rfl, hS⟩
 dsimp only at hk hS ⊢
 refine AWp.seq (AWp.of_vc ze ?_)
 refine AWp.seq (AWp.of_vc ze ?_)
 refine bcd (fun h1 => ?_) (fun h1 => ?_)
 rotate_left
 ·have : k = c.U.length := by omega
  subst this
  have hxk : G1.obj xw = some (.cells (wkC s c nF)) := by rw [hS.keep xw hox (Ne.symm hmx)]; exact hx0
  exact ⟨(), ⟨_, o0, o1, o2, p, w7 hxk hxs, un_r (xl _ _ _ _ _ _ _ _), (vz hS.S.hs hS.S.hu).un⟩, trivial, trivial⟩
 have hlt : k < c.U.length := by omega
 obtain ⟨i, hi, hf, hid, hu, how, hin⟩ := qt (hzero c.U[k] (List.getElem_mem hlt))
 have hlm : k < (c.U.map (uAt w)).length := by rw [List.length_map]; exact hlt
 have hgm : (c.U.map (uAt w))[k] = w.U[i] := by rw [List.getElem_map, hu]
 have hlU : (c.U.map (uAt w)).length = c.U.length := List.length_map ..
 have hsu : ∀ kd n, z8 { w with U := mvL w c k } kd c.T n = z8 w kd c.T n := fun _ _ => rfl
 have hm1 := yg8 hm c k
 refine AWp.seq (AWp.block ?_)
 refine AWp.seq (AWp.of_vc ze ?_)
 refine ⟨k, rfl, za _ (zi hlm) ?_⟩
 rw [hgm]
 refine AWp.meetA (σ := Store × List (Int × List Nat) × List Nat × Nat) ⟨fun _ => [(0, .av (ptr xw)), (3, .av (lst 10 untC (c.U.map (uAt w)))), (5, .av (slV m)), (6, .av (int (k : Nat))), (7, .bx 7 0), (35, .av (lst 10 untC (c.U.map (uAt w)))), (36, .av (int (c.U.length : Nat))), (37, .av (int (k : Nat)))], fun _ => [(7, untC w.U[i])],
  fun x st' => st' = F1.un (svS x.1 s { w with U := mvL w c k } (.s (.slice oa w.U.length cap)) o0 o1 o2 p) ∧ MvS F1 x.1 G0 xw s p m w (.s (.slice oa w.U.length cap)) L1 L.length o0 o1 o2 c k x.2.1 x.2.2.1 x.2.2.2 ∧ getI x.2.1 w.U[i].kind = some (z8 w w.U[i].kind c.T c.U.length)⟩ ?_ ?_
 ·have hmo : (F1.un (svS G1 s { w with U := mvL w c k } (.s (.slice oa w.U.length cap)) o0 o1 o2 p)).obj m = some (slO cs bs clk) := w7 hS.hm hms
  have hxk : G1.obj xw = some (.cells (wkC s c nF)) := by rw [hS.keep xw hox (Ne.symm hmx)]; exact hx0
  have hx1 : (F1.un (svS G1 s { w with U := mvL w c k } (.s (.slice oa w.U.length cap)) o0 o1 o2 p)).obj xw = some (.cells (wkC s c nF)) := w7 hxk hxs
  have hs1 : (F1.un (svS G1 s { w with U := mvL w c k } (.s (.slice oa w.U.length cap)) o0 o1 o2 p)).obj s = some (.cells (svC { w with U := mvL w c k } (.s (.slice oa w.U.length cap)) o0 o1 o2 p)) := un_r (xl _ _ _ _ _ _ _ _)
  have hr1 : RowsQ 10 untC (F1.un (svS G1 s { w with U := mvL w c k } (.s (.slice oa w.U.length cap)) o0 o1 o2 p)) (.s (.slice oa w.U.length cap)) (mvL w c k) := (vz hS.S.hs hS.S.hu).un
  refine AWp.of_vc ze ?_
  refine yv rfl (it := ti181) (ie := ti36) (ik := ti3) rfl rfl rfl rfl hmo rfl (qA w.U[i].kind) (fun e he => ?_) ?_
  ·obtain ⟨e, _, rfl⟩ := List.mem_map.1 he
   rfl
  rw [zs9]
  cases hg : getI cs w.U[i].kind with
  | some l =>
   have hl := hS.sl _ _ hg
   rw [hl] at hg
   exact ⟨(G1, cs, bs, clk), ⟨rfl, hS, hg⟩, ⟨lr_ _, lr_ _, lr_ _, lr_ _, lr_ _, lr_ _, lr_ _, lr_ _, trivial⟩, ⟨rfl, trivial⟩⟩
  | none =>
   dsimp only
   refine ADraw.of_sched ze (by rfl) (by rfl) zr4 (by rfl) ?_
   refine za (o := (F1.un (svS G1 s _ _ o0 o1 o2 p)).obj xw) _ hx1 ?_
   refine ⟨zdj ⟨hx1, hs1, hr1⟩ hm1 w.U[i].kind c.T.toNat htl c.T htn (rws untC (c.U.map (uAt w))).length (by rw [zf, hlU]; omega) _ ⟨?_, ?_⟩, trivial⟩
   ·repeat (first | exact trivial | refine ⟨rfl, ?_⟩ | refine ⟨za (o := (F1.un (svS G1 s _ _ o0 o1 o2 p)).obj xw) _ hx1 rfl, ?_⟩)
   rw [hsu, zf, hlU]
   refine ⟨xf (.inl rfl) rfl (it := ti181) (ik := ti3) rfl rfl rfl (es := cs.map (entI fun l => ints (natI l))) (bs := bs) (clk := clk) (k := int w.U[i].kind) (v := ints (natI (z8 w w.U[i].kind c.T c.U.length))) hmo rfl rfl (qA w.U[i].kind) (fun e he => ?_) (fun e1 he hq => ?_) ?_, trivial⟩
   ·obtain ⟨e, _, rfl⟩ := List.mem_map.1 he
    rfl
   ·obtain ⟨g1, _, rfl⟩ := List.mem_map.1 he
    have : w.U[i].kind = g1.1 := by simpa [qA, entI, int] using hq
    show int g1.1 = _
    rw [this]
   obtain ⟨bs', clk', hput⟩ := zbo (fun l => ints (natI l)) cs bs clk w.U[i].kind (z8 w w.U[i].kind c.T c.U.length)
   have hput : jj (cs.map (entI fun l => ints (natI l))) bs clk (qA w.U[i].kind) (int w.U[i].kind) (ints (natI (z8 w w.U[i].kind c.T c.U.length))) = slO (putI cs w.U[i].kind (z8 w w.U[i].kind c.T c.U.length)) bs' clk' := hput
   obtain ⟨u1, u2⟩ := hS.upd hms off1 (cs' := putI cs w.U[i].kind (z8 w w.U[i].kind c.T c.U.length)) bs' clk' (fun kd l hh => by
    rw [za1] at hh
    by_cases e : kd = w.U[i].kind
    ·rw [if_pos e] at hh
     rw [e]; exact (Option.some.inj hh).symm
    ·rw [if_neg e] at hh
     exact hS.sl kd l hh)
   rw [hput, u2]
   refine ⟨trivial, (_, _, _, _), ⟨rfl, u1, ?_⟩, ⟨lr_ _, lr_ _, lr_ _, lr_ _, lr_ _, lr_ _, lr_ _, lr_ _, trivial⟩, ⟨rfl, trivial⟩⟩
   rw [za1, if_pos rfl]
 rintro ⟨G2, cs2, bs2, clk2⟩ _ ⟨rfl, hS2, hg2⟩
 dsimp only at hS2 hg2 ⊢
 have hmo : (F1.un (svS G2 s { w with U := mvL w c k } (.s (.slice oa w.U.length cap)) o0 o1 o2 p)).obj m = some (slO cs2 bs2 clk2) := w7 hS2.hm hms
 have hxk : G2.obj xw = some (.cells (wkC s c nF)) := by rw [hS2.keep xw hox (Ne.symm hmx)]; exact hx0
 have hx1 : (F1.un (svS G2 s { w with U := mvL w c k } (.s (.slice oa w.U.length cap)) o0 o1 o2 p)).obj xw = some (.cells (wkC s c nF)) := w7 hxk hxs
 have hiL : i < (mvL w c k).length := by rw [xa]; exact hi
 refine AWp.of_vc ze ?_
 refine za (o := (F1.un (svS G2 s _ _ o0 o1 o2 p)).obj xw) _ hx1 ?_
 refine yv rfl (it := ti181) (ie := ti36) (ik := ti3) rfl rfl rfl rfl hmo rfl (qA w.U[i].kind) (fun e he => ?_) ?_
 ·obtain ⟨e, _, rfl⟩ := List.mem_map.1 he
  rfl
 rw [zce, hg2]
 have hput : ∀ g, g = jx w c k w.U[i].kind → (mvL w c k).set i (mvG g w.U[i]) = mvL w c (k + 1) := fun g hg => by
  rw [zoi hlt hf hi, hg]
 have hlen := qq (z8 w w.U[i].kind c.T c.U.length)
 have hid' : (mvL w c k)[i].id = w.U[i].id := zki w c k i hi
 have fin : ∀ {F3 G3 L3}, StandR F3 G3 s p { w with U := mvL w c (k + 1) } (.s (.slice oa w.U.length cap)) L3 o0 o1 o2 → (∀ q, offB (.s (.slice oa w.U.length cap)) q → G3.obj q = G2.obj q) → L3.length ≤ L1.length + 1 → (∀ e ∈ L3, e.2.ok) → MvS F3 G3 G0 xw s p m w (.s (.slice oa w.U.length cap)) L3 L.length o0 o1 o2 c (k + 1) cs2 bs2 clk2 := fun g1 g2 g3 g4 =>
  ⟨g1, fun q h1 h2 => (g2 q h1).trans (hS2.keep q h1 h2), (g2 m off1).trans hS2.hm, by have := hS2.hl; omega, g4, hS2.sl⟩
 have hdec : c.U.length - (k + 1) < c.U.length - k := by omega
 have hL1 := hS2.hl
 refine bcd (fun c5 => ?_) (fun c5 => ?_)
 ·rw [zf, hlen] at c5
  have hk2 : k < (natI (z8 w w.U[i].kind c.T c.U.length)).length := by rw [hlen]; omega
  have hk3 : k < (z8 w w.U[i].kind c.T c.U.length).length := by omega
  have hg9 : (natI (z8 w w.U[i].kind c.T c.U.length))[k] = jx w c k w.U[i].kind := by
   rw [zfg hk3]; exact List.getElem_map ..
  refine ⟨k, rfl, za _ (zi hk2) ?_⟩
  refine ADraw.of_sched ze (by rfl) (by rfl) zjx (by rfl) ?_
  refine za (o := (F1.un (svS G2 s _ _ o0 o1 o2 p)).obj xw) _ hx1 ?_
  refine ⟨zef hS2.S hos (zcc hm.hr c k) (by show (mvL w c k).length ≤ _; rw [xa]; omega) (by omega) hS2.ok hiL (mvG ((natI (z8 w w.U[i].kind c.T c.U.length))[k]'hk2) w.U[i]) hid' (show w.U[i].pos.ok from hn _ (List.getElem_mem hi)) _ (fun F3 G3 L3 g1 g2 g3 g4 => ⟨trivial, ?_⟩), trivial⟩
  dsimp only at g1 ⊢
  rw [hput _ hg9] at g1 ⊢
  refine AWp.of_vc ze ?_
  refine in64 (by omega) ?_
  exact ⟨(k + 1, F3, G3, L3, cs2, bs2, clk2), hdec, ⟨by dsimp only; omega, rfl, fin g1 g2 g3 g4⟩, ⟨lr_ _, lr_ _, lr_ _, lr_ _, lr_ _, lr_ _, trivial⟩, trivial⟩
 ·rw [zf, hlen] at c5
  have hk3 : ¬ k < (z8 w w.U[i].kind c.T c.U.length).length := by omega
  have hg9 : c.T = jx w c k w.U[i].kind := (zfh hk3).symm
  refine ADraw.of_sched ze (by rfl) (by rfl) zjx (by rfl) ?_
  refine za (o := (F1.un (svS G2 s _ _ o0 o1 o2 p)).obj xw) _ hx1 ?_
  refine ⟨zef hS2.S hos (zcc hm.hr c k) (by show (mvL w c k).length ≤ _; rw [xa]; omega) (by omega) hS2.ok hiL (mvG c.T w.U[i]) hid' (show w.U[i].pos.ok from hn _ (List.getElem_mem hi)) _ (fun F3 G3 L3 g1 g2 g3 g4 => ⟨trivial, ?_⟩), trivial⟩
  dsimp only at g1 ⊢
  rw [hput _ hg9] at g1 ⊢
  refine AWp.of_vc ze ?_
  refine in64 (by omega) ?_
  exact ⟨(k + 1, F3, G3, L3, cs2, bs2, clk2), hdec, ⟨by dsimp only; omega, rfl, fin g1 g2 g3 g4⟩, ⟨lr_ _, lr_ _, lr_ _, lr_ _, lr_ _, lr_ _, trivial⟩, trivial⟩
end Go.Proofs
namespace Go.Proofs
open Go Go.V
theorem zbv (g : Gnd) (hg : gndP g) (t : Nat) (ht : t < g.T.length) (tI : Int) (htI : tI = (t : Int)) (st : Store) (R : AV → Store → Prop) (h : R (.agg (vecC (cenV g t))) st) : ACalls Tryz.prog 25 [.agg (gndC g), int tI] st R := by
 subst htI
 have ha := zt hg
 have htb := vp hg (t := t) (by omega)
 have hq := trem (t := t) hg.1.1
 have hq2 := tquo (t := t) hg.1.1
 have hg1 := hg.1
 have hg2 := hg.2.1
 unfold cenV tx ty at h
 rw [← hq, ← hq2] at h
 refine ACalls.of_body (c := cfg 18) ze Tryz.func25 (by rfl) (by rfl) (by rfl) (by rfl) ?_
 refine ADraw.of_sched ze (by rfl) (by rfl) ygz (by rfl) ?_
 refine ⟨by omega, ?_⟩
 refine in64 (by omega) ?_
 refine in64 (by omega) ?_
 refine ⟨by omega, ?_⟩
 refine in64 (by omega) ?_
 refine in64 (by omega) ?_
 refine in64 (by omega) ?_
 refine ⟨⟨(by repeat (first | exact trivial | refine ⟨rfl, ?_⟩ | refine ⟨optR (optR (optR (za _ (zb _ _ _) rfl))), ?_⟩)), ?_⟩, trivial⟩
 exact ret h
theorem zdn (g : Gnd) (hg : gndP g) (l : List Bld) (hl : l.length ≤ 1000000000000) (hb : ∀ b ∈ l, bldP b ∧ onP g b) (c : Int) (hc : c = 0 ∨ c = 1 ∨ c = 2) (size : Int) (hs : 0 ≤ size ∧ size ≤ 3) (goal : Nat) (hgl : goal < g.T.length) (tI : Int) (htI : tI = (goal : Int)) (n : Nat) (hn : n ≤ 1000) (st : Store) (R : AV → Store → Prop) (h : R (ints (natI (wj g (jr g l c size) size tI n))) st) :
  ACalls Tryz.prog 85 [.agg (gndC g), lst 6 bldC l, int c, int size, int tI, int n] st R := by
 subst htI
 exact zmg g hg l hl hb c hc size hs goal hgl n hn st R h
set_option maxHeartbeats 2000000 in
set_option maxRecDepth 20000 in
theorem zjz {S : Store} {p : Nat} {w : Wld} {v : AV} (hp : S.obj p = some (.cells (wldV w v))) (hv : RowsQ 10 untC S v w.U) (hoff : offB v p) (hm : MayF w) (hn : ∀ u ∈ w.U, u.pos.ok) (c : Cmd) (R : AV → Store → Prop)
  (h : ∀ S', ulE w c ≠ 0 → R (int (ulE w c)) S') (h0 : ulE w c = 0 → ∀ S' v', S'.obj p = some (.cells (wldV (ulW w c) v')) → RowsQ 10 untC S' v' (ulW w c).U → R (int 0) S') : ACalls Tryz.prog 58 [ptr p, .agg (cmdC c)] S R := by
 have hU := hm.hU
 have hB := hm.hB
 obtain ⟨oa, cap, e, hget⟩ := hv.form
 subst e
 have ha := zt hm.hg
 refine ACalls.of_awp (c := cfg 146) ze Tryz.func58 (by rfl) (by rfl) (by rfl) (by rfl) ?_
 refine AWp.seq (AWp.of_vc ze ?_)
 refine AWp.seq (AWp.of_vc ze ?_)
 refine ADraw.of_sched ze (by rfl) (by rfl) yge (by rfl) ?_
 refine za (o := S.obj p) _ hp ?_
 refine ⟨za8 hv (by omega) hm.hk c _ ⟨(by repeat (first | exact trivial | refine ⟨rfl, ?_⟩ | refine ⟨za (o := S.obj p) _ hp rfl, ?_⟩)), ?_⟩, trivial⟩
 refine ⟨⟨trivial, ?_⟩, trivial⟩
 refine AWp.seq (AWp.of_vc ze ?_)
 refine bcne (fun c1 => ?_) (fun c1 => ?_)
 ·have := yhx c1
  rw [this] at h
  exact ret (h _ c1)
 obtain ⟨hask, hroom⟩ := zco c1
 obtain ⟨ix, hix, hfx, hidx, hux, _, _⟩ := qt hask
 refine AWp.seq (AWp.of_vc ze ?_)
 refine ADraw.of_sched ze (by rfl) (by rfl) ygd (by rfl) ?_
 refine za (o := S.obj p) _ hp ?_
 refine ⟨vq w.G c.T hm.hg _ _ (fun z hz => ⟨trivial, ?_⟩), trivial⟩
 refine yc ?_
 refine zd (fun c2 => ?_) (fun c2 => ?_)
 rotate_left
 ·have := yhw c1 (fun hh => by have := hz.2 hh; rw [this] at c2; cases c2)
  rw [this] at h
  exact ret (h _ (by decide))
 have htile := hz.1 c2
 have htn : c.T = ((c.T.toNat : Nat) : Int) := by omega
 have htl : c.T.toNat < w.G.T.length := by omega
 refine AWp.meetA (σ := Unit) ⟨fun _ => [(0, .av (ptr p)), (3, .bx 3 0), (6, .bx 6 0)], fun _ => [(3, cmdC c), (6, untC w.U[ix])], fun _ st' => st' = S⟩ ?_ ?_
 ·refine AWp.of_vc ze ?_
  refine ADraw.of_sched ze (by rfl) (by rfl) ygc (by rfl) ?_
  refine za (o := S.obj p) _ hp ?_
  refine za (o := S.obj p) _ hp ?_
  obtain ⟨b, J, e2, hob⟩ := hget ix hix
  subst e2
  refine ⟨qh hv (by omega) c.N _ ⟨(by repeat (first | exact trivial | refine ⟨rfl, ?_⟩ | refine ⟨za (o := S.obj p) _ hp rfl, ?_⟩ | refine ⟨⟨ix, rfl, hix, rfl⟩, ?_⟩ | refine ⟨za (o := S.obj b) _ hob (z7 (i := ti50) (row := untC w.U[ix]) rfl rfl (zy zm hix) rfl), ?_⟩)), ?_⟩, ⟨(by repeat (first | exact trivial | refine ⟨rfl, ?_⟩ | refine ⟨za (o := S.obj p) _ hp rfl, ?_⟩ | refine ⟨⟨ix, rfl, hix, rfl⟩, ?_⟩ | refine ⟨za (o := S.obj b) _ hob (z7 (i := ti50) (row := untC w.U[ix]) rfl rfl (zy zm hix) rfl), ?_⟩)), ?_⟩, trivial⟩
  ·rw [hfx]
   refine ⟨ix, rfl, hix, ?_⟩
   refine za (o := S.obj b) _ hob ?_
   refine z7 (i := ti50) (row := untC w.U[ix]) rfl rfl (zy zm hix) ?_
   refine ⟨⟨(by repeat (first | exact trivial | refine ⟨rfl, ?_⟩ | refine ⟨za (o := S.obj p) _ hp rfl, ?_⟩ | refine ⟨⟨ix, rfl, hix, rfl⟩, ?_⟩ | refine ⟨za (o := S.obj b) _ hob (z7 (i := ti50) (row := untC w.U[ix]) rfl rfl (zy zm hix) rfl), ?_⟩)), ?_⟩, trivial⟩
   refine ⟨⟨trivial, ?_⟩, trivial⟩
   exact ⟨(), rfl, ⟨lr_ _, lr_ _, lr_ _, trivial⟩, ⟨rfl, rfl, trivial⟩⟩
  ·refine ⟨qh hv (by omega) c.N _ ⟨(by repeat (first | exact trivial | refine ⟨rfl, ?_⟩ | refine ⟨za (o := S.obj p) _ hp rfl, ?_⟩ | refine ⟨⟨ix, rfl, hix, rfl⟩, ?_⟩ | refine ⟨za (o := S.obj b) _ hob (z7 (i := ti50) (row := untC w.U[ix]) rfl rfl (zy zm hix) rfl), ?_⟩)), ?_⟩, trivial⟩
   rw [hfx]
   refine ⟨ix, rfl, hix, ?_⟩
   refine za (o := S.obj b) _ hob ?_
   refine z7 (i := ti50) (row := untC w.U[ix]) rfl rfl (zy zm hix) ?_
   refine ⟨⟨trivial, ?_⟩, trivial⟩
   exact ⟨(), rfl, ⟨lr_ _, lr_ _, lr_ _, trivial⟩, ⟨rfl, rfl, trivial⟩⟩
 rintro _ S rfl
 refine AWp.of_vc ze ?_
 refine ADraw.of_sched ze (by rfl) (by rfl) ygb (by rfl) ?_
 refine za (o := S.obj p) _ hp ?_
 refine ⟨zbv w.G hm.hg c.T.toNat htl _ htn _ _ ⟨(by repeat (first | exact trivial | refine ⟨rfl, ?_⟩ | refine ⟨za (o := S.obj p) _ hp rfl, ?_⟩)), ?_⟩, trivial⟩
 refine ⟨zfa (cenV w.G c.T.toNat) w.U[ix].pos (zap hm.hg htl) (hn _ (List.getElem_mem hix)) _ _ ⟨trivial, ?_⟩, trivial⟩
 refine bcd (fun c3 => ?_) (fun c3 => ?_)
 ·have := yhv c1 htile (by rw [hux]; exact c3)
  rw [this] at h
  exact ret (h _ (by decide))
 have e4 := fun h4 => yhu (w := w) (c := c) c1 htile (by rw [hux]; exact c3) h4
 have e5 := fun x h4 => yht (w := w) (c := c) c1 htile (by rw [hux]; exact c3) (x := x) h4
 have hids := fun id (hid : id ∈ inOf w.U c.N) => zku (w := w) hm.hr hid
 have hin : (inOf w.U c.N).length ≤ w.U.length := by unfold inOf; rw [List.length_map]; exact List.length_filter_le _ _
 refine ADraw.of_sched ze (by rfl) (by rfl) yga (by rfl) ?_
 refine za (o := S.obj p) _ hp ?_
 refine ⟨zb7 hv (by omega) c.N _ ⟨(by repeat (first | exact trivial | refine ⟨rfl, ?_⟩ | refine ⟨za (o := S.obj p) _ hp rfl, ?_⟩)), ?_⟩, trivial⟩
 refine ⟨⟨trivial, ?_⟩, trivial⟩
 generalize inOf w.U c.N = ids at *
 refine AWp.loop (σ := Nat × Wld × Store) ⟨fun x => [(0, .av (ptr p)), (3, .bx 3 0), (7, .av (ints ids)), (8, .av (int (x.1 : Nat)))], fun _ => [(3, cmdC c)],
  fun x st' => x.1 ≤ ids.length ∧ st' = x.2.2 ∧ x.2.2.obj p = some (.cells (wldV x.2.1 (.s (.slice oa w.U.length cap)))) ∧ RowsQ 10 untC x.2.2 (.s (.slice oa w.U.length cap)) x.2.1.U ∧ unl c.T (ids.drop x.1) x.2.1 = unl c.T ids w ∧ MayF x.2.1 ∧ (∀ u ∈ x.2.1.U, u.pos.ok) ∧ x.2.1.U.length = w.U.length ∧ x.2.1.G = w.G ∧ ∀ id, yp x.2.1.U id = yp w.U id, fun x => ids.length - x.1⟩ ze ?_ ?_
 ·exact ⟨(0, w, S), trivial, ⟨Nat.zero_le _, rfl, hp, hv, by rw [List.drop_zero], hm, hn, rfl, rfl, fun _ => rfl⟩, ⟨lr_ _, lr_ _, lr_ _, lr_ _, trivial⟩, ⟨rfl, trivial⟩⟩
 rintro ⟨k, wc, S0⟩ S1 ⟨hk, rfl, hp1, hr1, hun, hm1, hn1, hl1, hG1, hf1⟩
 dsimp only at hk hp1 hr1 hun hm1 hn1 hl1 hG1 hf1 ⊢
 refine zd (fun h1 => ?_) (fun h1 => ?_)
 rotate_left
 ·have hkl : k = ids.length := y9 h1 hk
  subst hkl
  rw [List.drop_length] at hun
  obtain ⟨g1, g2⟩ := e5 wc hun.symm
  rw [g2] at h0
  exact ret (h0 g1 _ _ hp1 hr1)
 have hlt := yw h1
 obtain ⟨iu, hiu, hfu⟩ := hids _ (List.getElem_mem hlt)
 have hiu1 : iu < wc.U.length := by omega
 have hfu1 : yp wc.U ids[k] = some iu := by rw [hf1]; exact hfu
 rw [List.drop_eq_getElem_cons hlt] at hun
 have hr9 := hr1
 rcases hr1 with (⟨_, hl0⟩ | ⟨b, cap', J, e, ho, hc1, hc2, hc3⟩) | ⟨_, _, _, hl0⟩
 ·rw [hl0] at hiu1; exact absurd hiu1 (Nat.not_lt_zero iu)
 rotate_left
 ·rw [hl0] at hiu1; exact absurd hiu1 (Nat.not_lt_zero iu)
 simp only [AV.s.injEq, Value.slice.injEq] at e
 obtain ⟨rfl, e7, rfl⟩ := e
 have hcap : 0 < cap := by omega
 have hbp : b ≠ p := hoff b _ _ rfl hcap
 refine ADraw.of_sched ze (by rfl) (by rfl) zzt (by rfl) ?_
 refine za (o := S1.obj p) _ hp1 ?_
 refine za (o := S1.obj p) _ hp1 ?_
 refine ⟨k, rfl, za _ (zi hlt) ?_⟩
 refine ⟨qh hr9 (by omega) ids[k] _ ⟨(by repeat (first | exact trivial | refine ⟨rfl, ?_⟩ | refine ⟨⟨k, rfl, za _ (zi hlt) rfl⟩, ?_⟩ | refine ⟨za (o := S1.obj p) _ hp1 rfl, ?_⟩)), ?_⟩, trivial⟩
 rw [hfu1]
 refine ⟨iu, rfl, hiu, ?_⟩
 refine ⟨⟨trivial, ?_⟩, trivial⟩
 have fld : ∀ j, (hj : j < 10) → ∀ {y : AV}, (untC wc.U[iu])[j]? = some y → (((rws untC wc.U).flatten ++ J).drop (0 + iu * 10 + j)).head? = some y := fun j hj y hy => zek hiu1 hj hy
 refine za (o := S1.obj b) _ ho ?_
 refine za (o := List.head? _) (int wc.U[iu].kind) (fld 2 (by decide) rfl) ?_
 refine qn wc.U[iu].kind (hm1.hk _ (List.getElem_mem hiu1)) _ _ ?_
 refine ADraw.of_sched ze (by rfl) (by rfl) zzs (by rfl) ?_
 refine za (o := S1.obj p) _ hp1 ?_
 refine za (o := S1.obj p) _ hp1 ?_
 refine ⟨zdn wc.G hm1.hg wc.B (by have := hm1.hB; omega) hm1.hb (kCls wc.U[iu].kind) (zkr _) (j9 wc.U[iu].kind) (zij _) c.T.toNat (by rw [hG1]; exact htl) c.T htn 64 (by decide) _ _ ⟨(by repeat (first | exact trivial | refine ⟨rfl, ?_⟩ | refine ⟨za (o := S1.obj p) _ hp1 rfl, ?_⟩)), ?_⟩, trivial⟩
 refine ⟨⟨trivial, ?_⟩, trivial⟩
 have hsu : wj wc.G (jr wc.G wc.B (kCls wc.U[iu].kind) (j9 wc.U[iu].kind)) (j9 wc.U[iu].kind) c.T 64 = z8 wc (wc.U[iu]'hiu1).kind c.T 64 := rfl
 rw [hsu]
 have hlen := zgw wc wc.U[iu].kind c.T 64
 have hlt3 := fun (t2 : Nat) (h2 : t2 ∈ z8 wc wc.U[iu].kind c.T 64) => (ze1 h2).1
 have hsome := fun (j : Nat) (hj : j < (z8 wc (wc.U[iu]'hiu1).kind c.T 64).length) => zke (w := wc) (u := wc.U[iu]'hiu1) (tile := c.T) (j := j) hj
 have hnone := zkf (w := wc) (u := wc.U[iu]'hiu1) (tile := c.T)
 generalize z8 wc wc.U[iu].kind c.T 64 = sl at *
 refine AWp.loop (σ := Nat × Int) ⟨fun x => [(0, .av (ptr p)), (3, .bx 3 0), (7, .av (ints ids)), (8, .av (int (k : Nat))), (9, .av (.s (.pointer (some ⟨b, 0 + iu * 10, none⟩)))), (11, .av (ints (natI sl))), (12, .av (int x.2)), (13, .av (int (x.1 : Nat)))], fun _ => [(3, cmdC c)],
  fun x st' => x.1 ≤ sl.length ∧ st' = S1 ∧ ((x.2 = -1 ∧ ∀ j, (hj : j < sl.length) → j < x.1 → ¬ y5 wc wc.U[iu].id wc.U[iu].kind (cenV wc.G sl[j])) ∨ ∃ t2 : Nat, x.2 = t2 ∧ t2 < wc.G.T.length ∧ outF wc wc.U[iu] c.T = some t2), fun x => sl.length - x.1⟩ ze ?_ ?_
 ·exact ⟨(0, -1), trivial, ⟨Nat.zero_le _, rfl, .inl ⟨rfl, fun j _ hj => by dsimp only at hj; omega⟩⟩, ⟨lr_ _, lr_ _, lr_ _, lr_ _, lr_ _, lr_ _, lr_ _, lr_ _, trivial⟩, ⟨rfl, trivial⟩⟩
 rintro ⟨j, at1⟩ S1 ⟨hj, rfl, hat⟩
 dsimp only at hj hat ⊢
 rcases hat with ⟨rfl, hall⟩ | ⟨t2, rfl, ht2, hso⟩
 ·refine bcd (fun c5 => ?_) (fun c5 => ?_)
  rotate_left
  ·rw [zf, qq] at c5
   have hno := hnone fun j' hj' => hall j' hj' (by omega)
   rw [zh1 hiu1 hfu1 hno] at hun
   have g5 := e4 hun.symm
   rw [g5] at h
   exact ret (h _ (by decide))
  rw [zf, qq] at c5
  have hjl : j < sl.length := by omega
  have hjl2 : j < (natI sl).length := by rw [qq]; exact hjl
  have hsl := hlt3 _ (List.getElem_mem hjl)
  have hnat : (natI sl)[j]'hjl2 = ((sl[j] : Nat) : Int) := List.getElem_map ..
  have hdec : sl.length - (j + 1) < sl.length - j := by omega
  refine ADraw.of_sched ze (by rfl) (by rfl) zzr (by rfl) ?_
  refine za (o := S1.obj p) _ hp1 ?_
  refine za (o := S1.obj b) _ ho ?_
  refine za (o := List.head? _) (int wc.U[iu].id) (fld 0 (by decide) rfl) ?_
  refine za (o := S1.obj b) _ ho ?_
  refine za (o := List.head? _) (int wc.U[iu].kind) (fld 2 (by decide) rfl) ?_
  refine za (o := S1.obj p) _ hp1 ?_
  refine ⟨j, rfl, za _ (zi hjl2) ?_⟩
  refine ⟨zbv wc.G hm1.hg sl[j] hsl _ hnat _ _ ⟨(by repeat (first | exact trivial | refine ⟨rfl, ?_⟩ | refine ⟨za (o := S1.obj p) _ hp1 rfl, ?_⟩ | refine ⟨za (o := S1.obj b) _ ho (za (o := List.head? _) _ (fld 0 (by decide) rfl) rfl), ?_⟩ | refine ⟨za (o := S1.obj b) _ ho (za (o := List.head? _) _ (fld 2 (by decide) rfl) rfl), ?_⟩ | refine ⟨⟨j, rfl, za _ (zi hjl2) rfl⟩, ?_⟩)), ?_⟩, trivial⟩
  refine ⟨zdp hr9 hm1 hn1 wc.U[iu].id wc.U[iu].kind (hm1.hk _ (List.getElem_mem hiu1)) (cenV wc.G sl[j]) (zap hm1.hg hsl) _ (fun z hz => ⟨trivial, ?_⟩), trivial⟩
  refine zd (fun c6 => ?_) (fun c6 => ?_)
  ·refine ⟨j, rfl, za _ (zi hjl2) ?_⟩
   have hout := hsome j hjl (fun i' hi' hii => hall i' hi' hii) (hz.1 c6)
   refine in64 (by omega) ?_
   exact ⟨(j + 1, (natI sl)[j]'hjl2), hdec, ⟨by dsimp only; omega, rfl, .inr ⟨sl[j], hnat, hsl, hout⟩⟩, ⟨lr_ _, lr_ _, lr_ _, lr_ _, lr_ _, lr_ _, lr_ _, lr_ _, trivial⟩, ⟨rfl, trivial⟩⟩
  ·refine in64 (by omega) ?_
   refine ⟨(j + 1, -1), hdec, ⟨by dsimp only; omega, rfl, .inl ⟨rfl, fun j' hj' hjj => ?_⟩⟩, ⟨lr_ _, lr_ _, lr_ _, lr_ _, lr_ _, lr_ _, lr_ _, lr_ _, trivial⟩, ⟨rfl, trivial⟩⟩
   by_cases e : j' = j
   ·subst e
    intro hh
    have := hz.2 hh
    rw [this] at c6; cases c6
   ·exact hall j' hj' (by dsimp only at hjj; omega)
 ·rw [zh0 hiu1 hfu1 hso] at hun
  have hk1 : MayF { wc with U := wc.U.set iu (unlU wc.U[iu] (cenV wc.G t2)) } := hm1.put hiu1 rfl (show k9 wc.U[iu].kind from hm1.hk _ (List.getElem_mem hiu1))
  have hnn : ∀ u ∈ wc.U.set iu (unlU wc.U[iu] (cenV wc.G t2)), u.pos.ok := fun u hu => by
   rcases zie hu with rfl | hu
   ·exact zap hm1.hg ht2
   ·exact hn1 u hu
  have hff : ∀ id, yp (wc.U.set iu (unlU wc.U[iu] (cenV wc.G t2))) id = yp w.U id := fun id => by
   rw [zla hm1.hr hiu1 (u := unlU wc.U[iu] (cenV wc.G t2)) rfl]
   exact hf1 id
  have hll : (wc.U.set iu (unlU wc.U[iu] (cenV wc.G t2))).length = w.U.length := by rw [List.length_set]; exact hl1
  have u1 : RowsQ 10 untC S1 (.s (.slice (some ⟨b, 0, none⟩) w.U.length cap)) wc.U := hr9
  refine bcd (fun c5 => ?_) (fun c5 => ?_)
  all_goals
   refine za (o := S1.obj p) _ hp1 ?_
   refine zbv wc.G hm1.hg t2 ht2 _ rfl _ _ ?_
   refine zq (i := ti3) (v := int 0) (b := b) (o := 0 + iu * 10 + 8) (l := (rws untC wc.U).flatten ++ J) rfl rfl rfl ho (show 0 + iu * 10 + 8 + 1 ≤ _ by rw [List.length_append, zk zm]; omega) ?_
   have q1 := xj (x' := { wc.U[iu] with inn := 0 }) (ys := [int 0]) (j := 8) ho hiu1 (by decide) rfl
   have p1 := (zh (st := S1) (x := .cells (zn ((rws untC wc.U).flatten ++ J) (0 + iu * 10 + 8) [int 0])) (Ne.symm hbp)).trans hp1
   generalize S1.setObj b _ = S2 at q1 p1 ⊢
   refine yu (i := ti38) (v := .agg (vecC (cenV wc.G t2))) (xs := vecC (cenV wc.G t2)) (b := b) (o := 0 + iu * 10 + 3) (l := (rws untC (wc.U.set iu { wc.U[iu] with inn := 0 })).flatten ++ J) rfl rfl rfl q1 (show 0 + iu * 10 + 3 + 2 ≤ _ by rw [List.length_append, zk zm, List.length_set]; omega) ?_
   have q2 := xj (x' := unlU wc.U[iu] (cenV wc.G t2)) (ys := vecC (cenV wc.G t2)) (j := 3) q1 (by rw [List.length_set]; exact hiu1) (show 3 + 2 ≤ 10 by decide) (by rw [List.getElem_set_self]; rfl)
   rw [List.set_set] at q2
   have p2 := (zh (st := S2) (x := .cells (zn ((rws untC (wc.U.set iu { wc.U[iu] with inn := 0 })).flatten ++ J) (0 + iu * 10 + 3) (vecC (cenV wc.G t2)))) (Ne.symm hbp)).trans p1
   generalize S2.setObj b _ = S3 at q2 p2 ⊢
   refine in64 (by omega) ?_
   refine ⟨(k + 1, { wc with U := wc.U.set iu (unlU wc.U[iu] (cenV wc.G t2)) }, S3), ?_, ⟨by dsimp only; omega, rfl, p2, .inl (.inr ⟨b, cap, J, by rw [hll], q2, by rw [List.length_set]; exact hc1, by rw [List.length_set]; exact hc2, hc3⟩), hun, hk1, hnn, hll, hG1, hff⟩, ⟨lr_ _, lr_ _, lr_ _, lr_ _, trivial⟩, ⟨rfl, trivial⟩⟩
   show ids.length - (k + 1) < ids.length - k
   omega
set_option maxHeartbeats 1000000 in
theorem zmk (w : Wld) (hw : w.fits) (hn : ∀ u ∈ w.U, u.pos.ok) (hU : w.U.length ≤ 1000000) (c : Cmd) (hc : c.fits) (hK : c.K = 7) : ACalls Tryz.prog 34 [.agg (wldC w), .agg (cmdC c)] Store.empty (DoQ ulE ulW w c) := by
 refine ACalls.of_body (c := cfg 97 [6] []) ze Tryz.func34 (by rfl) (by rfl) (by rfl) (by rfl) ?_
 have bad : (¬ mayP w ∨ ¬ cmdP c ∨ w.players < c.P) → DoQ ulE ulW w c (.tup [.agg (wldC w), int 1]) Store.empty := fun hb => by
  have he := j5 (E := ulE) (w := w) (c := c) hb
  exact .inl ⟨by rw [he]; decide, by rw [he]⟩
 refine qz w hw hn _ _ (fun z hz => ?_)
 refine yc ?_
 refine zd (fun c1 => ?_) (fun c1 => ?_)
 rotate_left
 ·exact ret (bad (.inl fun hh => by have := hz.2 hh; rw [this] at c1; cases c1))
 refine yy c hc _ _ (fun zc hzc => ?_)
 refine yc ?_
 refine zd (fun c2 => ?_) (fun c2 => ?_)
 rotate_left
 ·exact ret (bad (.inr (.inl fun hh => by have := hzc.2 hh; rw [this] at c2; cases c2)))
 refine bcd (fun c3 => ?_) (fun c3 => ?_)
 ·exact ret (bad (.inr (.inr (by omega))))
 have hm := hz.1 c1
 have hcp := hzc.1 c2
 have he := zam (E := ulE) hm hcp (show c.P ≤ w.players by omega)
 refine qc w hw hU _ _ (fun v N hv _ => ?_)
 rw [xr]
 have hv := hv.q
 have hoff := fun (p : Nat) (hp : Fresh N p) => qo hv (xy (fresh_iff.1 hp)).1
 obtain ⟨oa, cap, e, _⟩ := hv.form
 subst e
 refine fun p hp => ?_
 refine yu (i := ti28) (v := .agg (wldV w (.s (.slice oa w.U.length cap)))) (xs := wldV w (.s (.slice oa w.U.length cap))) (b := p) (o := 0) (l := _) rfl rfl rfl (zb _ _ _) (show 0 + 8 ≤ 8 by decide) ?_
 generalize hS : (N.setObj p _).setObj p _ = S
 have hp2 : S.obj p = some (.cells (wldV w (.s (.slice oa w.U.length cap)))) := by rw [← hS]; exact zb _ _ _
 have hr2 : RowsQ 10 untC S (.s (.slice oa w.U.length cap)) w.U := by rw [← hS]; exact (hv.set (hoff p hp) _).set (hoff p hp) _
 refine bceq (fun h => absurd (hK.symm.trans h) (by decide)) (fun _ => ?_)
 refine bceq (fun h => absurd (hK.symm.trans h) (by decide)) (fun _ => ?_)
 refine bceq (fun h => absurd (hK.symm.trans h) (by decide)) (fun _ => ?_)
 refine bceq (fun h => absurd (hK.symm.trans h) (by decide)) (fun _ => ?_)
 refine bceq (fun h => absurd (hK.symm.trans h) (by decide)) (fun _ => ?_)
 refine bceq (fun h => absurd (hK.symm.trans h) (by decide)) (fun _ => ?_)
 refine bceq (fun _ => ?_) (fun h => absurd hK h)
 refine zjz hp2 hr2 (hoff p hp) (mayF hm) hn c _ (fun S' hE => ?_) (fun hE S' v' g1 g2 => ?_)
 ·refine bcne (fun _ => ?_) (fun h => absurd h hE)
  exact ret (.inl ⟨by rw [he]; exact hE, by rw [he]; rfl⟩)
 ·obtain ⟨oa2, cap2, e2, _⟩ := g2.form
  subst e2
  refine za (o := S'.obj p) _ g1 ?_
  exact ret (.inr ⟨he.trans hE, _, g2, rfl⟩)
theorem ref7 : zgn 7 ulE ulW := fun w hw hn hU c hc hK R h => wg (zmk w hw hn hU c hc hK) R h
end Go.Proofs
namespace Go.Proofs
open Go Go.V
theorem yja : vk 2 mvE mvW := by
 intro F G xw s p w v L o0 o1 o2 c hW hm hn hc hp hk R h h0
 have hx := hW.x (F' := F) (q0 := o0) (q1 := o1) (q2 := o2)
 have hok := (Cmd.ok2 hk).1 hc.1
 refine ACalls.of_body (c := cfg 34) ze Tryz.func79 (by rfl) (by rfl) (by rfl) (by rfl) ?_
 refine za (o := (F.un (svS G s w v o0 o1 o2 p)).obj xw) _ hx ?_
 refine bceq (fun c1 => absurd (hk.symm.trans c1) (by decide)) (fun _ => ?_)
 refine bceq (fun _ => ?_) (fun c1 => absurd hk c1)
 refine zo6 hW (mayF hm) hn hok.1.1.2 _ (fun S' he => ret (h S' he)) (fun he S' hd => ret (h0 he S' hd))
set_option maxHeartbeats 2000000 in
set_option maxRecDepth 20000 in
theorem zpp {S : Store} {p : Nat} {w : Wld} {v : AV} (hp : S.obj p = some (.cells (wldV w v))) (hv : RowsQ 10 untC S v w.U) (hoff : offB v p) (hm : MayF w) (hn : ∀ u ∈ w.U, u.pos.ok) (c : Cmd) (hcU : c.U.length ≤ 64) (R : AV → Store → Prop)
  (h : ∀ S', mvE w c ≠ 0 → R (int (mvE w c)) S') (h0 : mvE w c = 0 → ∀ S' v', S'.obj p = some (.cells (wldV (mvW w c) v')) → RowsQ 10 untC S' v' (mvW w c).U → R (int 0) S') : ACalls Tryz.prog 53 [ptr p, .agg (cmdC c)] S R := by
 have hU := hm.hU
 have hB := hm.hB
 obtain ⟨oa, cap, e, hget⟩ := hv.form
 subst e
 have ha := zt hm.hg
 refine ACalls.of_body (c := cfg 95) ze Tryz.func53 (by rfl) (by rfl) (by rfl) (by rfl) ?_
 refine ADraw.of_sched ze (by rfl) (by rfl) ygq (by rfl) ?_
 refine za (o := S.obj p) _ hp ?_
 refine ⟨vq w.G c.T hm.hg _ _ (fun z hz => ⟨trivial, ?_⟩), trivial⟩
 refine yc ?_
 refine zd (fun c2 => ?_) (fun c2 => ?_)
 rotate_left
 ·have := yih (w := w) (c := c) (fun hh => by have := hz.2 hh; rw [this] at c2; cases c2)
  rw [this] at h
  exact ret (h _ (by decide))
 have htile := hz.1 c2
 have htn : c.T = ((c.T.toNat : Nat) : Int) := by omega
 have htl : c.T.toNat < w.G.T.length := by omega
 have hE := yig htile
 rw [hE] at h h0
 refine ADraw.of_sched ze (by rfl) (by rfl) ygp (by rfl) ?_
 refine za (o := S.obj p) _ hp ?_
 refine ⟨zg6 hv (by omega) c (by omega) _ ⟨(by repeat (first | exact trivial | refine ⟨rfl, ?_⟩ | refine ⟨za (o := S.obj p) _ hp rfl, ?_⟩)), ?_⟩, trivial⟩
 refine ⟨⟨trivial, ?_⟩, trivial⟩
 refine bcne (fun c3 => ?_) (fun c3 => ?_)
 ·exact ret (h _ c3)
 have hzero := ky c3
 refine AWp.loop (σ := Nat × Store) ⟨fun x => [(0, .av (ptr p)), (3, .bx 3 0), (6, .av (int (x.1 : Nat)))], fun _ => [(3, cmdC c)],
  fun x st' => x.1 ≤ c.U.length ∧ st' = x.2 ∧ x.2.obj p = some (.cells (wldV w (.s (.slice oa w.U.length cap)))) ∧ RowsQ 10 untC x.2 (.s (.slice oa w.U.length cap)) (mvL w c x.1), fun x => c.U.length - x.1⟩ ze ?_ ?_
 ·exact ⟨(0, S), trivial, ⟨Nat.zero_le _, rfl, hp, hv⟩, ⟨lr_ _, lr_ _, lr_ _, trivial⟩, ⟨rfl, trivial⟩⟩
 rintro ⟨k, S0⟩ S1 ⟨hk, rfl, hp1, hr1⟩
 dsimp only at hk hp1 hr1 ⊢
 refine zd (fun h1 => ?_) (fun h1 => ?_)
 rotate_left
 ·have hkl : k = c.U.length := y9 h1 hk
  subst hkl
  exact ret (h0 c3 _ _ hp1 hr1)
 have hlt := yw h1
 obtain ⟨i, hi, hf, hid, hu, how, hin⟩ := qt (hzero c.U[k] (List.getElem_mem hlt))
 obtain ⟨U1, hgU⟩ : ∃ U1, U1 = mvL w c k := ⟨_, rfl⟩
 have hiL : i < U1.length := by rw [hgU, xa]; exact hi
 have hf2 : yp U1 c.U[k] = some i := by rw [hgU, yby hm.hr]; exact hf
 have hstep : mvL w c (k + 1) = U1.set i (mvG (jx w c k w.U[i].kind) w.U[i]) := by rw [hgU]; exact zoi hlt hf hi
 have hcore : mvG 0 U1[i] = mvG 0 w.U[i] := by subst hgU; exact zeg w c k i hi
 have hlL : U1.length = w.U.length := by rw [hgU]; exact xa w c k
 have hlL2 := xa w c (k + 1)
 have hkd : U1[i].kind = w.U[i].kind := (zfi hcore).2.2.1
 rw [← hgU] at hr1
 clear hgU
 have hr9 := hr1
 rcases hr1 with (⟨_, hl0⟩ | ⟨b, cap', J, e, ho, hc1, hc2, hc3⟩) | ⟨_, _, _, hl0⟩
 ·rw [hl0] at hiL; exact absurd hiL (Nat.not_lt_zero i)
 rotate_left
 ·rw [hl0] at hiL; exact absurd hiL (Nat.not_lt_zero i)
 simp only [AV.s.injEq, Value.slice.injEq] at e
 obtain ⟨rfl, e7, rfl⟩ := e
 have hcap : 0 < cap := by omega
 have hbp : b ≠ p := hoff b _ _ rfl hcap
 refine ADraw.of_sched ze (by rfl) (by rfl) ygo (by rfl) ?_
 refine za (o := S1.obj p) _ hp1 ?_
 refine za (o := S1.obj p) _ hp1 ?_
 refine ⟨k, rfl, za _ (zi hlt) ?_⟩
 refine ⟨qh (w := { w with U := U1 }) hr9 (by dsimp only; omega) c.U[k] _ ⟨(by repeat (first | exact trivial | refine ⟨rfl, ?_⟩ | refine ⟨⟨k, rfl, za _ (zi hlt) rfl⟩, ?_⟩ | refine ⟨za (o := S1.obj p) _ hp1 rfl, ?_⟩)), ?_⟩, trivial⟩
 dsimp only
 rw [hf2]
 refine ⟨i, rfl, hi, ?_⟩
 refine ⟨⟨trivial, ?_⟩, trivial⟩
 have fld : ∀ j, (hj : j < 10) → ∀ {y : AV}, (untC U1[i])[j]? = some y → (((rws untC U1).flatten ++ J).drop (0 + i * 10 + j)).head? = some y := fun j hj y hy => zek hiL hj hy
 refine za (o := S1.obj b) _ ho ?_
 refine za (o := List.head? _) (int U1[i].kind) (fld 2 (by decide) rfl) ?_
 rw [hkd]
 refine qn w.U[i].kind (hm.hk _ (List.getElem_mem hi)) _ _ ?_
 refine ADraw.of_sched ze (by rfl) (by rfl) zzy (by rfl) ?_
 refine za (o := S1.obj p) _ hp1 ?_
 refine za (o := S1.obj p) _ hp1 ?_
 refine ⟨zdn w.G hm.hg w.B (by omega) hm.hb (kCls w.U[i].kind) (zkr _) (j9 w.U[i].kind) (zij _) c.T.toNat htl c.T htn (rws intC c.U).length (by rw [zf]; omega) _ _ ⟨(by repeat (first | exact trivial | refine ⟨rfl, ?_⟩ | refine ⟨za (o := S1.obj p) _ hp1 rfl, ?_⟩)), ?_⟩, trivial⟩
 refine ⟨⟨trivial, ?_⟩, trivial⟩
 have hsu : wj w.G (jr w.G w.B (kCls w.U[i].kind) (j9 w.U[i].kind)) (j9 w.U[i].kind) c.T (rws intC c.U).length = z8 w w.U[i].kind c.T c.U.length := by rw [zf]; rfl
 rw [hsu]
 have e8 : U1.length = w.U.length := hlL
 refine zq (i := ti3) (v := int c.T) (b := b) (o := 0 + i * 10 + 5) (l := (rws untC U1).flatten ++ J) rfl rfl rfl ho (show 0 + i * 10 + 5 + 1 ≤ _ by rw [List.length_append, zk zm]; omega) ?_
 have q1 := xj (x' := { U1[i] with goal := c.T }) (ys := [int c.T]) (j := 5) ho hiL (show 5 + 1 ≤ 10 by decide) rfl
 have p1 := (zh (st := S1) (x := .cells (zn ((rws untC U1).flatten ++ J) (0 + i * 10 + 5) [int c.T])) (Ne.symm hbp)).trans hp1
 generalize S1.setObj b _ = S2 at q1 p1 ⊢
 refine zq (i := ti3) (v := int (-1)) (b := b) (o := 0 + i * 10 + 6) (l := (rws untC (U1.set i { U1[i] with goal := c.T })).flatten ++ J) rfl rfl rfl q1 (show 0 + i * 10 + 6 + 1 ≤ _ by rw [List.length_append, zk zm, List.length_set]; omega) ?_
 have q2 := xj (x' := { U1[i] with goal := c.T, next := -1 }) (ys := [int (-1)]) (j := 6) q1 (by rw [List.length_set]; exact hiL) (by decide) (by rw [List.getElem_set_self]; rfl)
 rw [List.set_set] at q2
 have p2 := (zh (st := S2) (x := .cells (zn ((rws untC (U1.set i { U1[i] with goal := c.T })).flatten ++ J) (0 + i * 10 + 6) [int (-1)])) (Ne.symm hbp)).trans p1
 generalize S2.setObj b _ = S3 at q2 p2 ⊢
 refine zq (i := ti3) (v := int 0) (b := b) (o := 0 + i * 10 + 7) (l := (rws untC (U1.set i { U1[i] with goal := c.T, next := -1 })).flatten ++ J) rfl rfl rfl q2 (show 0 + i * 10 + 7 + 1 ≤ _ by rw [List.length_append, zk zm, List.length_set]; omega) ?_
 have q3 := xj (x' := { U1[i] with goal := c.T, next := -1, stuck := 0 }) (ys := [int 0]) (j := 7) q2 (by rw [List.length_set]; exact hiL) (by decide) (by rw [List.getElem_set_self]; rfl)
 rw [List.set_set] at q3
 have p3 := (zh (st := S3) (x := .cells (zn ((rws untC (U1.set i { U1[i] with goal := c.T, next := -1 })).flatten ++ J) (0 + i * 10 + 7) [int 0])) (Ne.symm hbp)).trans p2
 generalize S3.setObj b _ = S4 at q3 p3 ⊢
 refine zq (i := ti3) (v := int 1) (b := b) (o := 0 + i * 10 + 9) (l := (rws untC (U1.set i { U1[i] with goal := c.T, next := -1, stuck := 0 })).flatten ++ J) rfl rfl rfl q3 (show 0 + i * 10 + 9 + 1 ≤ _ by rw [List.length_append, zk zm, List.length_set]; omega) ?_
 have q4 := xj (x' := mvG c.T U1[i]) (ys := [int 1]) (j := 9) q3 (by rw [List.length_set]; exact hiL) (by decide) (by rw [List.getElem_set_self]; rfl)
 rw [List.set_set] at q4
 have p4 := (zh (st := S4) (x := .cells (zn ((rws untC (U1.set i { U1[i] with goal := c.T, next := -1, stuck := 0 })).flatten ++ J) (0 + i * 10 + 9) [int 1])) (Ne.symm hbp)).trans p3
 generalize S4.setObj b _ = S5 at q4 p4 ⊢
 have hlen := qq (z8 w w.U[i].kind c.T c.U.length)
 have fin : ∀ g, g = jx w c k w.U[i].kind → U1.set i (mvG g U1[i]) = mvL w c (k + 1) := fun g hg => by
  rw [hstep, yif hcore, hg]
 have hdec : c.U.length - (k + 1) < c.U.length - k := by omega
 refine bcd (fun c5 => ?_) (fun c5 => ?_)
 ·rw [zf, hlen] at c5
  have hk2 : k < (natI (z8 w w.U[i].kind c.T c.U.length)).length := by rw [hlen]; omega
  have hk3 : k < (z8 w w.U[i].kind c.T c.U.length).length := by omega
  have hg9 : (natI (z8 w w.U[i].kind c.T c.U.length))[k] = jx w c k w.U[i].kind := by
   rw [zfg hk3]; exact List.getElem_map ..
  refine ⟨k, rfl, za _ (zi hk2) ?_⟩
  rw [hg9]
  refine zq (i := ti3) (v := int (jx w c k w.U[i].kind)) (b := b) (o := 0 + i * 10 + 5) (l := (rws untC (U1.set i (mvG c.T U1[i]))).flatten ++ J) rfl rfl rfl q4 (show 0 + i * 10 + 5 + 1 ≤ _ by rw [List.length_append, zk zm, List.length_set]; omega) ?_
  have q5 := xj (x' := mvG (jx w c k w.U[i].kind) U1[i]) (ys := [int (jx w c k w.U[i].kind)]) (j := 5) q4 (by rw [List.length_set]; exact hiL) (show 5 + 1 ≤ 10 by decide) (by rw [List.getElem_set_self]; rfl)
  rw [List.set_set, fin _ rfl] at q5
  have p5 := (zh (st := S5) (x := .cells (zn ((rws untC (U1.set i (mvG c.T U1[i]))).flatten ++ J) (0 + i * 10 + 5) [int (jx w c k w.U[i].kind)])) (Ne.symm hbp)).trans p4
  generalize S5.setObj b _ = S6 at q5 p5 ⊢
  refine in64 (by omega) ?_
  exact ⟨(k + 1, S6), hdec, ⟨by dsimp only; omega, rfl, p5, .inl (.inr ⟨b, cap, J, by rw [hlL2], q5, by rw [hlL2]; omega, by rw [hlL2, ← e8]; exact hc2, hc3⟩)⟩, ⟨lr_ _, lr_ _, lr_ _, trivial⟩, ⟨rfl, trivial⟩⟩
 ·rw [zf, hlen] at c5
  have hk3 : ¬ k < (z8 w w.U[i].kind c.T c.U.length).length := by omega
  rw [fin _ (zfh hk3).symm] at q4
  refine in64 (by omega) ?_
  exact ⟨(k + 1, S5), hdec, ⟨by dsimp only; omega, rfl, p4, .inl (.inr ⟨b, cap, J, by rw [hlL2], q4, by rw [hlL2]; omega, by rw [hlL2, ← e8]; exact hc2, hc3⟩)⟩, ⟨lr_ _, lr_ _, lr_ _, trivial⟩, ⟨rfl, trivial⟩⟩
set_option maxHeartbeats 1000000 in
theorem zmp (w : Wld) (hw : w.fits) (hn : ∀ u ∈ w.U, u.pos.ok) (hU : w.U.length ≤ 1000000) (c : Cmd) (hc : c.fits) (hK : c.K = 2) : ACalls Tryz.prog 34 [.agg (wldC w), .agg (cmdC c)] Store.empty (DoQ mvE mvW w c) := by
 refine ACalls.of_body (c := cfg 97 [6] []) ze Tryz.func34 (by rfl) (by rfl) (by rfl) (by rfl) ?_
 have bad : (¬ mayP w ∨ ¬ cmdP c ∨ w.players < c.P) → DoQ mvE mvW w c (.tup [.agg (wldC w), int 1]) Store.empty := fun hb => by
  have he := j5 (E := mvE) (w := w) (c := c) hb
  exact .inl ⟨by rw [he]; decide, by rw [he]⟩
 refine qz w hw hn _ _ (fun z hz => ?_)
 refine yc ?_
 refine zd (fun c1 => ?_) (fun c1 => ?_)
 rotate_left
 ·exact ret (bad (.inl fun hh => by have := hz.2 hh; rw [this] at c1; cases c1))
 refine yy c hc _ _ (fun zc hzc => ?_)
 refine yc ?_
 refine zd (fun c2 => ?_) (fun c2 => ?_)
 rotate_left
 ·exact ret (bad (.inr (.inl fun hh => by have := hzc.2 hh; rw [this] at c2; cases c2)))
 refine bcd (fun c3 => ?_) (fun c3 => ?_)
 ·exact ret (bad (.inr (.inr (by omega))))
 have hm := hz.1 c1
 have hcp := hzc.1 c2
 have he := zam (E := mvE) hm hcp (show c.P ≤ w.players by omega)
 refine qc w hw hU _ _ (fun v N hv _ => ?_)
 rw [xr]
 have hv := hv.q
 have hoff := fun (p : Nat) (hp : Fresh N p) => qo hv (xy (fresh_iff.1 hp)).1
 obtain ⟨oa, cap, e, _⟩ := hv.form
 subst e
 refine fun p hp => ?_
 refine yu (i := ti28) (v := .agg (wldV w (.s (.slice oa w.U.length cap)))) (xs := wldV w (.s (.slice oa w.U.length cap))) (b := p) (o := 0) (l := _) rfl rfl rfl (zb _ _ _) (show 0 + 8 ≤ 8 by decide) ?_
 generalize hS : (N.setObj p _).setObj p _ = S
 have hp2 : S.obj p = some (.cells (wldV w (.s (.slice oa w.U.length cap)))) := by rw [← hS]; exact zb _ _ _
 have hr2 : RowsQ 10 untC S (.s (.slice oa w.U.length cap)) w.U := by rw [← hS]; exact (hv.set (hoff p hp) _).set (hoff p hp) _
 refine bceq (fun h => absurd (hK.symm.trans h) (by decide)) (fun _ => ?_)
 refine bceq (fun _ => ?_) (fun h => absurd hK h)
 refine zpp hp2 hr2 (hoff p hp) (mayF hm) hn c ((Cmd.ok2 hK).1 hcp.1).1.1.2 _ (fun S' hE => ?_) (fun hE S' v' g1 g2 => ?_)
 ·refine bcne (fun _ => ?_) (fun h => absurd h hE)
  exact ret (.inl ⟨by rw [he]; exact hE, by rw [he]; rfl⟩)
 ·obtain ⟨oa2, cap2, e2, _⟩ := g2.form
  subst e2
  refine za (o := S'.obj p) _ g1 ?_
  exact ret (.inr ⟨he.trans hE, _, g2, rfl⟩)
theorem ref2 : zgn 2 mvE mvW := fun w hw hn hU c hc hK R h => wg (zmp w hw hn hU c hc hK) R h
end Go.Proofs
