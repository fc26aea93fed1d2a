/- The ground on which laws of thronglaw23 are proved: contracts of functions and plain lemmas; no condition beyond the row's own. -/
import Derived.Test.YtlmechfgnfepoaaGreatSK
import Derived.Test.YtlmechfgnfepoaaGreatSN
import Derived.Test.YtlmechfgnfepoaaGreatSM
set_option linter.unusedSimpArgs false
set_option linter.unusedVariables false
namespace Go.Proofs
open Go Go.V
set_option linter.unusedVariables false
set_option linter.unusedSimpArgs false
theorem kSize_b (k : Int) : 0 ≤ kSize k ∧ kSize k ≤ 3 := by unfold kSize; split <;> decide
set_option maxHeartbeats 1000000 in
set_option maxRecDepth 20000 in
/-- Good places about a tile, told by a place of work. -/
theorem wabout_spec {S : Store} {xw s p : Nat} {w : Wld} {v o0 o1 o2 : AV} {c : Cmd} (ha : AtW S xw s p w v o0 o1 o2 c nF) (hm : MayF w) (k : Int) (t : Nat) (ht : t < w.G.T.length) (n : Nat) (hn : n ≤ 1000) (R : AV → Store → Prop) (h : R (ints (natI (slotsU w k (t : Int) n))) S) : ACalls Tryz.prog 164 [ptr xw, int k, int t, int n] S R := by
  obtain ⟨hx, hs, hv⟩ := ha
  obtain ⟨oa, cap, e, hget⟩ := hv.form
  subst e
  refine ACalls.of_body (c := cfg 53) infoOK Tryz.func164 (by rfl) (by rfl) (by rfl) (by rfl) ?_
  refine what_spec k _ _ ?_
  refine ADraw.of_sched infoOK (by rfl) (by rfl) sch164_2 (by rfl) ?_
  refine optK_intro (o := S.obj xw) _ hx ?_
  refine optK_intro (o := S.obj s) _ hs ?_
  refine optK_intro (o := S.obj xw) _ hx ?_
  refine optK_intro (o := S.obj xw) _ hx ?_
  refine optK_intro (o := S.obj s) _ hs ?_
  refine optK_intro (o := S.obj xw) _ hx ?_
  refine optK_intro (o := S.obj s) _ hs ?_
  refine ⟨fopen_spec w.G hm.hg w.B (by have := hm.hB; omega) hm.hb (kCls k) (kSize k) (kSize_b k) _ _ (fun b hf => ?_), trivial⟩
  have hbx : xw ≠ b := fun e => by have := hf.1; rw [← e, hx] at this; cases this
  have hbs : s ≠ b := fun e => by have := hf.1; rw [← e, hs] at this; cases this
  have hx2 : (S.setObj b (.cells (netC w.G w.B (kCls k) (kSize k)))).obj xw = some (.cells (wkC s c nF)) := (setObj_ne hbx).trans hx
  have hs2 : (S.setObj b (.cells (netC w.G w.B (kCls k) (kSize k)))).obj s = some (.cells (svC w (.s (.slice oa w.U.length cap)) o0 o1 o2 p)) := (setObj_ne hbs).trans hs
  have hb2 : (S.setObj b (.cells (netC w.G w.B (kCls k) (kSize k)))).obj b = some (.cells (netC w.G w.B (kCls k) (kSize k))) := setObj_self _ _ _
  have hback : (S.setObj b (.cells (netC w.G w.B (kCls k) (kSize k)))).Has S := has_setObj hf.1
  generalize S.setObj b (.cells (netC w.G w.B (kCls k) (kSize k))) = S2 at *
  refine ⟨?_, ?_⟩
  · repeat (first | exact trivial | refine ⟨rfl, ?_⟩ | refine ⟨optK_intro (o := S2.obj xw) _ hx2 rfl, ?_⟩ | refine ⟨optK_intro (o := S2.obj s) _ hs2 rfl, ?_⟩)
  refine optK_intro (o := S2.obj b) _ hb2 ?_
  refine ⟨about_spec w.G hm.hg (goodB w.G w.B (kCls k) (kSize k)) (kSize k) (kSize_b k) t ht n hn _ _ ⟨(by repeat (first | exact trivial | refine ⟨rfl, ?_⟩ | refine ⟨optR (optR (optR (optK_intro _ (setObj_self _ _ _) rfl))), ?_⟩)), ?_⟩, trivial⟩
  refine ⟨⟨trivial, ?_⟩, trivial⟩
  exact retHas (AV.le_refl _) hback h
theorem wabout_specI {S : Store} {xw s p : Nat} {w : Wld} {v o0 o1 o2 : AV} {c : Cmd} (ha : AtW S xw s p w v o0 o1 o2 c nF) (hm : MayF w) (k : Int) (t : Nat) (ht : t < w.G.T.length) (tI : Int) (htI : tI = (t : Int)) (n : Nat) (hn : n ≤ 1000) (R : AV → Store → Prop) (h : R (ints (natI (slotsU w k tI n))) S) : ACalls Tryz.prog 164 [ptr xw, int k, int tI, int n] S R := by
  subst htI
  exact wabout_spec ha hm k t ht n hn R h
/-- A unit comes out beside a tile. -/
def outW (w : Wld) (i t : Nat) (hi : i < w.U.length) : Wld := { w with U := w.U.set i (unlU w.U[i] (cenV w.G t)) }
set_option maxHeartbeats 2000000 in
set_option maxRecDepth 20000 in
theorem wout_spec {F G : Store} {xw s p : Nat} {w : Wld} {v : AV} {L : List Ent} {o0 o1 o2 : AV} {c : Cmd} (hW : Work F G xw s p w v L o0 o1 o2 c nF) (hm : MayF w) (hn : ∀ u ∈ w.U, u.pos.ok) {i : Nat} (hi : i < w.U.length) (t : Nat) (ht : t < w.G.T.length) (htI : c.T = (t : Int)) (R : AV → Store → Prop)
    (h : ∀ S', outF w w.U[i] c.T = none → R (V.bool false) S')
    (h1 : ∀ t2, outF w w.U[i] c.T = some t2 → t2 < w.G.T.length → ∀ F' G' L' q0 q1 q2, Work F' G' xw s p (outW w i t2 hi) v L' q0 q1 q2 c nF → (∀ q, offB v q → G'.obj q = G.obj q) → R (V.bool true) (F'.un (svS G' s (outW w i t2 hi) v q0 q1 q2 p))) : ACalls Tryz.prog 175 [ptr xw, .agg (untC w.U[i])] (F.un (svS G s w v o0 o1 o2 p)) R := by
  have hU := hm.hU
  have hB := hm.hB
  have hx := hW.x (F' := F) (q0 := o0) (q1 := o1) (q2 := o2)
  have hs := hW.s (F' := F) (q0 := o0) (q1 := o1) (q2 := o2)
  have hr := hW.r (F' := F) (q0 := o0) (q1 := o1) (q2 := o2)
  obtain ⟨oa, cap, e, hget⟩ := hW.S.hu.form
  subst e
  refine ACalls.of_body (c := cfg 52) infoOK Tryz.func175 (by rfl) (by rfl) (by rfl) (by rfl) ?_
  refine ADraw.of_sched infoOK (by rfl) (by rfl) sch175_1 (by rfl) ?_
  refine optK_intro (o := (F.un (svS G s w _ o0 o1 o2 p)).obj xw) _ hx ?_
  refine ⟨wabout_specI ⟨hx, hs, hr⟩ hm w.U[i].kind t ht c.T htI 64 (by decide) _ ⟨?_, ?_⟩, trivial⟩
  · repeat (first | exact trivial | refine ⟨rfl, ?_⟩ | refine ⟨optK_intro (o := (F.un (svS G s w _ o0 o1 o2 p)).obj xw) _ hx rfl, ?_⟩)
  have hlen := slotsU_len w w.U[i].kind c.T 64
  have hlt3 := fun (t2 : Nat) (h2 : t2 ∈ slotsU w w.U[i].kind c.T 64) => (slotsU_lt h2).1
  have hsome := fun (j : Nat) (hj : j < (slotsU w (w.U[i]'hi).kind c.T 64).length) => outF_some (w := w) (u := w.U[i]'hi) (tile := c.T) (j := j) hj
  have hnone := outF_none (w := w) (u := w.U[i]'hi) (tile := c.T)
  generalize slotsU w w.U[i].kind c.T 64 = sl at *
  refine AWp.loop (σ := Nat × Store × AV × AV × AV) ⟨fun x => [(0, .av (ptr xw)), (3, .bx 3 0), (16, .av (ints (natI sl))), (17, .av (int (sl.length : Nat))), (18, .av (int (x.1 : Nat)))], fun _ => [(3, untC w.U[i])],
    fun x st' => x.1 ≤ sl.length ∧ st' = x.2.1.un (svS G s w (.s (.slice oa w.U.length cap)) x.2.2.1 x.2.2.2.1 x.2.2.2.2 p) ∧ StandR x.2.1 G s p w (.s (.slice oa w.U.length cap)) L x.2.2.1 x.2.2.2.1 x.2.2.2.2 ∧ ∀ j, (hj : j < sl.length) → j < x.1 → ¬ clearP w w.U[i].id w.U[i].kind (cenV w.G sl[j]), fun x => sl.length - x.1⟩ infoOK ?_ ?_
  · refine ⟨(0, F, o0, o1, o2), trivial, ⟨Nat.zero_le _, rfl, hW.S, fun j _ hj => by dsimp only at hj; omega⟩, ⟨LV.le_refl _, LV.le_refl _, LV.le_refl _, ?_, LV.le_refl _, trivial⟩, ⟨rfl, trivial⟩⟩
    show LV.le (.av (int ((rws intC (natI sl)).length : Nat))) (.av (int (sl.length : Nat)))
    rw [rws_len, natI_len]; exact LV.le_refl _
  rintro ⟨j, F1, q0, q1, q2⟩ st' ⟨hj, rfl, hS1, hall⟩
  dsimp only at hj hS1 hall ⊢
  refine bcd (fun c1 => ?_) (fun c1 => ?_)
  rotate_left
  · exact ret (h _ (hnone fun j' hj' => hall j' hj' (by omega)))
  have hlt : j < sl.length := by omega
  have hlt2 : j < (natI sl).length := by rw [natI_len]; exact hlt
  have hsl := hlt3 _ (List.getElem_mem hlt)
  have hnat : (natI sl)[j]'hlt2 = ((sl[j] : Nat) : Int) := List.getElem_map ..
  have hx1 := hW.x (F' := F1) (q0 := q0) (q1 := q1) (q2 := q2)
  have hs1 := hW.s (F' := F1) (q0 := q0) (q1 := q1) (q2 := q2)
  have ha := gnd_area hm.hg
  refine ⟨j, rfl, optK_intro _ (rws_get hlt2) ?_⟩
  refine optK_intro (o := (F1.un (svS G s w _ q0 q1 q2 p)).obj xw) _ hx1 ?_
  refine optK_intro (o := (F1.un (svS G s w _ q0 q1 q2 p)).obj s) _ hs1 ?_
  refine mid_specI w.G hm.hg sl[j] (by omega) _ hnat _ _ ?_
  refine ADraw.of_sched infoOK (by rfl) (by rfl) sch175_5 (by rfl) ?_
  refine optK_intro (o := (F1.un (svS G s w _ q0 q1 q2 p)).obj xw) _ hx1 ?_
  refine ⟨splaceR_spec hS1 hm.hg (by omega) hm.hb hm.hr (by omega) hn hW.hL hW.hF w.U[i].id w.U[i].kind (cenV w.G sl[j]) (cenV_ok hm.hg hsl) _ (fun z F2 a0 a1 a2 hz hS2 => ?_), trivial⟩
  have hx2 := hW.x (F' := F2) (q0 := a0) (q1 := a1) (q2 := a2)
  have hs2 := hW.s (F' := F2) (q0 := a0) (q1 := a1) (q2 := a2)
  refine ⟨trivial, ?_⟩
  refine bcase_intro (fun c2 => ?_) (fun c2 => ?_)
  rotate_left
  · refine in64 (by omega) ?_
    refine ⟨(j + 1, F2, a0, a1, a2), ?_, ⟨by dsimp only; omega, rfl, hS2, fun j' hj' hjj => ?_⟩, ⟨LV.le_refl _, LV.le_refl _, LV.le_refl _, LV.le_refl _, LV.le_refl _, trivial⟩, ⟨rfl, trivial⟩⟩
    · show sl.length - (j + 1) < sl.length - j
      omega
    · by_cases e : j' = j
      · subst e
        intro hh
        have := hz.2 hh
        rw [this] at c2; cases c2
      · exact hall j' hj' (by dsimp only at hjj; omega)
  have hcl := hz.1 c2
  have hout := hsome j hlt (fun i' hi' hii => hall i' hi' hii) hcl
  refine ADraw.of_sched infoOK (by rfl) (by rfl) sch175_6 (by rfl) ?_
  refine ⟨⟨(by repeat (first | exact trivial | refine ⟨rfl, ?_⟩ | refine ⟨optR (optR (optR (optK_intro _ (setObj_self _ _ _) rfl))), ?_⟩)), ?_⟩, trivial⟩
  refine ⟨⟨trivial, ?_⟩, trivial⟩
  refine ADraw.of_sched infoOK (by rfl) (by rfl) sch175_7 (by rfl) ?_
  refine optK_intro (o := (F2.un (svS G s w _ a0 a1 a2 p)).obj xw) _ hx2 ?_
  refine ⟨put_raw hS2 hW.os hm.hr (by omega) (by have := hW.hL; omega) (onField_ok hW.hF hn) hi (unlU w.U[i] (cenV w.G sl[j])) rfl (cenV_ok hm.hg hsl) _ (fun F3 G3 g1 g2 => ⟨trivial, ?_⟩), trivial⟩
  have hF3 := onField_put hW.hF hm.hr hi (u := unlU w.U[i] (cenV w.G sl[j])) rfl
  refine ret (h1 sl[j] hout hsl F3 G3 _ a0 a1 a2 ⟨g1, by rw [g2 xw hW.ox]; exact hW.hx, hW.ox, hW.os, ?_, hF3⟩ g2)
  obtain ⟨_, _, _, _, _, _, _, _, inv⟩ := g1.hc
  exact onField_len inv.n1 hF3
end Go.Proofs
namespace Go.Proofs
open Go Go.V
set_option linter.unusedVariables false
set_option linter.unusedSimpArgs false
theorem mem_setU {U : List Unt} {i : Nat} {x u : Unt} (h : u ∈ U.set i x) : u = x ∨ u ∈ U := by
  rcases List.mem_or_eq_of_mem_set h with h | h
  · exact .inr h
  · exact .inl h
theorem MayF.put {w : Wld} (h : MayF w) {i : Nat} (hi : i < w.U.length) {u : Unt} (hid : w.U[i].id = u.id) (hk : kindP u.kind) : MayF { w with U := w.U.set i u } :=
  ⟨h.hg, h.hB, by show (w.U.set i u).length ≤ _; rw [List.length_set]; exact h.hU, h.hT, h.hb, fun x hx => by
    rcases mem_setU (show x ∈ w.U.set i u from hx) with rfl | hx
    · exact hk
    · exact h.hk x hx, rises_put h.hr hi hid, h.hn1, h.hn2⟩
theorem ulE_1 {w : Wld} {c : Cmd} (h : carE w c.P c.N ≠ 0) : ulE w c = carE w c.P c.N := by unfold ulE; rw [if_neg h]
theorem ulE_2 {w : Wld} {c : Cmd} (h : carE w c.P c.N = 0) (h2 : ¬ (0 ≤ c.T ∧ c.T < w.G.W * w.G.H)) : ulE w c = 3 := by unfold ulE; rw [if_pos h, if_neg h2]
theorem ulE_3 {w : Wld} {c : Cmd} (h : carE w c.P c.N = 0) (h2 : 0 ≤ c.T ∧ c.T < w.G.W * w.G.H) (h3 : farP (cenV w.G c.T.toNat) (uAt w c.N).pos) : ulE w c = 8 := by unfold ulE; rw [if_pos h, if_pos h2, if_pos h3]
theorem ulE_4 {w : Wld} {c : Cmd} (h : carE w c.P c.N = 0) (h2 : 0 ≤ c.T ∧ c.T < w.G.W * w.G.H) (h3 : ¬ farP (cenV w.G c.T.toNat) (uAt w c.N).pos) (h4 : unl c.T (inOf w.U c.N) w = none) : ulE w c = 5 := by unfold ulE; rw [if_pos h, if_pos h2, if_neg h3, h4]
theorem ulE_5 {w : Wld} {c : Cmd} (h : carE w c.P c.N = 0) (h2 : 0 ≤ c.T ∧ c.T < w.G.W * w.G.H) (h3 : ¬ farP (cenV w.G c.T.toNat) (uAt w c.N).pos) {x : Wld} (h4 : unl c.T (inOf w.U c.N) w = some x) : ulE w c = 0 ∧ ulW w c = x := by
  unfold ulE ulW
  rw [if_pos h, if_pos h2, if_neg h3, h4]
  exact ⟨rfl, rfl⟩
theorem inOf_find {w : Wld} (hr : risesU w.U) {n id : Int} (h : id ∈ inOf w.U n) : ∃ i, ∃ hi : i < w.U.length, findU w.U id = some i := by
  unfold inOf at h
  obtain ⟨u, hu, rfl⟩ := List.mem_map.1 h
  obtain ⟨hu, _⟩ := List.mem_filter.1 hu
  obtain ⟨i, hi, rfl⟩ := List.getElem_of_mem hu
  exact ⟨i, hi, findU_mk hr hi rfl⟩
set_option maxHeartbeats 2000000 in
set_option maxRecDepth 20000 in
theorem wunload_spec {F G : Store} {xw s p : Nat} {w : Wld} {v : AV} {L : List Ent} {o0 o1 o2 : AV} {c : Cmd} (hW : Work F G xw s p w v L o0 o1 o2 c nF) (hm : MayF w) (hn : ∀ u ∈ w.U, u.pos.ok) (R : AV → Store → Prop)
    (h : ∀ S', ulE w c ≠ 0 → R (int (ulE w c)) S') (h0 : ulE w c = 0 → ∀ S', Done S' xw s c nF (ulW w c) → R (int 0) S') : ACalls Tryz.prog 124 [ptr xw] (F.un (svS G s w v o0 o1 o2 p)) R := by
  have hU := hm.hU
  have hx := hW.x (F' := F) (q0 := o0) (q1 := o1) (q2 := o2)
  have hs := hW.s (F' := F) (q0 := o0) (q1 := o1) (q2 := o2)
  have hr := hW.r (F' := F) (q0 := o0) (q1 := o1) (q2 := o2)
  obtain ⟨oa, cap, e, hget⟩ := hW.S.hu.form
  subst e
  have ha := gnd_area hm.hg
  refine ACalls.of_body (c := cfg 96) infoOK Tryz.func124 (by rfl) (by rfl) (by rfl) (by rfl) ?_
  refine carrier_spec ⟨hx, hs, hr⟩ hm.hr (by omega) _ ?_
  refine bcne (fun c1 => ?_) (fun c1 => ?_)
  · have := ulE_1 c1
    rw [this] at h
    exact ret (h _ c1)
  obtain ⟨hask, hroom⟩ := carE_zero c1
  obtain ⟨ix, hix, hfx, hidx, hux, _, _⟩ := askE_zero hask
  refine ADraw.of_sched infoOK (by rfl) (by rfl) sch124_4 (by rfl) ?_
  refine optK_intro (o := (F.un (svS G s w _ o0 o1 o2 p)).obj xw) _ hx ?_
  refine optK_intro (o := (F.un (svS G s w _ o0 o1 o2 p)).obj s) _ hs ?_
  refine optK_intro (o := (F.un (svS G s w _ o0 o1 o2 p)).obj xw) _ hx ?_
  refine ⟨is_spec w.G c.T hm.hg _ _ (fun z hz => ⟨trivial, ?_⟩), trivial⟩
  refine ⟨⟨trivial, ?_⟩, trivial⟩
  refine bcnot ?_
  refine bcase_intro (fun c2 => ?_) (fun c2 => ?_)
  rotate_left
  · have := ulE_2 c1 (fun hh => by have := hz.2 hh; rw [this] at c2; cases c2)
    rw [this] at h
    exact ret (h _ (by decide))
  have htile := hz.1 c2
  have htn : c.T = ((c.T.toNat : Nat) : Int) := by omega
  have htl : c.T.toNat < w.G.T.length := by omega
  have hup : (uAt w c.N).pos.ok := uAt_ok hn c.N
  refine ADraw.of_sched infoOK (by rfl) (by rfl) sch124_6 (by rfl) ?_
  refine optK_intro (o := (F.un (svS G s w _ o0 o1 o2 p)).obj xw) _ hx ?_
  refine optK_intro (o := (F.un (svS G s w _ o0 o1 o2 p)).obj s) _ hs ?_
  refine optK_intro (o := (F.un (svS G s w _ o0 o1 o2 p)).obj xw) _ hx ?_
  refine ⟨mid_specI w.G hm.hg c.T.toNat (by omega) _ htn _ _ ⟨?_, ?_⟩, trivial⟩
  · repeat (first | exact trivial | refine ⟨rfl, ?_⟩ | refine ⟨optK_intro (o := (F.un (svS G s w _ o0 o1 o2 p)).obj xw) _ hx rfl, ?_⟩ | refine ⟨optK_intro (o := (F.un (svS G s w _ o0 o1 o2 p)).obj s) _ hs rfl, ?_⟩)
  refine ⟨far_spec (cenV w.G c.T.toNat) (uAt w c.N).pos (cenV_ok hm.hg htl) hup _ _ ⟨(by repeat (first | exact trivial | refine ⟨rfl, ?_⟩ | refine ⟨optK_intro (o := (F.un (svS G s w _ o0 o1 o2 p)).obj xw) _ hx rfl, ?_⟩ | refine ⟨optK_intro (o := (F.un (svS G s w _ o0 o1 o2 p)).obj s) _ hs rfl, ?_⟩)), ?_⟩, trivial⟩
  refine ⟨⟨trivial, ?_⟩, trivial⟩
  refine bcd (fun c3 => ?_) (fun c3 => ?_)
  · have := ulE_3 c1 htile c3
    rw [this] at h
    exact ret (h _ (by decide))
  refine ADraw.of_sched infoOK (by rfl) (by rfl) sch124_8 (by rfl) ?_
  refine optK_intro (o := (F.un (svS G s w _ o0 o1 o2 p)).obj xw) _ hx ?_
  refine optK_intro (o := (F.un (svS G s w _ o0 o1 o2 p)).obj s) _ hs ?_
  rw [hux, hidx]
  refine ⟨inQ_spec hr (by omega) c.N _ ⟨(by repeat (first | exact trivial | refine ⟨rfl, ?_⟩ | refine ⟨optK_intro (o := (F.un (svS G s w _ o0 o1 o2 p)).obj xw) _ hx rfl, ?_⟩ | refine ⟨optK_intro (o := (F.un (svS G s w _ o0 o1 o2 p)).obj s) _ hs rfl, ?_⟩)), ?_⟩, trivial⟩
  have e4 := fun h4 => ulE_4 (w := w) (c := c) c1 htile c3 h4
  have e5 := fun x h4 => ulE_5 (w := w) (c := c) c1 htile c3 (x := x) h4
  have hids := fun id (hid : id ∈ inOf w.U c.N) => inOf_find (w := w) hm.hr hid
  have hin : (inOf w.U c.N).length ≤ w.U.length := by unfold inOf; rw [List.length_map]; exact List.length_filter_le _ _
  generalize inOf w.U c.N = ids at *
  refine AWp.loop (σ := Nat × Wld × Store × Store × List Ent × AV × AV × AV) ⟨fun x => [(0, .av (ptr xw)), (62, .av (ints ids)), (63, .av (int (ids.length : Nat))), (64, .av (int (x.1 : Nat)))], fun _ => [],
    fun x st' => x.1 ≤ ids.length ∧ st' = x.2.2.1.un (svS x.2.2.2.1 s x.2.1 (.s (.slice oa w.U.length cap)) x.2.2.2.2.2.1 x.2.2.2.2.2.2.1 x.2.2.2.2.2.2.2 p) ∧ Work x.2.2.1 x.2.2.2.1 xw s p x.2.1 (.s (.slice oa w.U.length cap)) x.2.2.2.2.1 x.2.2.2.2.2.1 x.2.2.2.2.2.2.1 x.2.2.2.2.2.2.2 c nF ∧ unl c.T (ids.drop x.1) x.2.1 = unl c.T ids w ∧ MayF x.2.1 ∧ (∀ u ∈ x.2.1.U, u.pos.ok) ∧ x.2.1.U.length = w.U.length ∧ x.2.1.G = w.G ∧ ∀ id, findU x.2.1.U id = findU w.U id, fun x => ids.length - x.1⟩ infoOK ?_ ?_
  · refine ⟨(0, w, F, G, L, o0, o1, o2), trivial, ⟨Nat.zero_le _, rfl, hW, by rw [List.drop_zero], hm, hn, rfl, rfl, fun _ => rfl⟩, ⟨LV.le_refl _, LV.le_refl _, ?_, LV.le_refl _, trivial⟩, trivial⟩
    show LV.le (.av (int ((rws intC ids).length : Nat))) (.av (int (ids.length : Nat)))
    rw [rws_len]; exact LV.le_refl _
  rintro ⟨k, wc, F1, G1, L1, q0, q1, q2⟩ st' ⟨hk, rfl, hW1, hun, hm1, hn1, hl1, hG1, hf1⟩
  dsimp only at hk hW1 hun hm1 hn1 hl1 hG1 hf1 ⊢
  have hx1 := hW1.x (F' := F1) (q0 := q0) (q1 := q1) (q2 := q2)
  have hs1 := hW1.s (F' := F1) (q0 := q0) (q1 := q1) (q2 := q2)
  have hr1 := hW1.r (F' := F1) (q0 := q0) (q1 := q1) (q2 := q2)
  refine bcd (fun h1 => ?_) (fun h1 => ?_)
  rotate_left
  · have : k = ids.length := by omega
    subst this
    rw [List.drop_length] at hun
    obtain ⟨g1, g2⟩ := e5 wc hun.symm
    rw [g2] at h0
    exact ret (h0 g1 _ ⟨_, q0, q1, q2, p, hx1, hs1, hr1⟩)
  have hlt : k < ids.length := by omega
  obtain ⟨iu, hiu, hfu⟩ := hids _ (List.getElem_mem hlt)
  have hiu1 : iu < wc.U.length := by omega
  have hfu1 : findU wc.U ids[k] = some iu := by rw [hf1]; exact hfu
  rw [List.drop_eq_getElem_cons hlt] at hun
  refine ⟨k, rfl, optK_intro _ (rws_get hlt) ?_⟩
  refine optK_intro (o := (F1.un (svS G1 s wc _ q0 q1 q2 p)).obj xw) _ hx1 ?_
  refine optK_intro (o := (F1.un (svS G1 s wc _ q0 q1 q2 p)).obj s) _ hs1 ?_
  refine atR_spec hr1 (by omega) hm1.hr ids[k] _ (fun i hi z hz => ?_)
  obtain ⟨g1, g2⟩ := findU_at hm1.hr hz hi
  have hzi : i = iu := by
    cases z with
    | false => rw [g2 rfl] at hfu1; cases hfu1
    | true => rw [g1 rfl] at hfu1; exact Option.some.inj hfu1
  subst hzi
  refine optK_intro (o := (F1.un (svS G1 s wc _ q0 q1 q2 p)).obj xw) _ hx1 ?_
  refine optK_intro (o := (F1.un (svS G1 s wc _ q0 q1 q2 p)).obj s) _ hs1 ?_
  have hget1 := hr1.form
  obtain ⟨oa2, cap2, e2, hget1⟩ := hget1
  simp only [AV.s.injEq, Value.slice.injEq] at e2
  obtain ⟨rfl, _, rfl⟩ := e2
  obtain ⟨b, J, rfl, hob⟩ := hget1 i hiu1
  refine ⟨i, rfl, hiu, ?_⟩
  refine optK_intro (o := (F1.un (svS G1 s wc _ q0 q1 q2 p)).obj b) _ hob ?_
  refine partK_row (i := ti50) (row := untC wc.U[i]) rfl rfl (rows_drop untC_len hiu1) ?_
  refine wout_spec hW1 hm1 hn1 hiu1 c.T.toNat (by rw [hG1]; exact htl) htn _ (fun S' hno => ?_) (fun t2 hso ht2 F2 G2 L2 a0 a1 a2 hW2 _ => ?_)
  · rw [unl_none hiu1 hfu1 hno] at hun
    have g5 := e4 hun.symm
    rw [g5] at h
    exact ret (h _ (by decide))
  · rw [unl_some hiu1 hfu1 hso] at hun
    refine in64 (by omega) ?_
    refine ⟨(k + 1, outW wc i t2 hiu1, F2, G2, L2, a0, a1, a2), ?_, ⟨by dsimp only; omega, rfl, hW2, hun, hm1.put hiu1 rfl (show kindP wc.U[i].kind from hm1.hk _ (List.getElem_mem hiu1)), fun u hu => ?_, ?_, hG1, fun id => ?_⟩, ⟨LV.le_refl _, LV.le_refl _, LV.le_refl _, LV.le_refl _, trivial⟩, trivial⟩
    · show ids.length - (k + 1) < ids.length - k
      omega
    · rcases mem_setU (show u ∈ wc.U.set i _ from hu) with rfl | hu
      · exact cenV_ok hm1.hg ht2
      · exact hn1 u hu
    · show (wc.U.set i _).length = _
      rw [List.length_set]; exact hl1
    · show findU (wc.U.set i (unlU wc.U[i] (cenV wc.G t2))) id = _
      rw [findU_put hm1.hr hiu1 (u := unlU wc.U[i] (cenV wc.G t2)) rfl]
      exact hf1 id
theorem does7 : DoesOK 7 ulE ulW := by
  intro F G xw s p w v L o0 o1 o2 c hW hm hn hc hp hk R h h0
  have hx := hW.x (F' := F) (q0 := o0) (q1 := o1) (q2 := o2)
  refine ACalls.of_body (c := cfg 34) infoOK Tryz.func79 (by rfl) (by rfl) (by rfl) (by rfl) ?_
  refine optK_intro (o := (F.un (svS G s w v o0 o1 o2 p)).obj xw) _ hx ?_
  refine bceq (fun c1 => absurd (hk.symm.trans c1) (by decide)) (fun _ => ?_)
  refine bceq (fun c1 => absurd (hk.symm.trans c1) (by decide)) (fun _ => ?_)
  refine bceq (fun c1 => absurd (hk.symm.trans c1) (by decide)) (fun _ => ?_)
  refine bceq (fun c1 => absurd (hk.symm.trans c1) (by decide)) (fun _ => ?_)
  refine bceq (fun c1 => absurd (hk.symm.trans c1) (by decide)) (fun _ => ?_)
  refine bceq (fun c1 => absurd (hk.symm.trans c1) (by decide)) (fun _ => ?_)
  refine wunload_spec hW (mayF hm) hn _ (fun S' he => ret (h S' he)) (fun he S' hd => ret (h0 he S' hd))
end Go.Proofs
namespace Go.Proofs
open Go Go.V
set_option linter.unusedVariables false
set_option linter.unusedSimpArgs false
theorem center_spec (g : Gnd) (hg : gndP g) (t : Nat) (ht : t < g.T.length) (tI : Int) (htI : tI = (t : Int)) (st : Store) (R : AV → Store → Prop) (h : R (.agg (vecC (cenV g t))) st) : ACalls Tryz.prog 25 [.agg (gndC g), int tI] st R := by
  subst htI
  have ha := gnd_area hg
  have htb := tile_b hg (t := t) (by omega)
  have hq := trem (t := t) hg.1.1
  have hq2 := tquo (t := t) hg.1.1
  have hg1 := hg.1
  have hg2 := hg.2.1
  unfold cenV tx ty at h
  rw [← hq, ← hq2] at h
  refine ACalls.of_body (c := cfg 18) infoOK Tryz.func25 (by rfl) (by rfl) (by rfl) (by rfl) ?_
  refine ADraw.of_sched infoOK (by rfl) (by rfl) sch25_1 (by rfl) ?_
  refine ⟨by omega, ?_⟩
  refine in64 (by omega) ?_
  refine in64 (by omega) ?_
  refine ⟨by omega, ?_⟩
  refine in64 (by omega) ?_
  refine in64 (by omega) ?_
  refine in64 (by omega) ?_
  refine ⟨⟨(by repeat (first | exact trivial | refine ⟨rfl, ?_⟩ | refine ⟨optR (optR (optR (optK_intro _ (setObj_self _ _ _) rfl))), ?_⟩)), ?_⟩, trivial⟩
  exact ret h
theorem rslots_specI (g : Gnd) (hg : gndP g) (l : List Bld) (hl : l.length ≤ 1000000000000) (hb : ∀ b ∈ l, bldP b ∧ onP g b) (c : Int) (hc : c = 0 ∨ c = 1 ∨ c = 2) (size : Int) (hs : 0 ≤ size ∧ size ≤ 3) (goal : Nat) (hgl : goal < g.T.length) (tI : Int) (htI : tI = (goal : Int)) (n : Nat) (hn : n ≤ 1000) (st : Store) (R : AV → Store → Prop) (h : R (ints (natI (slotsL g (goodB g l c size) size tI n))) st) :
    ACalls Tryz.prog 85 [.agg (gndC g), lst 6 bldC l, int c, int size, int tI, int n] st R := by
  subst htI
  exact rslots_spec g hg l hl hb c hc size hs goal hgl n hn st R h
set_option maxHeartbeats 2000000 in
set_option maxRecDepth 20000 in
theorem runload_spec {S : Store} {p : Nat} {w : Wld} {v : AV} (hp : S.obj p = some (.cells (wldV w v))) (hv : RowsQ 10 untC S v w.U) (hoff : offB v p) (hm : MayF w) (hn : ∀ u ∈ w.U, u.pos.ok) (c : Cmd) (R : AV → Store → Prop)
    (h : ∀ S', ulE w c ≠ 0 → R (int (ulE w c)) S') (h0 : ulE w c = 0 → ∀ S' v', S'.obj p = some (.cells (wldV (ulW w c) v')) → RowsQ 10 untC S' v' (ulW w c).U → R (int 0) S') : ACalls Tryz.prog 58 [ptr p, .agg (cmdC c)] S R := by
  have hU := hm.hU
  have hB := hm.hB
  obtain ⟨oa, cap, e, hget⟩ := hv.form
  subst e
  have ha := gnd_area hm.hg
  refine ACalls.of_awp (c := cfg 146) infoOK Tryz.func58 (by rfl) (by rfl) (by rfl) (by rfl) ?_
  refine AWp.seq (AWp.of_vc infoOK ?_)
  refine AWp.seq (AWp.of_vc infoOK ?_)
  refine ADraw.of_sched infoOK (by rfl) (by rfl) sch58_1 (by rfl) ?_
  refine optK_intro (o := S.obj p) _ hp ?_
  refine ⟨rcarrierQ_spec hv (by omega) hm.hk c _ ⟨(by repeat (first | exact trivial | refine ⟨rfl, ?_⟩ | refine ⟨optK_intro (o := S.obj p) _ hp rfl, ?_⟩)), ?_⟩, trivial⟩
  refine ⟨⟨trivial, ?_⟩, trivial⟩
  refine AWp.seq (AWp.of_vc infoOK ?_)
  refine bcne (fun c1 => ?_) (fun c1 => ?_)
  · have := ulE_1 c1
    rw [this] at h
    exact ret (h _ c1)
  obtain ⟨hask, hroom⟩ := carE_zero c1
  obtain ⟨ix, hix, hfx, hidx, hux, _, _⟩ := askE_zero hask
  refine AWp.seq (AWp.of_vc infoOK ?_)
  refine ADraw.of_sched infoOK (by rfl) (by rfl) sch58_4 (by rfl) ?_
  refine optK_intro (o := S.obj p) _ hp ?_
  refine ⟨tile5_spec w.G c.T hm.hg _ _ (fun z hz => ⟨trivial, ?_⟩), trivial⟩
  refine bcnot ?_
  refine bcase_intro (fun c2 => ?_) (fun c2 => ?_)
  rotate_left
  · have := ulE_2 c1 (fun hh => by have := hz.2 hh; rw [this] at c2; cases c2)
    rw [this] at h
    exact ret (h _ (by decide))
  have htile := hz.1 c2
  have htn : c.T = ((c.T.toNat : Nat) : Int) := by omega
  have htl : c.T.toNat < w.G.T.length := by omega
  refine AWp.meetA (σ := Unit) ⟨fun _ => [(0, .av (ptr p)), (3, .bx 3 0), (6, .bx 6 0)], fun _ => [(3, cmdC c), (6, untC w.U[ix])], fun _ st' => st' = S⟩ ?_ ?_
  · refine AWp.of_vc infoOK ?_
    refine ADraw.of_sched infoOK (by rfl) (by rfl) sch58_6 (by rfl) ?_
    refine optK_intro (o := S.obj p) _ hp ?_
    refine optK_intro (o := S.obj p) _ hp ?_
    obtain ⟨b, J, e2, hob⟩ := hget ix hix
    subst e2
    refine ⟨rfindQ_spec hv (by omega) c.N _ ⟨(by repeat (first | exact trivial | refine ⟨rfl, ?_⟩ | refine ⟨optK_intro (o := S.obj p) _ hp rfl, ?_⟩ | refine ⟨⟨ix, rfl, hix, rfl⟩, ?_⟩ | refine ⟨optK_intro (o := S.obj b) _ hob (partK_row (i := ti50) (row := untC w.U[ix]) rfl rfl (rows_drop untC_len hix) rfl), ?_⟩)), ?_⟩, ⟨(by repeat (first | exact trivial | refine ⟨rfl, ?_⟩ | refine ⟨optK_intro (o := S.obj p) _ hp rfl, ?_⟩ | refine ⟨⟨ix, rfl, hix, rfl⟩, ?_⟩ | refine ⟨optK_intro (o := S.obj b) _ hob (partK_row (i := ti50) (row := untC w.U[ix]) rfl rfl (rows_drop untC_len hix) rfl), ?_⟩)), ?_⟩, trivial⟩
    · rw [hfx]
      refine ⟨ix, rfl, hix, ?_⟩
      refine optK_intro (o := S.obj b) _ hob ?_
      refine partK_row (i := ti50) (row := untC w.U[ix]) rfl rfl (rows_drop untC_len hix) ?_
      refine ⟨⟨(by repeat (first | exact trivial | refine ⟨rfl, ?_⟩ | refine ⟨optK_intro (o := S.obj p) _ hp rfl, ?_⟩ | refine ⟨⟨ix, rfl, hix, rfl⟩, ?_⟩ | refine ⟨optK_intro (o := S.obj b) _ hob (partK_row (i := ti50) (row := untC w.U[ix]) rfl rfl (rows_drop untC_len hix) rfl), ?_⟩)), ?_⟩, trivial⟩
      refine ⟨⟨trivial, ?_⟩, trivial⟩
      exact ⟨(), rfl, ⟨LV.le_refl _, LV.le_refl _, LV.le_refl _, trivial⟩, ⟨rfl, rfl, trivial⟩⟩
    · refine ⟨rfindQ_spec hv (by omega) c.N _ ⟨(by repeat (first | exact trivial | refine ⟨rfl, ?_⟩ | refine ⟨optK_intro (o := S.obj p) _ hp rfl, ?_⟩ | refine ⟨⟨ix, rfl, hix, rfl⟩, ?_⟩ | refine ⟨optK_intro (o := S.obj b) _ hob (partK_row (i := ti50) (row := untC w.U[ix]) rfl rfl (rows_drop untC_len hix) rfl), ?_⟩)), ?_⟩, trivial⟩
      rw [hfx]
      refine ⟨ix, rfl, hix, ?_⟩
      refine optK_intro (o := S.obj b) _ hob ?_
      refine partK_row (i := ti50) (row := untC w.U[ix]) rfl rfl (rows_drop untC_len hix) ?_
      refine ⟨⟨trivial, ?_⟩, trivial⟩
      exact ⟨(), rfl, ⟨LV.le_refl _, LV.le_refl _, LV.le_refl _, trivial⟩, ⟨rfl, rfl, trivial⟩⟩
  rintro _ S rfl
  refine AWp.of_vc infoOK ?_
  refine ADraw.of_sched infoOK (by rfl) (by rfl) sch58_7 (by rfl) ?_
  refine optK_intro (o := S.obj p) _ hp ?_
  refine ⟨center_spec w.G hm.hg c.T.toNat htl _ htn _ _ ⟨(by repeat (first | exact trivial | refine ⟨rfl, ?_⟩ | refine ⟨optK_intro (o := S.obj p) _ hp rfl, ?_⟩)), ?_⟩, trivial⟩
  refine ⟨rfar_spec (cenV w.G c.T.toNat) w.U[ix].pos (cenV_ok hm.hg htl) (hn _ (List.getElem_mem hix)) _ _ ⟨trivial, ?_⟩, trivial⟩
  refine bcd (fun c3 => ?_) (fun c3 => ?_)
  · have := ulE_3 c1 htile (by rw [hux]; exact c3)
    rw [this] at h
    exact ret (h _ (by decide))
  have e4 := fun h4 => ulE_4 (w := w) (c := c) c1 htile (by rw [hux]; exact c3) h4
  have e5 := fun x h4 => ulE_5 (w := w) (c := c) c1 htile (by rw [hux]; exact c3) (x := x) h4
  have hids := fun id (hid : id ∈ inOf w.U c.N) => inOf_find (w := w) hm.hr hid
  have hin : (inOf w.U c.N).length ≤ w.U.length := by unfold inOf; rw [List.length_map]; exact List.length_filter_le _ _
  refine ADraw.of_sched infoOK (by rfl) (by rfl) sch58_9 (by rfl) ?_
  refine optK_intro (o := S.obj p) _ hp ?_
  refine ⟨rridersQ_spec hv (by omega) c.N _ ⟨(by repeat (first | exact trivial | refine ⟨rfl, ?_⟩ | refine ⟨optK_intro (o := S.obj p) _ hp rfl, ?_⟩)), ?_⟩, trivial⟩
  refine ⟨⟨trivial, ?_⟩, trivial⟩
  generalize inOf w.U c.N = ids at *
  refine AWp.loop (σ := Nat × Wld × Store) ⟨fun x => [(0, .av (ptr p)), (3, .bx 3 0), (7, .av (ints ids)), (8, .av (int (x.1 : Nat)))], fun _ => [(3, cmdC c)],
    fun x st' => x.1 ≤ ids.length ∧ st' = x.2.2 ∧ x.2.2.obj p = some (.cells (wldV x.2.1 (.s (.slice oa w.U.length cap)))) ∧ RowsQ 10 untC x.2.2 (.s (.slice oa w.U.length cap)) x.2.1.U ∧ unl c.T (ids.drop x.1) x.2.1 = unl c.T ids w ∧ MayF x.2.1 ∧ (∀ u ∈ x.2.1.U, u.pos.ok) ∧ x.2.1.U.length = w.U.length ∧ x.2.1.G = w.G ∧ ∀ id, findU x.2.1.U id = findU w.U id, fun x => ids.length - x.1⟩ infoOK ?_ ?_
  · exact ⟨(0, w, S), trivial, ⟨Nat.zero_le _, rfl, hp, hv, by rw [List.drop_zero], hm, hn, rfl, rfl, fun _ => rfl⟩, ⟨LV.le_refl _, LV.le_refl _, LV.le_refl _, LV.le_refl _, trivial⟩, ⟨rfl, trivial⟩⟩
  rintro ⟨k, wc, S0⟩ S1 ⟨hk, rfl, hp1, hr1, hun, hm1, hn1, hl1, hG1, hf1⟩
  dsimp only at hk hp1 hr1 hun hm1 hn1 hl1 hG1 hf1 ⊢
  refine bcase_intro (fun h1 => ?_) (fun h1 => ?_)
  rotate_left
  · have hkl : k = ids.length := ge_len h1 hk
    subst hkl
    rw [List.drop_length] at hun
    obtain ⟨g1, g2⟩ := e5 wc hun.symm
    rw [g2] at h0
    exact ret (h0 g1 _ _ hp1 hr1)
  have hlt := lt_len h1
  obtain ⟨iu, hiu, hfu⟩ := hids _ (List.getElem_mem hlt)
  have hiu1 : iu < wc.U.length := by omega
  have hfu1 : findU wc.U ids[k] = some iu := by rw [hf1]; exact hfu
  rw [List.drop_eq_getElem_cons hlt] at hun
  have hr9 := hr1
  rcases hr1 with (⟨_, hl0⟩ | ⟨b, cap', J, e, ho, hc1, hc2, hc3⟩) | ⟨_, _, _, hl0⟩
  · rw [hl0] at hiu1; exact absurd hiu1 (Nat.not_lt_zero iu)
  rotate_left
  · rw [hl0] at hiu1; exact absurd hiu1 (Nat.not_lt_zero iu)
  simp only [AV.s.injEq, Value.slice.injEq] at e
  obtain ⟨rfl, e7, rfl⟩ := e
  have hcap : 0 < cap := by omega
  have hbp : b ≠ p := hoff b _ _ rfl hcap
  refine ADraw.of_sched infoOK (by rfl) (by rfl) sch58_13 (by rfl) ?_
  refine optK_intro (o := S1.obj p) _ hp1 ?_
  refine optK_intro (o := S1.obj p) _ hp1 ?_
  refine ⟨k, rfl, optK_intro _ (rws_get hlt) ?_⟩
  refine ⟨rfindQ_spec hr9 (by omega) ids[k] _ ⟨(by repeat (first | exact trivial | refine ⟨rfl, ?_⟩ | refine ⟨⟨k, rfl, optK_intro _ (rws_get hlt) rfl⟩, ?_⟩ | refine ⟨optK_intro (o := S1.obj p) _ hp1 rfl, ?_⟩)), ?_⟩, trivial⟩
  rw [hfu1]
  refine ⟨iu, rfl, hiu, ?_⟩
  refine ⟨⟨trivial, ?_⟩, trivial⟩
  have fld : ∀ j, (hj : j < 10) → ∀ {y : AV}, (untC wc.U[iu])[j]? = some y → (((rws untC wc.U).flatten ++ J).drop (0 + iu * 10 + j)).head? = some y := fun j hj y hy => head_fld hiu1 hj hy
  refine optK_intro (o := S1.obj b) _ ho ?_
  refine optK_intro (o := List.head? _) (int wc.U[iu].kind) (fld 2 (by decide) rfl) ?_
  refine rkind_spec wc.U[iu].kind (hm1.hk _ (List.getElem_mem hiu1)) _ _ ?_
  refine ADraw.of_sched infoOK (by rfl) (by rfl) sch58_15 (by rfl) ?_
  refine optK_intro (o := S1.obj p) _ hp1 ?_
  refine optK_intro (o := S1.obj p) _ hp1 ?_
  refine ⟨rslots_specI wc.G hm1.hg wc.B (by have := hm1.hB; omega) hm1.hb (kCls wc.U[iu].kind) (kCls_b _) (kSize wc.U[iu].kind) (kSize_b _) c.T.toNat (by rw [hG1]; exact htl) c.T htn 64 (by decide) _ _ ⟨(by repeat (first | exact trivial | refine ⟨rfl, ?_⟩ | refine ⟨optK_intro (o := S1.obj p) _ hp1 rfl, ?_⟩)), ?_⟩, trivial⟩
  refine ⟨⟨trivial, ?_⟩, trivial⟩
  have hsu : slotsL wc.G (goodB wc.G wc.B (kCls wc.U[iu].kind) (kSize wc.U[iu].kind)) (kSize wc.U[iu].kind) c.T 64 = slotsU wc (wc.U[iu]'hiu1).kind c.T 64 := rfl
  rw [hsu]
  have hlen := slotsU_len wc wc.U[iu].kind c.T 64
  have hlt3 := fun (t2 : Nat) (h2 : t2 ∈ slotsU wc wc.U[iu].kind c.T 64) => (slotsU_lt h2).1
  have hsome := fun (j : Nat) (hj : j < (slotsU wc (wc.U[iu]'hiu1).kind c.T 64).length) => outF_some (w := wc) (u := wc.U[iu]'hiu1) (tile := c.T) (j := j) hj
  have hnone := outF_none (w := wc) (u := wc.U[iu]'hiu1) (tile := c.T)
  generalize slotsU wc wc.U[iu].kind c.T 64 = sl at *
  refine AWp.loop (σ := Nat × Int) ⟨fun x => [(0, .av (ptr p)), (3, .bx 3 0), (7, .av (ints ids)), (8, .av (int (k : Nat))), (9, .av (.s (.pointer (some ⟨b, 0 + iu * 10, none⟩)))), (11, .av (ints (natI sl))), (12, .av (int x.2)), (13, .av (int (x.1 : Nat)))], fun _ => [(3, cmdC c)],
    fun x st' => x.1 ≤ sl.length ∧ st' = S1 ∧ ((x.2 = -1 ∧ ∀ j, (hj : j < sl.length) → j < x.1 → ¬ clearP wc wc.U[iu].id wc.U[iu].kind (cenV wc.G sl[j])) ∨ ∃ t2 : Nat, x.2 = t2 ∧ t2 < wc.G.T.length ∧ outF wc wc.U[iu] c.T = some t2), fun x => sl.length - x.1⟩ infoOK ?_ ?_
  · exact ⟨(0, -1), trivial, ⟨Nat.zero_le _, rfl, .inl ⟨rfl, fun j _ hj => by dsimp only at hj; omega⟩⟩, ⟨LV.le_refl _, LV.le_refl _, LV.le_refl _, LV.le_refl _, LV.le_refl _, LV.le_refl _, LV.le_refl _, LV.le_refl _, trivial⟩, ⟨rfl, trivial⟩⟩
  rintro ⟨j, at1⟩ S1 ⟨hj, rfl, hat⟩
  dsimp only at hj hat ⊢
  rcases hat with ⟨rfl, hall⟩ | ⟨t2, rfl, ht2, hso⟩
  · refine bcd (fun c5 => ?_) (fun c5 => ?_)
    rotate_left
    · rw [rws_len, natI_len] at c5
      have hno := hnone fun j' hj' => hall j' hj' (by omega)
      rw [unl_none hiu1 hfu1 hno] at hun
      have g5 := e4 hun.symm
      rw [g5] at h
      exact ret (h _ (by decide))
    rw [rws_len, natI_len] at c5
    have hjl : j < sl.length := by omega
    have hjl2 : j < (natI sl).length := by rw [natI_len]; exact hjl
    have hsl := hlt3 _ (List.getElem_mem hjl)
    have hnat : (natI sl)[j]'hjl2 = ((sl[j] : Nat) : Int) := List.getElem_map ..
    have hdec : sl.length - (j + 1) < sl.length - j := by omega
    refine ADraw.of_sched infoOK (by rfl) (by rfl) sch58_20 (by rfl) ?_
    refine optK_intro (o := S1.obj p) _ hp1 ?_
    refine optK_intro (o := S1.obj b) _ ho ?_
    refine optK_intro (o := List.head? _) (int wc.U[iu].id) (fld 0 (by decide) rfl) ?_
    refine optK_intro (o := S1.obj b) _ ho ?_
    refine optK_intro (o := List.head? _) (int wc.U[iu].kind) (fld 2 (by decide) rfl) ?_
    refine optK_intro (o := S1.obj p) _ hp1 ?_
    refine ⟨j, rfl, optK_intro _ (rws_get hjl2) ?_⟩
    refine ⟨center_spec wc.G hm1.hg sl[j] hsl _ hnat _ _ ⟨(by repeat (first | exact trivial | refine ⟨rfl, ?_⟩ | refine ⟨optK_intro (o := S1.obj p) _ hp1 rfl, ?_⟩ | refine ⟨optK_intro (o := S1.obj b) _ ho (optK_intro (o := List.head? _) _ (fld 0 (by decide) rfl) rfl), ?_⟩ | refine ⟨optK_intro (o := S1.obj b) _ ho (optK_intro (o := List.head? _) _ (fld 2 (by decide) rfl) rfl), ?_⟩ | refine ⟨⟨j, rfl, optK_intro _ (rws_get hjl2) rfl⟩, ?_⟩)), ?_⟩, trivial⟩
    refine ⟨rclearQ_spec hr9 hm1 hn1 wc.U[iu].id wc.U[iu].kind (hm1.hk _ (List.getElem_mem hiu1)) (cenV wc.G sl[j]) (cenV_ok hm1.hg hsl) _ (fun z hz => ⟨trivial, ?_⟩), trivial⟩
    refine bcase_intro (fun c6 => ?_) (fun c6 => ?_)
    · refine ⟨j, rfl, optK_intro _ (rws_get hjl2) ?_⟩
      have hout := hsome j hjl (fun i' hi' hii => hall i' hi' hii) (hz.1 c6)
      refine in64 (by omega) ?_
      exact ⟨(j + 1, (natI sl)[j]'hjl2), hdec, ⟨by dsimp only; omega, rfl, .inr ⟨sl[j], hnat, hsl, hout⟩⟩, ⟨LV.le_refl _, LV.le_refl _, LV.le_refl _, LV.le_refl _, LV.le_refl _, LV.le_refl _, LV.le_refl _, LV.le_refl _, trivial⟩, ⟨rfl, trivial⟩⟩
    · refine in64 (by omega) ?_
      refine ⟨(j + 1, -1), hdec, ⟨by dsimp only; omega, rfl, .inl ⟨rfl, fun j' hj' hjj => ?_⟩⟩, ⟨LV.le_refl _, LV.le_refl _, LV.le_refl _, LV.le_refl _, LV.le_refl _, LV.le_refl _, LV.le_refl _, LV.le_refl _, trivial⟩, ⟨rfl, trivial⟩⟩
      by_cases e : j' = j
      · subst e
        intro hh
        have := hz.2 hh
        rw [this] at c6; cases c6
      · exact hall j' hj' (by dsimp only at hjj; omega)
  · rw [unl_some hiu1 hfu1 hso] at hun
    have hk1 : MayF { wc with U := wc.U.set iu (unlU wc.U[iu] (cenV wc.G t2)) } := hm1.put hiu1 rfl (show kindP wc.U[iu].kind from hm1.hk _ (List.getElem_mem hiu1))
    have hnn : ∀ u ∈ wc.U.set iu (unlU wc.U[iu] (cenV wc.G t2)), u.pos.ok := fun u hu => by
      rcases mem_setU hu with rfl | hu
      · exact cenV_ok hm1.hg ht2
      · exact hn1 u hu
    have hff : ∀ id, findU (wc.U.set iu (unlU wc.U[iu] (cenV wc.G t2))) id = findU w.U id := fun id => by
      rw [findU_put hm1.hr hiu1 (u := unlU wc.U[iu] (cenV wc.G t2)) rfl]
      exact hf1 id
    have hll : (wc.U.set iu (unlU wc.U[iu] (cenV wc.G t2))).length = w.U.length := by rw [List.length_set]; exact hl1
    have u1 : RowsQ 10 untC S1 (.s (.slice (some ⟨b, 0, none⟩) w.U.length cap)) wc.U := hr9
    refine bcd (fun c5 => ?_) (fun c5 => ?_)
    all_goals
      refine optK_intro (o := S1.obj p) _ hp1 ?_
      refine center_spec wc.G hm1.hg t2 ht2 _ rfl _ _ ?_
      refine storeK_obj (i := ti3) (v := int 0) (b := b) (o := 0 + iu * 10 + 8) (l := (rws untC wc.U).flatten ++ J) rfl rfl rfl ho (show 0 + iu * 10 + 8 + 1 ≤ _ by rw [List.length_append, rws_flat_len untC_len]; omega) ?_
      have q1 := fld_setL (x' := { wc.U[iu] with inn := 0 }) (ys := [int 0]) (j := 8) ho hiu1 (by decide) rfl
      have p1 := (setObj_ne (st := S1) (x := .cells (splice ((rws untC wc.U).flatten ++ J) (0 + iu * 10 + 8) [int 0])) (Ne.symm hbp)).trans hp1
      generalize S1.setObj b _ = S2 at q1 p1 ⊢
      refine storeK_objL (i := ti38) (v := .agg (vecC (cenV wc.G t2))) (xs := vecC (cenV wc.G t2)) (b := b) (o := 0 + iu * 10 + 3) (l := (rws untC (wc.U.set iu { wc.U[iu] with inn := 0 })).flatten ++ J) rfl rfl rfl q1 (show 0 + iu * 10 + 3 + 2 ≤ _ by rw [List.length_append, rws_flat_len untC_len, List.length_set]; omega) ?_
      have q2 := fld_setL (x' := unlU wc.U[iu] (cenV wc.G t2)) (ys := vecC (cenV wc.G t2)) (j := 3) q1 (by rw [List.length_set]; exact hiu1) (show 3 + 2 ≤ 10 by decide) (by rw [List.getElem_set_self]; rfl)
      rw [List.set_set] at q2
      have p2 := (setObj_ne (st := S2) (x := .cells (splice ((rws untC (wc.U.set iu { wc.U[iu] with inn := 0 })).flatten ++ J) (0 + iu * 10 + 3) (vecC (cenV wc.G t2)))) (Ne.symm hbp)).trans p1
      generalize S2.setObj b _ = S3 at q2 p2 ⊢
      refine in64 (by omega) ?_
      refine ⟨(k + 1, { wc with U := wc.U.set iu (unlU wc.U[iu] (cenV wc.G t2)) }, S3), ?_, ⟨by dsimp only; omega, rfl, p2, .inl (.inr ⟨b, cap, J, by rw [hll], q2, by rw [List.length_set]; exact hc1, by rw [List.length_set]; exact hc2, hc3⟩), hun, hk1, hnn, hll, hG1, hff⟩, ⟨LV.le_refl _, LV.le_refl _, LV.le_refl _, LV.le_refl _, trivial⟩, ⟨rfl, trivial⟩⟩
      show ids.length - (k + 1) < ids.length - k
      omega
set_option maxHeartbeats 1000000 in
theorem rapply7_raw (w : Wld) (hw : w.fits) (hn : ∀ u ∈ w.U, u.pos.ok) (hU : w.U.length ≤ 1000000) (c : Cmd) (hc : c.fits) (hK : c.K = 7) : ACalls Tryz.prog 34 [.agg (wldC w), .agg (cmdC c)] Store.empty (DoQ ulE ulW w c) := by
  refine ACalls.of_body (c := cfg 97 [6] []) infoOK Tryz.func34 (by rfl) (by rfl) (by rfl) (by rfl) ?_
  have bad : (¬ mayP w ∨ ¬ cmdP c ∨ w.players < c.P) → DoQ ulE ulW w c (.tup [.agg (wldC w), int 1]) Store.empty := fun hb => by
    have he := doE_bad (E := ulE) (w := w) (c := c) hb
    exact .inl ⟨by rw [he]; decide, by rw [he]⟩
  refine rmay_spec w hw hn _ _ (fun z hz => ?_)
  refine bcnot ?_
  refine bcase_intro (fun c1 => ?_) (fun c1 => ?_)
  rotate_left
  · exact ret (bad (.inl fun hh => by have := hz.2 hh; rw [this] at c1; cases c1))
  refine command21_specC c hc _ _ (fun zc hzc => ?_)
  refine bcnot ?_
  refine bcase_intro (fun c2 => ?_) (fun c2 => ?_)
  rotate_left
  · exact ret (bad (.inr (.inl fun hh => by have := hzc.2 hh; rw [this] at c2; cases c2)))
  refine bcd (fun c3 => ?_) (fun c3 => ?_)
  · exact ret (bad (.inr (.inr (by omega))))
  have hm := hz.1 c1
  have hcp := hzc.1 c2
  have he := doE_ok (E := ulE) hm hcp (show c.P ≤ w.players by omega)
  refine copyWorldR_spec w hw hU _ _ (fun v N hv _ => ?_)
  rw [un_empty]
  have hv := hv.q
  have hoff := fun (p : Nat) (hp : Fresh N p) => offB_fresh hv (not_has (fresh_iff.1 hp)).1
  obtain ⟨oa, cap, e, _⟩ := hv.form
  subst e
  refine fun p hp => ?_
  refine storeK_objL (i := ti28) (v := .agg (wldV w (.s (.slice oa w.U.length cap)))) (xs := wldV w (.s (.slice oa w.U.length cap))) (b := p) (o := 0) (l := _) rfl rfl rfl (setObj_self _ _ _) (show 0 + 8 ≤ 8 by decide) ?_
  generalize hS : (N.setObj p _).setObj p _ = S
  have hp2 : S.obj p = some (.cells (wldV w (.s (.slice oa w.U.length cap)))) := by rw [← hS]; exact setObj_self _ _ _
  have hr2 : RowsQ 10 untC S (.s (.slice oa w.U.length cap)) w.U := by rw [← hS]; exact (hv.set (hoff p hp) _).set (hoff p hp) _
  refine bceq (fun h => absurd (hK.symm.trans h) (by decide)) (fun _ => ?_)
  refine bceq (fun h => absurd (hK.symm.trans h) (by decide)) (fun _ => ?_)
  refine bceq (fun h => absurd (hK.symm.trans h) (by decide)) (fun _ => ?_)
  refine bceq (fun h => absurd (hK.symm.trans h) (by decide)) (fun _ => ?_)
  refine bceq (fun h => absurd (hK.symm.trans h) (by decide)) (fun _ => ?_)
  refine bceq (fun h => absurd (hK.symm.trans h) (by decide)) (fun _ => ?_)
  refine bceq (fun _ => ?_) (fun h => absurd hK h)
  refine runload_spec hp2 hr2 (hoff p hp) (mayF hm) hn c _ (fun S' hE => ?_) (fun hE S' v' g1 g2 => ?_)
  · refine bcne (fun _ => ?_) (fun h => absurd h hE)
    exact ret (.inl ⟨by rw [he]; exact hE, by rw [he]; rfl⟩)
  · obtain ⟨oa2, cap2, e2, _⟩ := g2.form
    subst e2
    refine optK_intro (o := S'.obj p) _ g1 ?_
    exact ret (.inr ⟨he.trans hE, _, g2, rfl⟩)
theorem ref7 : RefOK 7 ulE ulW := fun w hw hn hU c hc hK R h => doQ_froz (rapply7_raw w hw hn hU c hc hK) R h
theorem unl_len {tile : Int} : ∀ (l : List Int) (w x : Wld), unl tile l w = some x → x.G = w.G ∧ x.B = w.B ∧ x.U.length = w.U.length
  | [], w, x, h => by
    have : w = x := Option.some.inj h
    subst this
    exact ⟨rfl, rfl, rfl⟩
  | id :: l, w, x, h => by
    cases hf : findU w.U id with
    | none =>
      have : unl tile (id :: l) w = none := by
        show (match findU w.U id with | none => none | some i => _) = _
        rw [hf]
      rw [this] at h; cases h
    | some i =>
      obtain ⟨hi, _⟩ := findU_some hf
      cases ho : outF w w.U[i] tile with
      | none => rw [unl_none hi hf ho] at h; cases h
      | some t =>
        rw [unl_some hi hf ho] at h
        obtain ⟨h1, h2, h3⟩ := unl_len l _ x h
        exact ⟨h1, h2, by rw [h3]; exact List.length_set⟩
theorem ulW_len (w : Wld) (c : Cmd) (hm : mayP w) (hg : ¬ greatP w) : (ulW w c).G.T.length ≤ 1000000 ∧ (ulW w c).B.length ≤ 1000000 ∧ (ulW w c).U.length ≤ 1000000 := by
  unfold greatP at hg
  unfold ulW
  cases h : unl c.T (inOf w.U c.N) w with
  | none =>
    show w.G.T.length ≤ _ ∧ w.B.length ≤ _ ∧ w.U.length ≤ _
    omega
  | some x =>
    obtain ⟨h1, h2, h3⟩ := unl_len _ _ _ h
    show x.G.T.length ≤ _ ∧ x.B.length ≤ _ ∧ x.U.length ≤ _
    rw [h1, h2, h3]
    omega
theorem applyUnloads_law (s : Scr) (hn : ∀ u ∈ s.W.U, u.pos.ok) (hf : ∀ c ∈ s.L, c.sized) (st : Store) (R : AV → Store → Prop) (h : R (V.bool true) st) : ACalls Tryz.prog 10 [.agg (scrC s)] st R := by
  refine ACalls.of_body (c := cfg 5) infoOK Tryz.func10 (by rfl) (by rfl) (by rfl) (by rfl) ?_
  refine only23_spec does7 ref7 ulW_len wakes23_spec s hn hf _ _ ?_
  exact ret h
end Go.Proofs
