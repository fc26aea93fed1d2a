/- The ground on which laws of thronglaw23 are proved: contracts of functions and plain lemmas; no condition beyond the row's own. -/
import Derived.Test.YtlmechfgnfepoaaGreatSK
import Derived.Test.YtlmechfgnfepoaaGreatSN
import Derived.Test.YtlmechfgnfepoaaGreatSM
set_option linter.unusedSimpArgs false
set_option linter.unusedVariables false
namespace Go.Proofs
open Go Go.V
set_option linter.unusedVariables false
set_option linter.unusedSimpArgs false
theorem kSize_b (k : Int) : 0 ≤ kSize k ∧ kSize k ≤ 3 := by unfold kSize; split <;> decide
set_option maxHeartbeats 1000000 in
set_option maxRecDepth 20000 in
/-- Good places about a tile, told by a place of work. -/
theorem wabout_spec {S : Store} {xw s p : Nat} {w : Wld} {v o0 o1 o2 : AV} {c : Cmd} (ha : AtW S xw s p w v o0 o1 o2 c nF) (hm : MayF w) (k : Int) (t : Nat) (ht : t < w.G.T.length) (n : Nat) (hn : n ≤ 1000) (R : AV → Store → Prop) (h : R (ints (natI (slotsU w k (t : Int) n))) S) : ACalls Tryz.prog 164 [ptr xw, int k, int t, int n] S R := by
  obtain ⟨hx, hs, hv⟩ := ha
  obtain ⟨oa, cap, e, hget⟩ := hv.form
  subst e
  refine ACalls.of_body (c := cfg 53) infoOK Tryz.func164 (by rfl) (by rfl) (by rfl) (by rfl) ?_
  refine what_spec k _ _ ?_
  refine ADraw.of_sched infoOK (by rfl) (by rfl) sch164_2 (by rfl) ?_
  refine optK_intro (o := S.obj xw) _ hx ?_
  refine optK_intro (o := S.obj s) _ hs ?_
  refine optK_intro (o := S.obj xw) _ hx ?_
  refine optK_intro (o := S.obj xw) _ hx ?_
  refine optK_intro (o := S.obj s) _ hs ?_
  refine optK_intro (o := S.obj xw) _ hx ?_
  refine optK_intro (o := S.obj s) _ hs ?_
  refine ⟨fopen_spec w.G hm.hg w.B (by have := hm.hB; omega) hm.hb (kCls k) (kSize k) (kSize_b k) _ _ (fun b hf => ?_), trivial⟩
  have hbx : xw ≠ b := fun e => by have := hf.1; rw [← e, hx] at this; cases this
  have hbs : s ≠ b := fun e => by have := hf.1; rw [← e, hs] at this; cases this
  have hx2 : (S.setObj b (.cells (netC w.G w.B (kCls k) (kSize k)))).obj xw = some (.cells (wkC s c nF)) := (setObj_ne hbx).trans hx
  have hs2 : (S.setObj b (.cells (netC w.G w.B (kCls k) (kSize k)))).obj s = some (.cells (svC w (.s (.slice oa w.U.length cap)) o0 o1 o2 p)) := (setObj_ne hbs).trans hs
  have hb2 : (S.setObj b (.cells (netC w.G w.B (kCls k) (kSize k)))).obj b = some (.cells (netC w.G w.B (kCls k) (kSize k))) := setObj_self _ _ _
  have hback : (S.setObj b (.cells (netC w.G w.B (kCls k) (kSize k)))).Has S := has_setObj hf.1
  generalize S.setObj b (.cells (netC w.G w.B (kCls k) (kSize k))) = S2 at *
  refine ⟨?_, ?_⟩
  · repeat (first | exact trivial | refine ⟨rfl, ?_⟩ | refine ⟨optK_intro (o := S2.obj xw) _ hx2 rfl, ?_⟩ | refine ⟨optK_intro (o := S2.obj s) _ hs2 rfl, ?_⟩)
  refine optK_intro (o := S2.obj b) _ hb2 ?_
  refine ⟨about_spec w.G hm.hg (goodB w.G w.B (kCls k) (kSize k)) (kSize k) (kSize_b k) t ht n hn _ _ ⟨(by repeat (first | exact trivial | refine ⟨rfl, ?_⟩ | refine ⟨optR (optR (optR (optK_intro _ (setObj_self _ _ _) rfl))), ?_⟩)), ?_⟩, trivial⟩
  refine ⟨⟨trivial, ?_⟩, trivial⟩
  exact retHas (AV.le_refl _) hback h
theorem wabout_specI {S : Store} {xw s p : Nat} {w : Wld} {v o0 o1 o2 : AV} {c : Cmd} (ha : AtW S xw s p w v o0 o1 o2 c nF) (hm : MayF w) (k : Int) (t : Nat) (ht : t < w.G.T.length) (tI : Int) (htI : tI = (t : Int)) (n : Nat) (hn : n ≤ 1000) (R : AV → Store → Prop) (h : R (ints (natI (slotsU w k tI n))) S) : ACalls Tryz.prog 164 [ptr xw, int k, int tI, int n] S R := by
  subst htI
  exact wabout_spec ha hm k t ht n hn R h
end Go.Proofs
namespace Go.Proofs
open Go Go.V
set_option linter.unusedVariables false
set_option linter.unusedSimpArgs false
theorem mem_setU {U : List Unt} {i : Nat} {x u : Unt} (h : u ∈ U.set i x) : u = x ∨ u ∈ U := by
  rcases List.mem_or_eq_of_mem_set h with h | h
  · exact .inr h
  · exact .inl h
theorem MayF.put {w : Wld} (h : MayF w) {i : Nat} (hi : i < w.U.length) {u : Unt} (hid : w.U[i].id = u.id) (hk : kindP u.kind) : MayF { w with U := w.U.set i u } :=
  ⟨h.hg, h.hB, by show (w.U.set i u).length ≤ _; rw [List.length_set]; exact h.hU, h.hT, h.hb, fun x hx => by
    rcases mem_setU (show x ∈ w.U.set i u from hx) with rfl | hx
    · exact hk
    · exact h.hk x hx, rises_put h.hr hi hid, h.hn1, h.hn2⟩
end Go.Proofs
namespace Go.Proofs
open Go Go.V
set_option linter.unusedVariables false
set_option linter.unusedSimpArgs false
def slO (cs : List (Int × List Nat)) (bs : List Nat) (clk : Nat) : AObj := .map (cs.map (entI fun l => ints (natI l))) bs clk
def slV (m : Nat) : AV := .s (.map (some m))
/-- What a map of places says is true. -/
def slOK (w : Wld) (c : Cmd) (cs : List (Int × List Nat)) : Prop := ∀ kd l, getI cs kd = some l → l = slotsU w kd c.T c.U.length
/-- A step of a way: units put, a map beside. -/
structure MvS (F G G0 : Store) (xw s p m : Nat) (w : Wld) (v : AV) (L : List Ent) (n : Nat) (o0 o1 o2 : AV) (c : Cmd) (k : Nat) (cs : List (Int × List Nat)) (bs : List Nat) (clk : Nat) : Prop where
  S : StandR F G s p { w with U := mvL w c k } v L o0 o1 o2
  keep : ∀ q, offB v q → q ≠ m → G.obj q = G0.obj q
  hm : G.obj m = some (slO cs bs clk)
  hl : L.length ≤ n + k
  ok : ∀ e ∈ L, e.2.ok
  sl : slOK w c cs
theorem mayF_mv {w : Wld} (hm : MayF w) (c : Cmd) (k : Nat) : MayF { w with U := mvL w c k } :=
  ⟨hm.hg, hm.hB, by show (mvL w c k).length ≤ _; rw [mvL_len]; exact hm.hU, hm.hT, hm.hb, fun u hu => by
    obtain ⟨x, hx, _, _, e, _⟩ := mvL_mem hu
    rw [e]; exact hm.hk x hx, mvL_rises hm.hr c k, hm.hn1, hm.hn2⟩
theorem svS_other {F G : Store} {s p : Nat} {w : Wld} {v : AV} {o0 o1 o2 : AV} {m : Nat} {x : AObj} (h : G.obj m = some x) (hms : m ≠ s) : (F.un (svS G s w v o0 o1 o2 p)).obj m = some x := un_r (by
  show (G.setObj s _).obj m = _
  rw [setObj_ne hms]; exact h)
/-- The map is changed. -/
theorem MvS.upd {F G G0 : Store} {xw s p m : Nat} {w : Wld} {v : AV} {L : List Ent} {n : Nat} {o0 o1 o2 : AV} {c : Cmd} {k : Nat} {cs : List (Int × List Nat)} {bs : List Nat} {clk : Nat} (h : MvS F G G0 xw s p m w v L n o0 o1 o2 c k cs bs clk) (hms : m ≠ s) (hoff : offB v m) {cs' : List (Int × List Nat)} (bs' : List Nat) (clk' : Nat) (hs : slOK w c cs') :
    MvS F (G.setObj m (slO cs' bs' clk')) G0 xw s p m w v L n o0 o1 o2 c k cs' bs' clk' ∧ (F.un (svS G s { w with U := mvL w c k } v o0 o1 o2 p)).setObj m (slO cs' bs' clk') = F.un (svS (G.setObj m (slO cs' bs' clk')) s { w with U := mvL w c k } v o0 o1 o2 p) := by
  refine ⟨⟨⟨h.S.hc, fun i h1 h2 => h.S.hd i h1 (svS_has.2 ?_), ?_, h.S.hu.set hoff _, h.S.h0, h.S.h1, h.S.h2⟩, fun q h1 h2 => ?_, setObj_self _ _ _, h.hl, h.ok, hs⟩, ?_⟩
  · rcases svS_has.1 h2 with h2 | h2
    · exact .inl h2
    · rcases has_setObj_iff.1 h2 with rfl | h2
      · exact .inr (has_obj h.hm)
      · exact .inr h2
  · rw [setObj_ne (Ne.symm hms)]; exact h.S.hs
  · rw [setObj_ne h2]; exact h.keep q h1 h2
  · rw [un_setObj]
    unfold svS
    rw [setObj_comm hms]
set_option maxHeartbeats 2000000 in
set_option maxRecDepth 20000 in
theorem wmove_spec {F G : Store} {xw s p : Nat} {w : Wld} {v : AV} {L : List Ent} {o0 o1 o2 : AV} {c : Cmd} (hW : Work F G xw s p w v L o0 o1 o2 c nF) (hm : MayF w) (hn : ∀ u ∈ w.U, u.pos.ok) (hcU : c.U.length ≤ 64) (R : AV → Store → Prop)
    (h : ∀ S', mvE w c ≠ 0 → R (int (mvE w c)) S') (h0 : mvE w c = 0 → ∀ S', Done S' xw s c nF (mvW w c) → R (int 0) S') : ACalls Tryz.prog 119 [ptr xw] (F.un (svS G s w v o0 o1 o2 p)) R := by
  have hU := hm.hU
  have hx := hW.x (F' := F) (q0 := o0) (q1 := o1) (q2 := o2)
  have hs := hW.s (F' := F) (q0 := o0) (q1 := o1) (q2 := o2)
  have hr := hW.r (F' := F) (q0 := o0) (q1 := o1) (q2 := o2)
  obtain ⟨oa, cap, e, hget⟩ := hW.S.hu.form
  subst e
  have ha := gnd_area hm.hg
  refine ACalls.of_awp (c := cfg 94) infoOK Tryz.func119 (by rfl) (by rfl) (by rfl) (by rfl) ?_
  refine AWp.seq (AWp.of_vc infoOK ?_)
  refine AWp.seq (AWp.of_vc infoOK ?_)
  refine ADraw.of_sched infoOK (by rfl) (by rfl) sch119_1 (by rfl) ?_
  refine optK_intro (o := (F.un (svS G s w _ o0 o1 o2 p)).obj xw) _ hx ?_
  refine optK_intro (o := (F.un (svS G s w _ o0 o1 o2 p)).obj s) _ hs ?_
  refine optK_intro (o := (F.un (svS G s w _ o0 o1 o2 p)).obj xw) _ hx ?_
  refine ⟨is_spec w.G c.T hm.hg _ _ (fun z hz => ⟨trivial, ?_⟩), trivial⟩
  refine bcnot ?_
  refine bcase_intro (fun c2 => ?_) (fun c2 => ?_)
  rotate_left
  · have := mvE_1 (w := w) (c := c) (fun hh => by have := hz.2 hh; rw [this] at c2; cases c2)
    rw [this] at h
    exact ret (h _ (by decide))
  have htile := hz.1 c2
  have htn : c.T = ((c.T.toNat : Nat) : Int) := by omega
  have htl : c.T.toNat < w.G.T.length := by omega
  have hE := mvE_2 htile
  rw [hE] at h h0
  refine AWp.seq (AWp.of_vc infoOK ?_)
  refine all_nil ⟨hx, hs, hr⟩ hm.hr (by omega) (by omega) _ (fun he => ?_) (fun he => ?_)
  rotate_left
  · refine AWp.of_vc infoOK ?_
    refine bcne (fun c3 => ?_) (fun c3 => absurd c3 he)
    exact ret (h _ he)
  have hzero := allE_zero he
  refine AWp.seq (AWp.of_vc infoOK ?_)
  refine AWp.seq (AWp.of_vc infoOK ?_)
  refine aeff_makeMap rfl (fun m hmf => ?_)
  obtain ⟨hW1, e1, off1, hms⟩ := hW.add hmf (slO [] [] 0)
  have hmx : m ≠ xw := fun e => by
    have := hmf.1
    rw [e, hx] at this; cases this
  have e1' : (F.un (svS G s w (.s (.slice oa w.U.length cap)) o0 o1 o2 p)).setObj m (.map [] [] 0) = F.un (svS (G.setObj m (slO [] [] 0)) s w (.s (.slice oa w.U.length cap)) o0 o1 o2 p) := e1
  rw [e1']
  have hmv0 : MvS F (G.setObj m (slO [] [] 0)) (G.setObj m (slO [] [] 0)) xw s p m w (.s (.slice oa w.U.length cap)) L L.length o0 o1 o2 c 0 [] [] 0 := ⟨hW1.S, fun _ _ _ => rfl, setObj_self _ _ _, by omega, onField_ok hW.hF hn, fun kd l hh => by cases hh⟩
  have hx0 := hW1.hx
  have hox := hW1.ox
  have hos := hW1.os
  have hxs := hW1.ne
  have hLl := hW.hL
  generalize G.setObj m (slO [] [] 0) = G0 at *
  refine AWp.meetA (σ := Unit) ⟨fun _ => [], fun _ => [], fun _ st' => Done st' xw s c nF (mvW w c)⟩ ?_ ?_
  rotate_left
  · rintro _ st' hd
    refine AWp.of_vc infoOK ?_
    exact ret (h0 he _ hd)
  refine AWp.seq (AWp.of_vc infoOK ?_)
  refine AWp.block ?_
  refine AWp.loopA (σ := Nat × Store × Store × List Ent × List (Int × List Nat) × List Nat × Nat) ⟨fun x => [(0, .av (ptr xw)), (3, .av (lst 10 untC (c.U.map (uAt w)))), (5, .av (slV m)), (35, .av (lst 10 untC (c.U.map (uAt w)))), (36, .av (int (c.U.length : Nat))), (37, .av (int (x.1 : Nat)))], fun _ => [],
    fun x st' => x.1 ≤ c.U.length ∧ st' = x.2.1.un (svS x.2.2.1 s { w with U := mvL w c x.1 } (.s (.slice oa w.U.length cap)) o0 o1 o2 p) ∧ MvS x.2.1 x.2.2.1 G0 xw s p m w (.s (.slice oa w.U.length cap)) x.2.2.2.1 L.length o0 o1 o2 c x.1 x.2.2.2.2.1 x.2.2.2.2.2.1 x.2.2.2.2.2.2, fun x => c.U.length - x.1⟩ ?_ ?_
  · refine ⟨(0, F, G0, L, [], [], 0), trivial, ⟨Nat.zero_le _, rfl, hmv0⟩, ⟨LV.le_refl _, LV.le_refl _, LV.le_refl _, LV.le_refl _, ?_, LV.le_refl _, trivial⟩, trivial⟩
    show LV.le (.av (int ((rws untC (c.U.map (uAt w))).length : Nat))) (.av (int (c.U.length : Nat)))
    rw [rws_len, List.length_map]; exact LV.le_refl _
  rintro ⟨k, F1, G1, L1, cs, bs, clk⟩ st' ⟨hk, rfl, hS⟩
  dsimp only at hk hS ⊢
  refine AWp.seq (AWp.of_vc infoOK ?_)
  refine AWp.seq (AWp.of_vc infoOK ?_)
  refine bcd (fun h1 => ?_) (fun h1 => ?_)
  rotate_left
  · have : k = c.U.length := by omega
    subst this
    have hxk : G1.obj xw = some (.cells (wkC s c nF)) := by rw [hS.keep xw hox (Ne.symm hmx)]; exact hx0
    exact ⟨(), ⟨_, o0, o1, o2, p, svS_other hxk hxs, un_r (svS_obj _ _ _ _ _ _ _ _), (svS_rows hS.S.hs hS.S.hu).un⟩, trivial, trivial⟩
  have hlt : k < c.U.length := by omega
  obtain ⟨i, hi, hf, hid, hu, how, hin⟩ := askE_zero (hzero c.U[k] (List.getElem_mem hlt))
  have hlm : k < (c.U.map (uAt w)).length := by rw [List.length_map]; exact hlt
  have hgm : (c.U.map (uAt w))[k] = w.U[i] := by rw [List.getElem_map, hu]
  have hlU : (c.U.map (uAt w)).length = c.U.length := List.length_map ..
  have hsu : ∀ kd n, slotsU { w with U := mvL w c k } kd c.T n = slotsU w kd c.T n := fun _ _ => rfl
  have hm1 := mayF_mv hm c k
  refine AWp.seq (AWp.block ?_)
  refine AWp.seq (AWp.of_vc infoOK ?_)
  refine ⟨k, rfl, optK_intro _ (rws_get hlm) ?_⟩
  rw [hgm]
  refine AWp.meetA (σ := Store × List (Int × List Nat) × List Nat × Nat) ⟨fun _ => [(0, .av (ptr xw)), (3, .av (lst 10 untC (c.U.map (uAt w)))), (5, .av (slV m)), (6, .av (int (k : Nat))), (7, .bx 7 0), (35, .av (lst 10 untC (c.U.map (uAt w)))), (36, .av (int (c.U.length : Nat))), (37, .av (int (k : Nat)))], fun _ => [(7, untC w.U[i])],
    fun x st' => st' = F1.un (svS x.1 s { w with U := mvL w c k } (.s (.slice oa w.U.length cap)) o0 o1 o2 p) ∧ MvS F1 x.1 G0 xw s p m w (.s (.slice oa w.U.length cap)) L1 L.length o0 o1 o2 c k x.2.1 x.2.2.1 x.2.2.2 ∧ getI x.2.1 w.U[i].kind = some (slotsU w w.U[i].kind c.T c.U.length)⟩ ?_ ?_
  · have hmo : (F1.un (svS G1 s { w with U := mvL w c k } (.s (.slice oa w.U.length cap)) o0 o1 o2 p)).obj m = some (slO cs bs clk) := svS_other hS.hm hms
    have hxk : G1.obj xw = some (.cells (wkC s c nF)) := by rw [hS.keep xw hox (Ne.symm hmx)]; exact hx0
    have hx1 : (F1.un (svS G1 s { w with U := mvL w c k } (.s (.slice oa w.U.length cap)) o0 o1 o2 p)).obj xw = some (.cells (wkC s c nF)) := svS_other hxk hxs
    have hs1 : (F1.un (svS G1 s { w with U := mvL w c k } (.s (.slice oa w.U.length cap)) o0 o1 o2 p)).obj s = some (.cells (svC { w with U := mvL w c k } (.s (.slice oa w.U.length cap)) o0 o1 o2 p)) := un_r (svS_obj _ _ _ _ _ _ _ _)
    have hr1 : RowsQ 10 untC (F1.un (svS G1 s { w with U := mvL w c k } (.s (.slice oa w.U.length cap)) o0 o1 o2 p)) (.s (.slice oa w.U.length cap)) (mvL w c k) := (svS_rows hS.S.hs hS.S.hu).un
    refine AWp.of_vc infoOK ?_
    refine aeff_lookup rfl (it := ti181) (ie := ti36) (ik := ti3) rfl rfl rfl rfl hmo rfl (qA w.U[i].kind) (fun e he => ?_) ?_
    · obtain ⟨e, _, rfl⟩ := List.mem_map.1 he
      rfl
    rw [look_entT]
    cases hg : getI cs w.U[i].kind with
    | some l =>
      have hl := hS.sl _ _ hg
      rw [hl] at hg
      exact ⟨(G1, cs, bs, clk), ⟨rfl, hS, hg⟩, ⟨LV.le_refl _, LV.le_refl _, LV.le_refl _, LV.le_refl _, LV.le_refl _, LV.le_refl _, LV.le_refl _, LV.le_refl _, trivial⟩, ⟨rfl, trivial⟩⟩
    | none =>
      dsimp only
      refine ADraw.of_sched infoOK (by rfl) (by rfl) sch119_12 (by rfl) ?_
      refine optK_intro (o := (F1.un (svS G1 s _ _ o0 o1 o2 p)).obj xw) _ hx1 ?_
      refine ⟨wabout_specI ⟨hx1, hs1, hr1⟩ hm1 w.U[i].kind c.T.toNat htl c.T htn (rws untC (c.U.map (uAt w))).length (by rw [rws_len, hlU]; omega) _ ⟨?_, ?_⟩, trivial⟩
      · repeat (first | exact trivial | refine ⟨rfl, ?_⟩ | refine ⟨optK_intro (o := (F1.un (svS G1 s _ _ o0 o1 o2 p)).obj xw) _ hx1 rfl, ?_⟩)
      rw [hsu, rws_len, hlU]
      refine ⟨aeff_update (.inl rfl) rfl (it := ti181) (ik := ti3) rfl rfl rfl (es := cs.map (entI fun l => ints (natI l))) (bs := bs) (clk := clk) (k := int w.U[i].kind) (v := ints (natI (slotsU w w.U[i].kind c.T c.U.length))) hmo rfl rfl (qA w.U[i].kind) (fun e he => ?_) (fun e1 he hq => ?_) ?_, trivial⟩
      · obtain ⟨e, _, rfl⟩ := List.mem_map.1 he
        rfl
      · obtain ⟨g1, _, rfl⟩ := List.mem_map.1 he
        have : w.U[i].kind = g1.1 := by simpa [qA, entI, int] using hq
        show int g1.1 = _
        rw [this]
      obtain ⟨bs', clk', hput⟩ := mapPut_entI (fun l => ints (natI l)) cs bs clk w.U[i].kind (slotsU w w.U[i].kind c.T c.U.length)
      have hput : mapPut (cs.map (entI fun l => ints (natI l))) bs clk (qA w.U[i].kind) (int w.U[i].kind) (ints (natI (slotsU w w.U[i].kind c.T c.U.length))) = slO (putI cs w.U[i].kind (slotsU w w.U[i].kind c.T c.U.length)) bs' clk' := hput
      obtain ⟨u1, u2⟩ := hS.upd hms off1 (cs' := putI cs w.U[i].kind (slotsU w w.U[i].kind c.T c.U.length)) bs' clk' (fun kd l hh => by
        rw [getI_put] at hh
        by_cases e : kd = w.U[i].kind
        · rw [if_pos e] at hh
          rw [e]; exact (Option.some.inj hh).symm
        · rw [if_neg e] at hh
          exact hS.sl kd l hh)
      rw [hput, u2]
      refine ⟨trivial, (_, _, _, _), ⟨rfl, u1, ?_⟩, ⟨LV.le_refl _, LV.le_refl _, LV.le_refl _, LV.le_refl _, LV.le_refl _, LV.le_refl _, LV.le_refl _, LV.le_refl _, trivial⟩, ⟨rfl, trivial⟩⟩
      rw [getI_put, if_pos rfl]
  rintro ⟨G2, cs2, bs2, clk2⟩ _ ⟨rfl, hS2, hg2⟩
  dsimp only at hS2 hg2 ⊢
  have hmo : (F1.un (svS G2 s { w with U := mvL w c k } (.s (.slice oa w.U.length cap)) o0 o1 o2 p)).obj m = some (slO cs2 bs2 clk2) := svS_other hS2.hm hms
  have hxk : G2.obj xw = some (.cells (wkC s c nF)) := by rw [hS2.keep xw hox (Ne.symm hmx)]; exact hx0
  have hx1 : (F1.un (svS G2 s { w with U := mvL w c k } (.s (.slice oa w.U.length cap)) o0 o1 o2 p)).obj xw = some (.cells (wkC s c nF)) := svS_other hxk hxs
  have hiL : i < (mvL w c k).length := by rw [mvL_len]; exact hi
  refine AWp.of_vc infoOK ?_
  refine optK_intro (o := (F1.un (svS G2 s _ _ o0 o1 o2 p)).obj xw) _ hx1 ?_
  refine aeff_lookup rfl (it := ti181) (ie := ti36) (ik := ti3) rfl rfl rfl rfl hmo rfl (qA w.U[i].kind) (fun e he => ?_) ?_
  · obtain ⟨e, _, rfl⟩ := List.mem_map.1 he
    rfl
  rw [look_entI, hg2]
  have hput : ∀ g, g = mvGoal w c k w.U[i].kind → (mvL w c k).set i (mvG g w.U[i]) = mvL w c (k + 1) := fun g hg => by
    rw [mvL_step hlt hf hi, hg]
  have hlen := natI_len (slotsU w w.U[i].kind c.T c.U.length)
  have hid' : (mvL w c k)[i].id = w.U[i].id := mvL_id w c k i hi
  have fin : ∀ {F3 G3 L3}, StandR F3 G3 s p { w with U := mvL w c (k + 1) } (.s (.slice oa w.U.length cap)) L3 o0 o1 o2 → (∀ q, offB (.s (.slice oa w.U.length cap)) q → G3.obj q = G2.obj q) → L3.length ≤ L1.length + 1 → (∀ e ∈ L3, e.2.ok) → MvS F3 G3 G0 xw s p m w (.s (.slice oa w.U.length cap)) L3 L.length o0 o1 o2 c (k + 1) cs2 bs2 clk2 := fun g1 g2 g3 g4 =>
    ⟨g1, fun q h1 h2 => (g2 q h1).trans (hS2.keep q h1 h2), (g2 m off1).trans hS2.hm, by have := hS2.hl; omega, g4, hS2.sl⟩
  have hdec : c.U.length - (k + 1) < c.U.length - k := by omega
  have hL1 := hS2.hl
  refine bcd (fun c5 => ?_) (fun c5 => ?_)
  · rw [rws_len, hlen] at c5
    have hk2 : k < (natI (slotsU w w.U[i].kind c.T c.U.length)).length := by rw [hlen]; omega
    have hk3 : k < (slotsU w w.U[i].kind c.T c.U.length).length := by omega
    have hg9 : (natI (slotsU w w.U[i].kind c.T c.U.length))[k] = mvGoal w c k w.U[i].kind := by
      rw [mvGoal_some hk3]; exact List.getElem_map ..
    refine ⟨k, rfl, optK_intro _ (rws_get hk2) ?_⟩
    refine ADraw.of_sched infoOK (by rfl) (by rfl) sch119_17 (by rfl) ?_
    refine optK_intro (o := (F1.un (svS G2 s _ _ o0 o1 o2 p)).obj xw) _ hx1 ?_
    refine ⟨put_spec hS2.S hos (mvL_rises hm.hr c k) (by show (mvL w c k).length ≤ _; rw [mvL_len]; omega) (by omega) hS2.ok hiL (mvG ((natI (slotsU w w.U[i].kind c.T c.U.length))[k]'hk2) w.U[i]) hid' (show w.U[i].pos.ok from hn _ (List.getElem_mem hi)) _ (fun F3 G3 L3 g1 g2 g3 g4 => ⟨trivial, ?_⟩), trivial⟩
    dsimp only at g1 ⊢
    rw [hput _ hg9] at g1 ⊢
    refine AWp.of_vc infoOK ?_
    refine in64 (by omega) ?_
    exact ⟨(k + 1, F3, G3, L3, cs2, bs2, clk2), hdec, ⟨by dsimp only; omega, rfl, fin g1 g2 g3 g4⟩, ⟨LV.le_refl _, LV.le_refl _, LV.le_refl _, LV.le_refl _, LV.le_refl _, LV.le_refl _, trivial⟩, trivial⟩
  · rw [rws_len, hlen] at c5
    have hk3 : ¬ k < (slotsU w w.U[i].kind c.T c.U.length).length := by omega
    have hg9 : c.T = mvGoal w c k w.U[i].kind := (mvGoal_none hk3).symm
    refine ADraw.of_sched infoOK (by rfl) (by rfl) sch119_17 (by rfl) ?_
    refine optK_intro (o := (F1.un (svS G2 s _ _ o0 o1 o2 p)).obj xw) _ hx1 ?_
    refine ⟨put_spec hS2.S hos (mvL_rises hm.hr c k) (by show (mvL w c k).length ≤ _; rw [mvL_len]; omega) (by omega) hS2.ok hiL (mvG c.T w.U[i]) hid' (show w.U[i].pos.ok from hn _ (List.getElem_mem hi)) _ (fun F3 G3 L3 g1 g2 g3 g4 => ⟨trivial, ?_⟩), trivial⟩
    dsimp only at g1 ⊢
    rw [hput _ hg9] at g1 ⊢
    refine AWp.of_vc infoOK ?_
    refine in64 (by omega) ?_
    exact ⟨(k + 1, F3, G3, L3, cs2, bs2, clk2), hdec, ⟨by dsimp only; omega, rfl, fin g1 g2 g3 g4⟩, ⟨LV.le_refl _, LV.le_refl _, LV.le_refl _, LV.le_refl _, LV.le_refl _, LV.le_refl _, trivial⟩, trivial⟩
end Go.Proofs
namespace Go.Proofs
open Go Go.V
set_option linter.unusedVariables false
set_option linter.unusedSimpArgs false
theorem rslots_specI (g : Gnd) (hg : gndP g) (l : List Bld) (hl : l.length ≤ 1000000000000) (hb : ∀ b ∈ l, bldP b ∧ onP g b) (c : Int) (hc : c = 0 ∨ c = 1 ∨ c = 2) (size : Int) (hs : 0 ≤ size ∧ size ≤ 3) (goal : Nat) (hgl : goal < g.T.length) (tI : Int) (htI : tI = (goal : Int)) (n : Nat) (hn : n ≤ 1000) (st : Store) (R : AV → Store → Prop) (h : R (ints (natI (slotsL g (goodB g l c size) size tI n))) st) :
    ACalls Tryz.prog 85 [.agg (gndC g), lst 6 bldC l, int c, int size, int tI, int n] st R := by
  subst htI
  exact rslots_spec g hg l hl hb c hc size hs goal hgl n hn st R h
end Go.Proofs
namespace Go.Proofs
open Go Go.V
set_option linter.unusedVariables false
set_option linter.unusedSimpArgs false
theorem does2 : DoesOK 2 mvE mvW := by
  intro F G xw s p w v L o0 o1 o2 c hW hm hn hc hp hk R h h0
  have hx := hW.x (F' := F) (q0 := o0) (q1 := o1) (q2 := o2)
  have hok := (Cmd.ok2 hk).1 hc.1
  refine ACalls.of_body (c := cfg 34) infoOK Tryz.func79 (by rfl) (by rfl) (by rfl) (by rfl) ?_
  refine optK_intro (o := (F.un (svS G s w v o0 o1 o2 p)).obj xw) _ hx ?_
  refine bceq (fun c1 => absurd (hk.symm.trans c1) (by decide)) (fun _ => ?_)
  refine bceq (fun _ => ?_) (fun c1 => absurd hk c1)
  refine wmove_spec hW (mayF hm) hn hok.1.1.2 _ (fun S' he => ret (h S' he)) (fun he S' hd => ret (h0 he S' hd))
set_option maxHeartbeats 2000000 in
set_option maxRecDepth 20000 in
theorem rmove_spec {S : Store} {p : Nat} {w : Wld} {v : AV} (hp : S.obj p = some (.cells (wldV w v))) (hv : RowsQ 10 untC S v w.U) (hoff : offB v p) (hm : MayF w) (hn : ∀ u ∈ w.U, u.pos.ok) (c : Cmd) (hcU : c.U.length ≤ 64) (R : AV → Store → Prop)
    (h : ∀ S', mvE w c ≠ 0 → R (int (mvE w c)) S') (h0 : mvE w c = 0 → ∀ S' v', S'.obj p = some (.cells (wldV (mvW w c) v')) → RowsQ 10 untC S' v' (mvW w c).U → R (int 0) S') : ACalls Tryz.prog 53 [ptr p, .agg (cmdC c)] S R := by
  have hU := hm.hU
  have hB := hm.hB
  obtain ⟨oa, cap, e, hget⟩ := hv.form
  subst e
  have ha := gnd_area hm.hg
  refine ACalls.of_body (c := cfg 95) infoOK Tryz.func53 (by rfl) (by rfl) (by rfl) (by rfl) ?_
  refine ADraw.of_sched infoOK (by rfl) (by rfl) sch53_1 (by rfl) ?_
  refine optK_intro (o := S.obj p) _ hp ?_
  refine ⟨tile5_spec w.G c.T hm.hg _ _ (fun z hz => ⟨trivial, ?_⟩), trivial⟩
  refine bcnot ?_
  refine bcase_intro (fun c2 => ?_) (fun c2 => ?_)
  rotate_left
  · have := mvE_1 (w := w) (c := c) (fun hh => by have := hz.2 hh; rw [this] at c2; cases c2)
    rw [this] at h
    exact ret (h _ (by decide))
  have htile := hz.1 c2
  have htn : c.T = ((c.T.toNat : Nat) : Int) := by omega
  have htl : c.T.toNat < w.G.T.length := by omega
  have hE := mvE_2 htile
  rw [hE] at h h0
  refine ADraw.of_sched infoOK (by rfl) (by rfl) sch53_3 (by rfl) ?_
  refine optK_intro (o := S.obj p) _ hp ?_
  refine ⟨rallQ_spec hv (by omega) c (by omega) _ ⟨(by repeat (first | exact trivial | refine ⟨rfl, ?_⟩ | refine ⟨optK_intro (o := S.obj p) _ hp rfl, ?_⟩)), ?_⟩, trivial⟩
  refine ⟨⟨trivial, ?_⟩, trivial⟩
  refine bcne (fun c3 => ?_) (fun c3 => ?_)
  · exact ret (h _ c3)
  have hzero := allE_zero c3
  refine AWp.loop (σ := Nat × Store) ⟨fun x => [(0, .av (ptr p)), (3, .bx 3 0), (6, .av (int (x.1 : Nat)))], fun _ => [(3, cmdC c)],
    fun x st' => x.1 ≤ c.U.length ∧ st' = x.2 ∧ x.2.obj p = some (.cells (wldV w (.s (.slice oa w.U.length cap)))) ∧ RowsQ 10 untC x.2 (.s (.slice oa w.U.length cap)) (mvL w c x.1), fun x => c.U.length - x.1⟩ infoOK ?_ ?_
  · exact ⟨(0, S), trivial, ⟨Nat.zero_le _, rfl, hp, hv⟩, ⟨LV.le_refl _, LV.le_refl _, LV.le_refl _, trivial⟩, ⟨rfl, trivial⟩⟩
  rintro ⟨k, S0⟩ S1 ⟨hk, rfl, hp1, hr1⟩
  dsimp only at hk hp1 hr1 ⊢
  refine bcase_intro (fun h1 => ?_) (fun h1 => ?_)
  rotate_left
  · have hkl : k = c.U.length := ge_len h1 hk
    subst hkl
    exact ret (h0 c3 _ _ hp1 hr1)
  have hlt := lt_len h1
  obtain ⟨i, hi, hf, hid, hu, how, hin⟩ := askE_zero (hzero c.U[k] (List.getElem_mem hlt))
  obtain ⟨U1, hgU⟩ : ∃ U1, U1 = mvL w c k := ⟨_, rfl⟩
  have hiL : i < U1.length := by rw [hgU, mvL_len]; exact hi
  have hf2 : findU U1 c.U[k] = some i := by rw [hgU, mvL_find hm.hr]; exact hf
  have hstep : mvL w c (k + 1) = U1.set i (mvG (mvGoal w c k w.U[i].kind) w.U[i]) := by rw [hgU]; exact mvL_step hlt hf hi
  have hcore : mvG 0 U1[i] = mvG 0 w.U[i] := by subst hgU; exact mvL_same w c k i hi
  have hlL : U1.length = w.U.length := by rw [hgU]; exact mvL_len w c k
  have hlL2 := mvL_len w c (k + 1)
  have hkd : U1[i].kind = w.U[i].kind := (mvG_facts hcore).2.2.1
  rw [← hgU] at hr1
  clear hgU
  have hr9 := hr1
  rcases hr1 with (⟨_, hl0⟩ | ⟨b, cap', J, e, ho, hc1, hc2, hc3⟩) | ⟨_, _, _, hl0⟩
  · rw [hl0] at hiL; exact absurd hiL (Nat.not_lt_zero i)
  rotate_left
  · rw [hl0] at hiL; exact absurd hiL (Nat.not_lt_zero i)
  simp only [AV.s.injEq, Value.slice.injEq] at e
  obtain ⟨rfl, e7, rfl⟩ := e
  have hcap : 0 < cap := by omega
  have hbp : b ≠ p := hoff b _ _ rfl hcap
  refine ADraw.of_sched infoOK (by rfl) (by rfl) sch53_9 (by rfl) ?_
  refine optK_intro (o := S1.obj p) _ hp1 ?_
  refine optK_intro (o := S1.obj p) _ hp1 ?_
  refine ⟨k, rfl, optK_intro _ (rws_get hlt) ?_⟩
  refine ⟨rfindQ_spec (w := { w with U := U1 }) hr9 (by dsimp only; omega) c.U[k] _ ⟨(by repeat (first | exact trivial | refine ⟨rfl, ?_⟩ | refine ⟨⟨k, rfl, optK_intro _ (rws_get hlt) rfl⟩, ?_⟩ | refine ⟨optK_intro (o := S1.obj p) _ hp1 rfl, ?_⟩)), ?_⟩, trivial⟩
  dsimp only
  rw [hf2]
  refine ⟨i, rfl, hi, ?_⟩
  refine ⟨⟨trivial, ?_⟩, trivial⟩
  have fld : ∀ j, (hj : j < 10) → ∀ {y : AV}, (untC U1[i])[j]? = some y → (((rws untC U1).flatten ++ J).drop (0 + i * 10 + j)).head? = some y := fun j hj y hy => head_fld hiL hj hy
  refine optK_intro (o := S1.obj b) _ ho ?_
  refine optK_intro (o := List.head? _) (int U1[i].kind) (fld 2 (by decide) rfl) ?_
  rw [hkd]
  refine rkind_spec w.U[i].kind (hm.hk _ (List.getElem_mem hi)) _ _ ?_
  refine ADraw.of_sched infoOK (by rfl) (by rfl) sch53_11 (by rfl) ?_
  refine optK_intro (o := S1.obj p) _ hp1 ?_
  refine optK_intro (o := S1.obj p) _ hp1 ?_
  refine ⟨rslots_specI w.G hm.hg w.B (by omega) hm.hb (kCls w.U[i].kind) (kCls_b _) (kSize w.U[i].kind) (kSize_b _) c.T.toNat htl c.T htn (rws intC c.U).length (by rw [rws_len]; omega) _ _ ⟨(by repeat (first | exact trivial | refine ⟨rfl, ?_⟩ | refine ⟨optK_intro (o := S1.obj p) _ hp1 rfl, ?_⟩)), ?_⟩, trivial⟩
  refine ⟨⟨trivial, ?_⟩, trivial⟩
  have hsu : slotsL w.G (goodB w.G w.B (kCls w.U[i].kind) (kSize w.U[i].kind)) (kSize w.U[i].kind) c.T (rws intC c.U).length = slotsU w w.U[i].kind c.T c.U.length := by rw [rws_len]; rfl
  rw [hsu]
  have e8 : U1.length = w.U.length := hlL
  refine storeK_obj (i := ti3) (v := int c.T) (b := b) (o := 0 + i * 10 + 5) (l := (rws untC U1).flatten ++ J) rfl rfl rfl ho (show 0 + i * 10 + 5 + 1 ≤ _ by rw [List.length_append, rws_flat_len untC_len]; omega) ?_
  have q1 := fld_setL (x' := { U1[i] with goal := c.T }) (ys := [int c.T]) (j := 5) ho hiL (show 5 + 1 ≤ 10 by decide) rfl
  have p1 := (setObj_ne (st := S1) (x := .cells (splice ((rws untC U1).flatten ++ J) (0 + i * 10 + 5) [int c.T])) (Ne.symm hbp)).trans hp1
  generalize S1.setObj b _ = S2 at q1 p1 ⊢
  refine storeK_obj (i := ti3) (v := int (-1)) (b := b) (o := 0 + i * 10 + 6) (l := (rws untC (U1.set i { U1[i] with goal := c.T })).flatten ++ J) rfl rfl rfl q1 (show 0 + i * 10 + 6 + 1 ≤ _ by rw [List.length_append, rws_flat_len untC_len, List.length_set]; omega) ?_
  have q2 := fld_setL (x' := { U1[i] with goal := c.T, next := -1 }) (ys := [int (-1)]) (j := 6) q1 (by rw [List.length_set]; exact hiL) (by decide) (by rw [List.getElem_set_self]; rfl)
  rw [List.set_set] at q2
  have p2 := (setObj_ne (st := S2) (x := .cells (splice ((rws untC (U1.set i { U1[i] with goal := c.T })).flatten ++ J) (0 + i * 10 + 6) [int (-1)])) (Ne.symm hbp)).trans p1
  generalize S2.setObj b _ = S3 at q2 p2 ⊢
  refine storeK_obj (i := ti3) (v := int 0) (b := b) (o := 0 + i * 10 + 7) (l := (rws untC (U1.set i { U1[i] with goal := c.T, next := -1 })).flatten ++ J) rfl rfl rfl q2 (show 0 + i * 10 + 7 + 1 ≤ _ by rw [List.length_append, rws_flat_len untC_len, List.length_set]; omega) ?_
  have q3 := fld_setL (x' := { U1[i] with goal := c.T, next := -1, stuck := 0 }) (ys := [int 0]) (j := 7) q2 (by rw [List.length_set]; exact hiL) (by decide) (by rw [List.getElem_set_self]; rfl)
  rw [List.set_set] at q3
  have p3 := (setObj_ne (st := S3) (x := .cells (splice ((rws untC (U1.set i { U1[i] with goal := c.T, next := -1 })).flatten ++ J) (0 + i * 10 + 7) [int 0])) (Ne.symm hbp)).trans p2
  generalize S3.setObj b _ = S4 at q3 p3 ⊢
  refine storeK_obj (i := ti3) (v := int 1) (b := b) (o := 0 + i * 10 + 9) (l := (rws untC (U1.set i { U1[i] with goal := c.T, next := -1, stuck := 0 })).flatten ++ J) rfl rfl rfl q3 (show 0 + i * 10 + 9 + 1 ≤ _ by rw [List.length_append, rws_flat_len untC_len, List.length_set]; omega) ?_
  have q4 := fld_setL (x' := mvG c.T U1[i]) (ys := [int 1]) (j := 9) q3 (by rw [List.length_set]; exact hiL) (by decide) (by rw [List.getElem_set_self]; rfl)
  rw [List.set_set] at q4
  have p4 := (setObj_ne (st := S4) (x := .cells (splice ((rws untC (U1.set i { U1[i] with goal := c.T, next := -1, stuck := 0 })).flatten ++ J) (0 + i * 10 + 9) [int 1])) (Ne.symm hbp)).trans p3
  generalize S4.setObj b _ = S5 at q4 p4 ⊢
  have hlen := natI_len (slotsU w w.U[i].kind c.T c.U.length)
  have fin : ∀ g, g = mvGoal w c k w.U[i].kind → U1.set i (mvG g U1[i]) = mvL w c (k + 1) := fun g hg => by
    rw [hstep, mvG_eq hcore, hg]
  have hdec : c.U.length - (k + 1) < c.U.length - k := by omega
  refine bcd (fun c5 => ?_) (fun c5 => ?_)
  · rw [rws_len, hlen] at c5
    have hk2 : k < (natI (slotsU w w.U[i].kind c.T c.U.length)).length := by rw [hlen]; omega
    have hk3 : k < (slotsU w w.U[i].kind c.T c.U.length).length := by omega
    have hg9 : (natI (slotsU w w.U[i].kind c.T c.U.length))[k] = mvGoal w c k w.U[i].kind := by
      rw [mvGoal_some hk3]; exact List.getElem_map ..
    refine ⟨k, rfl, optK_intro _ (rws_get hk2) ?_⟩
    rw [hg9]
    refine storeK_obj (i := ti3) (v := int (mvGoal w c k w.U[i].kind)) (b := b) (o := 0 + i * 10 + 5) (l := (rws untC (U1.set i (mvG c.T U1[i]))).flatten ++ J) rfl rfl rfl q4 (show 0 + i * 10 + 5 + 1 ≤ _ by rw [List.length_append, rws_flat_len untC_len, List.length_set]; omega) ?_
    have q5 := fld_setL (x' := mvG (mvGoal w c k w.U[i].kind) U1[i]) (ys := [int (mvGoal w c k w.U[i].kind)]) (j := 5) q4 (by rw [List.length_set]; exact hiL) (show 5 + 1 ≤ 10 by decide) (by rw [List.getElem_set_self]; rfl)
    rw [List.set_set, fin _ rfl] at q5
    have p5 := (setObj_ne (st := S5) (x := .cells (splice ((rws untC (U1.set i (mvG c.T U1[i]))).flatten ++ J) (0 + i * 10 + 5) [int (mvGoal w c k w.U[i].kind)])) (Ne.symm hbp)).trans p4
    generalize S5.setObj b _ = S6 at q5 p5 ⊢
    refine in64 (by omega) ?_
    exact ⟨(k + 1, S6), hdec, ⟨by dsimp only; omega, rfl, p5, .inl (.inr ⟨b, cap, J, by rw [hlL2], q5, by rw [hlL2]; omega, by rw [hlL2, ← e8]; exact hc2, hc3⟩)⟩, ⟨LV.le_refl _, LV.le_refl _, LV.le_refl _, trivial⟩, ⟨rfl, trivial⟩⟩
  · rw [rws_len, hlen] at c5
    have hk3 : ¬ k < (slotsU w w.U[i].kind c.T c.U.length).length := by omega
    rw [fin _ (mvGoal_none hk3).symm] at q4
    refine in64 (by omega) ?_
    exact ⟨(k + 1, S5), hdec, ⟨by dsimp only; omega, rfl, p4, .inl (.inr ⟨b, cap, J, by rw [hlL2], q4, by rw [hlL2]; omega, by rw [hlL2, ← e8]; exact hc2, hc3⟩)⟩, ⟨LV.le_refl _, LV.le_refl _, LV.le_refl _, trivial⟩, ⟨rfl, trivial⟩⟩
set_option maxHeartbeats 1000000 in
theorem rapply2_raw (w : Wld) (hw : w.fits) (hn : ∀ u ∈ w.U, u.pos.ok) (hU : w.U.length ≤ 1000000) (c : Cmd) (hc : c.fits) (hK : c.K = 2) : ACalls Tryz.prog 34 [.agg (wldC w), .agg (cmdC c)] Store.empty (DoQ mvE mvW w c) := by
  refine ACalls.of_body (c := cfg 97 [6] []) infoOK Tryz.func34 (by rfl) (by rfl) (by rfl) (by rfl) ?_
  have bad : (¬ mayP w ∨ ¬ cmdP c ∨ w.players < c.P) → DoQ mvE mvW w c (.tup [.agg (wldC w), int 1]) Store.empty := fun hb => by
    have he := doE_bad (E := mvE) (w := w) (c := c) hb
    exact .inl ⟨by rw [he]; decide, by rw [he]⟩
  refine rmay_spec w hw hn _ _ (fun z hz => ?_)
  refine bcnot ?_
  refine bcase_intro (fun c1 => ?_) (fun c1 => ?_)
  rotate_left
  · exact ret (bad (.inl fun hh => by have := hz.2 hh; rw [this] at c1; cases c1))
  refine command21_specC c hc _ _ (fun zc hzc => ?_)
  refine bcnot ?_
  refine bcase_intro (fun c2 => ?_) (fun c2 => ?_)
  rotate_left
  · exact ret (bad (.inr (.inl fun hh => by have := hzc.2 hh; rw [this] at c2; cases c2)))
  refine bcd (fun c3 => ?_) (fun c3 => ?_)
  · exact ret (bad (.inr (.inr (by omega))))
  have hm := hz.1 c1
  have hcp := hzc.1 c2
  have he := doE_ok (E := mvE) hm hcp (show c.P ≤ w.players by omega)
  refine copyWorldR_spec w hw hU _ _ (fun v N hv _ => ?_)
  rw [un_empty]
  have hv := hv.q
  have hoff := fun (p : Nat) (hp : Fresh N p) => offB_fresh hv (not_has (fresh_iff.1 hp)).1
  obtain ⟨oa, cap, e, _⟩ := hv.form
  subst e
  refine fun p hp => ?_
  refine storeK_objL (i := ti28) (v := .agg (wldV w (.s (.slice oa w.U.length cap)))) (xs := wldV w (.s (.slice oa w.U.length cap))) (b := p) (o := 0) (l := _) rfl rfl rfl (setObj_self _ _ _) (show 0 + 8 ≤ 8 by decide) ?_
  generalize hS : (N.setObj p _).setObj p _ = S
  have hp2 : S.obj p = some (.cells (wldV w (.s (.slice oa w.U.length cap)))) := by rw [← hS]; exact setObj_self _ _ _
  have hr2 : RowsQ 10 untC S (.s (.slice oa w.U.length cap)) w.U := by rw [← hS]; exact (hv.set (hoff p hp) _).set (hoff p hp) _
  refine bceq (fun h => absurd (hK.symm.trans h) (by decide)) (fun _ => ?_)
  refine bceq (fun _ => ?_) (fun h => absurd hK h)
  refine rmove_spec hp2 hr2 (hoff p hp) (mayF hm) hn c ((Cmd.ok2 hK).1 hcp.1).1.1.2 _ (fun S' hE => ?_) (fun hE S' v' g1 g2 => ?_)
  · refine bcne (fun _ => ?_) (fun h => absurd h hE)
    exact ret (.inl ⟨by rw [he]; exact hE, by rw [he]; rfl⟩)
  · obtain ⟨oa2, cap2, e2, _⟩ := g2.form
    subst e2
    refine optK_intro (o := S'.obj p) _ g1 ?_
    exact ret (.inr ⟨he.trans hE, _, g2, rfl⟩)
theorem ref2 : RefOK 2 mvE mvW := fun w hw hn hU c hc hK R h => doQ_froz (rapply2_raw w hw hn hU c hc hK) R h
theorem mvW_len (w : Wld) (c : Cmd) (hm : mayP w) (hg : ¬ greatP w) : (mvW w c).G.T.length ≤ 1000000 ∧ (mvW w c).B.length ≤ 1000000 ∧ (mvW w c).U.length ≤ 1000000 := by
  unfold greatP at hg
  unfold mvW
  dsimp only
  rw [mvL_len]
  omega
theorem applyMoves_law (s : Scr) (hn : ∀ u ∈ s.W.U, u.pos.ok) (hf : ∀ c ∈ s.L, c.sized) (st : Store) (R : AV → Store → Prop) (h : R (V.bool true) st) : ACalls Tryz.prog 5 [.agg (scrC s)] st R := by
  refine ACalls.of_body (c := cfg 5) infoOK Tryz.func5 (by rfl) (by rfl) (by rfl) (by rfl) ?_
  refine only23_spec does2 ref2 mvW_len wakes23_spec s hn hf _ _ ?_
  exact ret h
end Go.Proofs
