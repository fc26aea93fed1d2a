/- The ground on which laws of thronglaw23 are proved: contracts of functions and plain lemmas; no condition beyond the row's own. -/
import Derived.Test.YtlmechfgnfepoaaGreatSK
import Derived.Test.YtlmechfgnfepoaaGreatSJ
set_option linter.unusedSimpArgs false
set_option linter.unusedVariables false
namespace Go.Proofs
open Go Go.V
set_option linter.unusedVariables false
set_option linter.unusedSimpArgs false

theorem inQ_spec {S : Store} {v : AV} {U : List Unt} (hv : RowsQ 10 untC S v U) (hl : U.length ≤ 1000000) (id : Int) (R : AV → Store → Prop) (h : R (ints (inOf U id)) S) : ACalls Tryz.prog 171 [v, int id] S R := by
  obtain ⟨oa, cap, e, hget⟩ := hv.form
  subst e
  refine ACalls.of_body (c := cfg 24) infoOK Tryz.func171 (by rfl) (by rfl) (by rfl) (by rfl) ?_
  refine AWp.loop (σ := Nat × AV) ⟨fun x => [(1, .av (int id)), (4, .av x.2), (7, .av (.s (.slice oa U.length cap))), (8, .av (int (U.length : Nat))), (9, .av (int (x.1 : Nat)))], fun _ => [],
    fun x st' => x.1 ≤ U.length ∧ App 1 S x.2 (rws intC (inOf (U.take x.1) id)) st', fun x => U.length - x.1⟩ infoOK ?_ ?_
  · exact ⟨(0, _), trivial, ⟨Nat.zero_le _, App.start 1 S⟩, ⟨LV.le_refl _, LV.le_refl _, LV.le_refl _, LV.le_refl _, LV.le_refl _, trivial⟩, trivial⟩
  rintro ⟨i, v2⟩ st' ⟨hi, hap⟩
  dsimp only at hi hap ⊢
  refine bcd (fun h1 => ?_) (fun h1 => ?_)
  rotate_left
  · have : i = U.length := by omega
    subst this
    rw [List.take_length] at hap
    exact ⟨_, _, hap.le, hap.has, h⟩
  have hlt : i < U.length := by omega
  have hs := inOf_snoc hlt id
  have hl1 : (inOf (U.take i) id).length ≤ 1000000 := by
    have h1 := inOf_le (l := U) i id
    have h2 : (inOf U id).length ≤ U.length := by unfold inOf; rw [List.length_map]; exact List.length_filter_le _ _
    omega
  obtain ⟨b, J, e2, hob⟩ := hget i hlt
  have hob : st'.obj b = some (.cells ((rws untC U).flatten ++ J)) := by rw [hap.obj]; exact hob
  subst e2
  refine ⟨i, rfl, hlt, ?_⟩
  refine optK_intro (o := st'.obj b) _ hob ?_
  refine partK_row (i := ti50) (row := untC U[i]) rfl rfl (rows_drop untC_len hlt) ?_
  refine bceq (fun c1 => ?_) (fun c1 => ?_)
  · rw [if_pos c1] at hs
    refine ⟨by decide, ?_⟩
    refine appendK_app (ie := ti3) (rows' := [intC U[i].id]) hap ?_ ?_ ⟨?_, ?_⟩ (fun v3 st3 ha3 => ?_)
    · rfl
    · rfl
    · simp only [rws_len, List.length_singleton, ti3]; omega
    · simp only [rws_len, List.length_singleton]; omega
    refine in64 (by omega) ?_
    refine ⟨(i + 1, v3), ?_, ⟨by dsimp only; omega, ?_⟩, ⟨LV.le_refl _, LV.le_refl _, LV.le_refl _, LV.le_refl _, LV.le_refl _, trivial⟩, trivial⟩
    · show U.length - (i + 1) < U.length - i
      omega
    · dsimp only
      rw [hs]
      unfold rws at ha3 ⊢
      rw [List.map_append]
      exact ha3
  · rw [if_neg c1, List.append_nil] at hs
    refine in64 (by omega) ?_
    refine ⟨(i + 1, v2), ?_, ⟨by dsimp only; omega, ?_⟩, ⟨LV.le_refl _, LV.le_refl _, LV.le_refl _, LV.le_refl _, LV.le_refl _, trivial⟩, trivial⟩
    · show U.length - (i + 1) < U.length - i
      omega
    · dsimp only
      rw [hs]
      exact hap

theorem all_fn {S : Store} {xw s p : Nat} {w : Wld} {v o0 o1 o2 : AV} {c : Cmd} {fv : AV} (ha : AtW S xw s p w v o0 o1 o2 c fv) (hr : risesU w.U) (hU : w.U.length ≤ 1000000) (hc : c.U.length ≤ 1000000) (fn : FuncId) (cap : List AV) (more : Unt → Int)
    (hf : ∀ id, askE w c.P id = 0 → ∀ st', (∀ q, st'.obj q = S.obj q) → ∀ R : AV → Store → Prop, R (int (more (uAt w id))) st' → ACalls Tryz.prog fn ([.agg (untC (uAt w id))] ++ cap) st' R) (E : Int → Int) (hE : ∀ id, E id = if askE w c.P id = 0 then more (uAt w id) else askE w c.P id) (R : AV → Store → Prop)
    (h : allE E c.U = 0 → R (.tup [lst 10 untC (c.U.map (uAt w)), int 0]) S) (h' : allE E c.U ≠ 0 → R (.tup [.s (.slice none 0 0), int (allE E c.U)]) S) : ACalls Tryz.prog 163 [ptr xw, .clos fn cap] S R := by
  refine ACalls.of_body (c := cfg 44) infoOK Tryz.func163 (by rfl) (by rfl) (by rfl) (by rfl) ?_
  refine optK_intro (o := S.obj xw) _ ha.hx ?_
  refine AWp.loop (σ := Nat × AV) ⟨fun x => [(0, .av (ptr xw)), (1, .av (.clos fn cap)), (4, .av x.2), (14, .av (ints c.U)), (15, .av (int (c.U.length : Nat))), (16, .av (int (x.1 : Nat)))], fun _ => [],
    fun x st' => x.1 ≤ c.U.length ∧ App 10 S x.2 (rws untC ((c.U.take x.1).map (uAt w))) st' ∧ ∀ j, (hj : j < c.U.length) → j < x.1 → E c.U[j] = 0, fun x => c.U.length - x.1⟩ infoOK ?_ ?_
  · refine ⟨(0, _), trivial, ⟨Nat.zero_le _, App.start 10 S, fun j _ hj => by omega⟩, ⟨LV.le_refl _, LV.le_refl _, LV.le_refl _, LV.le_refl _, ?_, LV.le_refl _, trivial⟩, trivial⟩
    rw [← rws_len (f := intC) c.U]; exact LV.le_refl _
  rintro ⟨i, v2⟩ st' ⟨hi, hap, hall⟩
  dsimp only at hi hap hall ⊢
  refine bcd (fun h1 => ?_) (fun h1 => ?_)
  rotate_left
  · have : i = c.U.length := by omega
    subst this
    rw [List.take_length] at hap
    exact ⟨_, _, AV.le_tupL (xs := [v2, int 0]) (ys := [lst 10 untC (c.U.map (uAt w)), int 0]) ⟨AV.le_trans hap.le (AV.le_refl _), AV.le_refl _, trivial⟩, hap.has, h (allE_none fun j hj => hall j hj hj)⟩
  have hlt : i < c.U.length := by omega
  have hEi := hE c.U[i]
  have ha' : AtW st' xw s p w v o0 o1 o2 c fv := ⟨by rw [hap.obj]; exact ha.hx, by rw [hap.obj]; exact ha.hs, ha.hr.sub fun _ _ _ _ => by rw [hap.obj]⟩
  have bad : E c.U[i] ≠ 0 → R (.tup [.s (.slice none 0 0), int (E c.U[i])]) S := fun hne => by
    have e := allE_some hlt hall hne
    have := h' (by rw [e]; exact hne)
    rw [e] at this
    exact this
  refine ⟨i, rfl, optK_intro _ (rws_get hlt) ?_⟩
  refine ask_spec ha' hr hU c.U[i] _ ?_
  refine bceq (fun c1 => ?_) (fun c1 => ?_)
  rotate_left
  · rw [if_neg c1] at hEi
    rw [hEi] at bad
    refine bcne (fun c2 => ?_) (fun c2 => absurd c2 c1)
    exact ⟨_, _, AV.le_refl _, hap.has, bad c1⟩
  rw [if_pos c1] at hEi
  refine hf c.U[i] c1 st' (fun q => by rw [hap.obj]) _ ?_
  rw [hEi] at bad
  refine bcne (fun c2 => ?_) (fun c2 => ?_)
  · exact ⟨_, _, AV.le_refl _, hap.has, bad c2⟩
  rw [c2] at hEi
  refine ⟨by decide, ?_⟩
  refine appendK_app (ie := ti50) (rows' := [untC (uAt w c.U[i])]) hap ?_ ?_ ⟨?_, ?_⟩ (fun v3 st3 ha3 => ?_)
  · rfl
  · rfl
  · simp only [rws_len, List.length_map, List.length_take, List.length_singleton, ti50]; omega
  · simp only [rws_len, List.length_map, List.length_take, List.length_singleton]; omega
  refine in64 (by omega) ?_
  refine ⟨(i + 1, v3), ?_, ⟨by dsimp only; omega, ?_, fun j hj hji => ?_⟩, ⟨LV.le_refl _, LV.le_refl _, LV.le_refl _, LV.le_refl _, LV.le_refl _, LV.le_refl _, trivial⟩, trivial⟩
  · show c.U.length - (i + 1) < c.U.length - i
    omega
  · dsimp only
    rw [List.take_succ_eq_append_getElem hlt, List.map_append]
    unfold rws at ha3 ⊢
    rw [List.map_append]
    exact ha3
  · by_cases e : j = i
    · subst e; exact hEi
    · exact hall j hj (by dsimp only at hji; omega)

theorem carrier_spec {S : Store} {xw s p : Nat} {w : Wld} {v o0 o1 o2 : AV} {c : Cmd} {fv : AV} (ha : AtW S xw s p w v o0 o1 o2 c fv) (hr : risesU w.U) (hU : w.U.length ≤ 1000000) (R : AV → Store → Prop) (h : R (.tup [.agg (untC (uAt w c.N)), int (carE w c.P c.N)]) S) : ACalls Tryz.prog 170 [ptr xw] S R := by
  unfold carE at h
  refine ACalls.of_body (c := cfg 27) infoOK Tryz.func170 (by rfl) (by rfl) (by rfl) (by rfl) ?_
  refine optK_intro (o := S.obj xw) _ ha.hx ?_
  refine ask_spec ha hr hU c.N _ ?_
  refine bceq (fun c1 => ?_) (fun c1 => ?_)
  · rw [if_pos c1] at h
    refine what_spec _ _ _ ?_
    refine bceq (fun c2 => ?_) (fun c2 => ?_)
    · rw [if_pos c2] at h
      exact ret h
    · rw [if_neg c2] at h
      rw [← c1] at h
      exact ret h
  · rw [if_neg c1] at h
    exact ret h

theorem loadFn_spec (x u : Unt) (hx : x.pos.ok) (hu : u.pos.ok) (pb : Nat) (st : Store) (hb : st.obj pb = some (.cells (untC x))) (R : AV → Store → Prop) (h : R (int (moreE x u)) st) : ACalls Tryz.prog 172 ([.agg (untC u)] ++ [ptr pb]) st R := by
  unfold moreE at h
  refine ACalls.of_body (c := cfg 16) infoOK Tryz.func172 (by rfl) (by rfl) (by rfl) (by rfl) ?_
  refine what_spec _ _ _ ?_
  refine bcd (fun c1 => ?_) (fun c1 => ?_)
  · rw [if_pos c1] at h
    exact ret h
  rw [if_neg c1] at h
  refine optK_intro (o := st.obj pb) _ hb ?_
  refine far_spec u.pos x.pos hu hx _ _ ?_
  refine bcd (fun c2 => ?_) (fun c2 => ?_)
  · rw [if_pos c2] at h
    exact ret h
  · rw [if_neg c2] at h
    exact ret h
end Go.Proofs
namespace Go.Proofs
open Go Go.V
set_option linter.unusedVariables false
set_option linter.unusedSimpArgs false

/-- A box more. -/
theorem Work.add {F G : Store} {xw s p : Nat} {w : Wld} {v : AV} {L : List Ent} {o0 o1 o2 : AV} {c : Cmd} {fv : AV} (h : Work F G xw s p w v L o0 o1 o2 c fv) {pb : Nat} (hpb : Fresh (F.un (svS G s w v o0 o1 o2 p)) pb) (z : AObj) :
    Work F (G.setObj pb z) xw s p w v L o0 o1 o2 c fv ∧ (F.un (svS G s w v o0 o1 o2 p)).setObj pb z = F.un (svS (G.setObj pb z) s w v o0 o1 o2 p) ∧ offB v pb ∧ pb ≠ s := by
  have hx1 : ¬ F.has pb ∧ ¬ (svS G s w v o0 o1 o2 p).has pb := by
    have := fresh_iff.1 hpb
    exact ⟨fun h => this (un_has.2 (.inl h)), fun h => this (un_has.2 (.inr h))⟩
  have hne : pb ≠ s := fun e => hx1.2 (svS_has.2 (.inl e))
  have hxN : ¬ G.has pb := fun h => hx1.2 (svS_has.2 (.inr h))
  have hxw : pb ≠ xw := fun e => hxN (by rw [e]; exact has_obj h.hx)
  have off := offB_fresh h.S.hu (not_has hxN).1
  refine ⟨⟨⟨h.S.hc, fun i h1 h2 => ?_, ?_, h.S.hu.set off _, h.S.h0, h.S.h1, h.S.h2⟩, ?_, h.ox, h.os, h.hL, h.hF⟩, ?_, off, hne⟩
  · rcases svS_has.1 h2 with rfl | h2
    · exact h.S.hd _ h1 (svS_has.2 (.inl rfl))
    · by_cases hi : i = pb
      · subst hi; exact hx1.1 h1
      · refine h.S.hd _ h1 (svS_has.2 (.inr ?_))
        rcases h2 with h2 | h2
        · rw [setObj_ne hi] at h2; exact .inl h2
        · exact .inr h2
  · rw [setObj_ne (Ne.symm hne)]; exact h.S.hs
  · rw [setObj_ne (Ne.symm hxw)]; exact h.hx
  · rw [un_setObj]
    unfold svS
    rw [setObj_comm hne]

theorem ldE_1 {w : Wld} {c : Cmd} (h : carE w c.P c.N ≠ 0) : ldE w c = carE w c.P c.N := by unfold ldE; rw [if_neg h]
theorem ldE_2 {w : Wld} {c : Cmd} (h : carE w c.P c.N = 0) (h2 : allE (ldA w c.P c.N) c.U ≠ 0) : ldE w c = allE (ldA w c.P c.N) c.U := by unfold ldE; rw [if_pos h, if_neg h2]
theorem ldE_3 {w : Wld} {c : Cmd} (h : carE w c.P c.N = 0) (h2 : allE (ldA w c.P c.N) c.U = 0) : ldE w c = if kRoom (uAt w c.N).kind < ((inOf w.U c.N).length : Int) + (c.U.length : Int) then 4 else 0 := by unfold ldE; rw [if_pos h, if_pos h2]

set_option maxHeartbeats 2000000 in
set_option maxRecDepth 20000 in
theorem wload_spec {F G : Store} {xw s p : Nat} {w : Wld} {v : AV} {L : List Ent} {o0 o1 o2 : AV} {c : Cmd} {fv : AV} (hW : Work F G xw s p w v L o0 o1 o2 c fv) (hmp : mayP w) (hn : ∀ u ∈ w.U, u.pos.ok) (hc : c.U.length ≤ 64) (hN : 1 ≤ c.N) (R : AV → Store → Prop)
    (h : ∀ S', ldE w c ≠ 0 → R (int (ldE w c)) S') (h0 : ldE w c = 0 → ∀ S', Done S' xw s c fv (ldW w c) → R (int 0) S') : ACalls Tryz.prog 123 [ptr xw] (F.un (svS G s w v o0 o1 o2 p)) R := by
  have hm := mayF hmp
  have hU := hm.hU
  have hLl := hW.hL
  obtain ⟨oa, cap, e, hget⟩ := hW.S.hu.form
  subst e
  refine ACalls.of_body (c := cfg 65 [3] []) infoOK Tryz.func123 (by rfl) (by rfl) (by rfl) (by rfl) ?_
  refine carrier_spec ⟨hW.x, hW.s, hW.r⟩ hm.hr (by omega) _ ?_
  intro pb hpb
  refine storeK_objL (i := ti50) (v := .agg (untC (uAt w c.N))) (xs := untC (uAt w c.N)) (b := pb) (o := 0) (l := _) rfl rfl rfl (setObj_self _ _ _) (show 0 + 10 ≤ 10 by decide) ?_
  obtain ⟨hW1, e1, off1, hps⟩ := hW.add hpb (.cells (untC (uAt w c.N)))
  have e3 : ∀ l : List AV, l.length = 10 → splice l 0 (untC (uAt w c.N)) = untC (uAt w c.N) := fun l hl => by
    unfold splice
    rw [List.take_zero, List.nil_append, Nat.zero_add, untC_len, List.drop_of_length_le (by omega), List.append_nil]
  rw [setObj_setObj, e3 _ (by simp [ti50]), e1]
  have hx := hW1.x (F' := F) (q0 := o0) (q1 := o1) (q2 := o2)
  have hs := hW1.s (F' := F) (q0 := o0) (q1 := o1) (q2 := o2)
  have hr := hW1.r (F' := F) (q0 := o0) (q1 := o1) (q2 := o2)
  have hgb : (G.setObj pb (.cells (untC (uAt w c.N)))).obj pb = some (.cells (untC (uAt w c.N))) := setObj_self _ _ _
  generalize G.setObj pb (.cells (untC (uAt w c.N))) = G0 at *
  have hb : (F.un (svS G0 s w (.s (.slice oa w.U.length cap)) o0 o1 o2 p)).obj pb = some (.cells (untC (uAt w c.N))) := un_r (by
    show (G0.setObj s _).obj pb = _
    rw [setObj_ne hps]; exact hgb)
  refine bcne (fun c1 => ?_) (fun c1 => ?_)
  · have := ldE_1 c1
    rw [this] at h
    exact ret (h _ c1)
  obtain ⟨hask, hroom⟩ := carE_zero c1
  obtain ⟨ix, hix, hfx, hidx, hux, _, _⟩ := askE_zero hask
  have hrm := inOf_room hmp hix (by omega)
  rw [hidx] at hrm
  rw [hux] at hroom hb
  have hkb := kRoom_b w.U[ix].kind
  have hin : (inOf w.U c.N).length ≤ w.U.length := by unfold inOf; rw [List.length_map]; exact List.length_filter_le _ _
  rw [hux]
  refine ADraw.of_sched infoOK (by rfl) (by rfl) sch123_4 (by rfl) ?_
  refine optK_intro (o := (F.un (svS G0 s w _ o0 o1 o2 p)).obj pb) _ hb ?_
  refine optK_intro (o := (F.un (svS G0 s w _ o0 o1 o2 p)).obj xw) _ hx ?_
  refine optK_intro (o := (F.un (svS G0 s w _ o0 o1 o2 p)).obj s) _ hs ?_
  refine optK_intro (o := (F.un (svS G0 s w _ o0 o1 o2 p)).obj pb) _ hb ?_
  refine ⟨what_spec _ _ _ ⟨(by repeat (first | exact trivial | refine ⟨rfl, ?_⟩ | refine ⟨optK_intro (o := (F.un (svS G0 s w _ o0 o1 o2 p)).obj pb) _ hb rfl, ?_⟩ | refine ⟨optK_intro (o := (F.un (svS G0 s w _ o0 o1 o2 p)).obj xw) _ hx rfl, ?_⟩ | refine ⟨optK_intro (o := (F.un (svS G0 s w _ o0 o1 o2 p)).obj s) _ hs rfl, ?_⟩)), ?_⟩, trivial⟩
  rw [hidx]
  refine ⟨inQ_spec hr (by omega) c.N _ ⟨(by repeat (first | exact trivial | refine ⟨rfl, ?_⟩ | refine ⟨optR (optR (optR (optK_intro _ (setObj_self _ _ _) rfl))), ?_⟩)), ?_⟩, trivial⟩
  refine in64 (by rw [rws_len]; omega) ?_
  refine ⟨⟨trivial, ?_⟩, trivial⟩
  rw [rws_len]
  refine all_fn ⟨hx, hs, hr⟩ hm.hr (by omega) (by omega) _ _ (moreE w.U[ix]) (fun id hid st' ho R h => loadFn_spec w.U[ix] (uAt w id) (hn _ (List.getElem_mem hix)) (uAt_ok hn id) pb st' (by rw [ho]; exact hb) R h) (ldA w c.P c.N) (fun id => by unfold ldA; rw [hux]) _ (fun he => ?_) (fun he => ?_)
  rotate_left
  · have e5 := ldE_2 c1 he
    refine bcd (fun h1 => absurd h1 (by omega)) (fun _ => ?_)
    refine AWp.loop (σ := Unit) ⟨fun x => [(4, .av (int (ldE w c))), (45, .av (int 0)), (46, .av (int 0))], fun _ => [], fun x st' => True, fun x => 0⟩ infoOK ?_ ?_
    · refine ⟨(), trivial, trivial, ⟨?_, LV.le_refl _, LV.le_refl _, trivial⟩, trivial⟩
      rw [e5]; exact LV.le_refl _
    rintro ⟨⟩ st' _
    exact ret (h _ (by rw [e5]; exact he))
  have hzero := allE_zero he
  have e5 := ldE_3 c1 he
  rw [hux] at e5
  refine bcd (fun h1 => ?_) (fun h1 => ?_)
  · rw [rws_len, List.length_map] at h1
    rw [if_pos (by omega)] at e5
    rw [e5] at h
    exact ret (h _ (by decide))
  rw [rws_len, List.length_map] at h1
  rw [if_neg (by omega)] at e5
  refine AWp.loop (σ := Nat × Store × Store × List Ent) ⟨fun x => [(0, .av (ptr xw)), (3, .av (ptr pb)), (4, .av (int 0)), (44, .av (lst 10 untC (c.U.map (uAt w)))), (45, .av (int (c.U.length : Nat))), (46, .av (int (x.1 : Nat)))], fun _ => [],
    fun x st' => x.1 ≤ c.U.length ∧ st' = x.2.1.un (svS x.2.2.1 s { w with U := setU (c.U.take x.1) (ldU c.N) w.U } (.s (.slice oa w.U.length cap)) o0 o1 o2 p) ∧ StandR x.2.1 x.2.2.1 s p { w with U := setU (c.U.take x.1) (ldU c.N) w.U } (.s (.slice oa w.U.length cap)) x.2.2.2 o0 o1 o2 ∧ (∀ q, offB (.s (.slice oa w.U.length cap)) q → x.2.2.1.obj q = G0.obj q) ∧ x.2.2.2.length ≤ L.length + x.1 ∧ ∀ e ∈ x.2.2.2, e.2.ok, fun x => c.U.length - x.1⟩ infoOK ?_ ?_
  · refine ⟨(0, F, G0, L), trivial, ⟨Nat.zero_le _, ?_, ?_, fun _ _ => rfl, by dsimp only; omega, onField_ok hW.hF hn⟩, ⟨LV.le_refl _, LV.le_refl _, LV.le_refl _, LV.le_refl _, ?_, LV.le_refl _, trivial⟩, trivial⟩
    · dsimp only
      rw [List.take_zero, setU_nil]
    · dsimp only
      rw [List.take_zero, setU_nil]
      exact hW1.S
    · have e : (c.U.length : Int) = ((rws untC (c.U.map (uAt w))).length : Int) := by rw [rws_len, List.length_map]
      rw [e]; exact LV.le_refl _
  rintro ⟨k, F1, G1, L1⟩ st' ⟨hk, rfl, hS, hG, hL, hok⟩
  dsimp only at hk hS hG hL hok ⊢
  have hx2 : (F1.un (svS G1 s { w with U := setU (c.U.take k) (ldU c.N) w.U } (.s (.slice oa w.U.length cap)) o0 o1 o2 p)).obj xw = some (.cells (wkC s c fv)) := un_r (by
    show (G1.setObj s _).obj xw = _
    rw [setObj_ne hW1.ne, hG xw hW1.ox]
    exact hW1.hx)
  have hb2 : (F1.un (svS G1 s { w with U := setU (c.U.take k) (ldU c.N) w.U } (.s (.slice oa w.U.length cap)) o0 o1 o2 p)).obj pb = some (.cells (untC w.U[ix])) := un_r (by
    show (G1.setObj s _).obj pb = _
    rw [setObj_ne hps, hG pb off1, hgb, hux])
  refine bcd (fun h1 => ?_) (fun h1 => ?_)
  rotate_left
  · have : k = c.U.length := by omega
    subst this
    rw [List.take_length] at hS hx2 ⊢
    exact ret (h0 e5 _ ⟨_, o0, o1, o2, p, hx2, un_r (svS_obj _ _ _ _ _ _ _ _), (svS_rows hS.hs hS.hu).un⟩)
  have hlt : k < c.U.length := by omega
  obtain ⟨i, hi, hf, hid, hu, how, hin⟩ := askE_zero (ldA_zero (hzero c.U[k] (List.getElem_mem hlt))).1
  have hlm : k < (c.U.map (uAt w)).length := by rw [List.length_map]; exact hlt
  refine ⟨k, rfl, optK_intro _ (rws_get hlm) ?_⟩
  have hgm : (c.U.map (uAt w))[k] = w.U[i] := by rw [List.getElem_map, hu]
  rw [hgm]
  refine rest_spec w.U[i] _ _ ?_
  refine optK_intro (o := (F1.un (svS G1 s _ _ o0 o1 o2 p)).obj pb) _ hb2 ?_
  refine ADraw.of_sched infoOK (by rfl) (by rfl) sch123_13 (by rfl) ?_
  refine optK_intro (o := (F1.un (svS G1 s _ _ o0 o1 o2 p)).obj xw) _ hx2 ?_
  have hi2 : i < (setU (c.U.take k) (ldU c.N) w.U).length := by rw [setU_len]; exact hi
  refine ⟨put_spec hS hW1.os (setU_rises (g := ldU c.N) (fun _ => rfl) hm.hr) (by rw [setU_len]; omega) (by omega) hok hi2 (ldU w.U[ix].id w.U[i]) (setU_id (g := ldU c.N) (fun _ => rfl) hi) (show Vc.ok (0, 0) by unfold Vc.ok InI64; decide) _ (fun F2 G2 L2 g1 g2 g3 g4 => ⟨trivial, ?_⟩), trivial⟩
  have e6 : c.U.take k ++ [w.U[i].id] = c.U.take (k + 1) := by rw [List.take_succ_eq_append_getElem hlt, hid]
  dsimp only at g1 ⊢
  rw [hidx, setU_set hm.hr hi, e6] at g1 ⊢
  refine in64 (by omega) ?_
  refine ⟨(k + 1, F2, G2, L2), ?_, ⟨by dsimp only; omega, rfl, g1, fun q hq => (g2 q hq).trans (hG q hq), by dsimp only; omega, g4⟩, ⟨LV.le_refl _, LV.le_refl _, LV.le_refl _, LV.le_refl _, LV.le_refl _, LV.le_refl _, trivial⟩, trivial⟩
  show c.U.length - (k + 1) < c.U.length - k
  omega

theorem does6 : DoesOK 6 ldE ldW := by
  intro F G xw s p w v L o0 o1 o2 c hW hm hn hc hp hk R h h0
  have hx := hW.x (F' := F) (q0 := o0) (q1 := o1) (q2 := o2)
  have hok := (Cmd.ok6 hk).1 hc.1
  refine ACalls.of_body (c := cfg 34) infoOK Tryz.func79 (by rfl) (by rfl) (by rfl) (by rfl) ?_
  refine optK_intro (o := (F.un (svS G s w v o0 o1 o2 p)).obj xw) _ hx ?_
  refine bceq (fun c1 => absurd (hk.symm.trans c1) (by decide)) (fun _ => ?_)
  refine bceq (fun c1 => absurd (hk.symm.trans c1) (by decide)) (fun _ => ?_)
  refine bceq (fun c1 => absurd (hk.symm.trans c1) (by decide)) (fun _ => ?_)
  refine bceq (fun c1 => absurd (hk.symm.trans c1) (by decide)) (fun _ => ?_)
  refine bceq (fun c1 => absurd (hk.symm.trans c1) (by decide)) (fun _ => ?_)
  refine bceq (fun _ => ?_) (fun c1 => absurd hk c1)
  refine wload_spec hW hm hn hok.1.1.2 hok.2.1 _ (fun S' he => ret (h S' he)) (fun he S' hd => ret (h0 he S' hd))
end Go.Proofs
namespace Go.Proofs
open Go Go.V
set_option linter.unusedVariables false
set_option linter.unusedSimpArgs false

theorem head_fld {U : List Unt} {J : List AV} {i j : Nat} (hi : i < U.length) (hj : j < 10) {y : AV} (hy : (untC U[i])[j]? = some y) : (((rws untC U).flatten ++ J).drop (0 + i * 10 + j)).head? = some y := by
  have hd := rows_drop (f := untC) (L := J) untC_len hi
  rw [← List.drop_drop, hd, List.head?_drop, List.getElem?_append_left (by rw [untC_len]; exact hj)]
  exact hy

theorem rridersQ_spec {S : Store} {w : Wld} {v : AV} (hv : RowsQ 10 untC S v w.U) (hU : w.U.length ≤ 1000000) (id : Int) (R : AV → Store → Prop) (h : R (ints (inOf w.U id)) S) : ACalls Tryz.prog 41 [.agg (wldV w v), int id] S R := by
  obtain ⟨oa, cap, e, hget⟩ := hv.form
  subst e
  refine ACalls.of_body (c := cfg 32) infoOK Tryz.func41 (by rfl) (by rfl) (by rfl) (by rfl) ?_
  refine AWp.loop (σ := Nat × AV) ⟨fun x => [(1, .av (int id)), (2, .bx 2 0), (5, .av x.2), (6, .av (int (x.1 : Nat)))], fun _ => [(2, wldV w (.s (.slice oa w.U.length cap)))],
    fun x st' => x.1 ≤ w.U.length ∧ App 1 S x.2 (rws intC (inOf (w.U.take x.1) id)) st', fun x => w.U.length - x.1⟩ infoOK ?_ ?_
  · exact ⟨(0, _), trivial, ⟨Nat.zero_le _, App.start 1 S⟩, ⟨LV.le_refl _, LV.le_refl _, LV.le_refl _, LV.le_refl _, trivial⟩, ⟨rfl, trivial⟩⟩
  rintro ⟨i, v2⟩ st' ⟨hi, ha⟩
  dsimp only at hi ha ⊢
  refine bcd (fun h1 => ?_) (fun h1 => ?_)
  rotate_left
  · have : i = w.U.length := by omega
    subst this
    rw [List.take_length] at ha
    exact ⟨_, _, ha.le, ha.has, h⟩
  have hlt : i < w.U.length := by omega
  have hs := inOf_snoc hlt id
  have hl1 : (inOf (w.U.take i) id).length ≤ 1000000 := by
    have h1 := inOf_le (l := w.U) i id
    have h2 : (inOf w.U id).length ≤ w.U.length := by unfold inOf; rw [List.length_map]; exact List.length_filter_le _ _
    omega
  obtain ⟨b, J, e2, hob⟩ := hget i hlt
  have hob : st'.obj b = some (.cells ((rws untC w.U).flatten ++ J)) := by rw [ha.obj]; exact hob
  subst e2
  refine ⟨i, rfl, hlt, ?_⟩
  refine optK_intro (o := st'.obj b) _ hob ?_
  refine optK_intro (o := List.head? _) (int w.U[i].inn) (head_fld (j := 8) hlt (by decide) rfl) ?_
  refine bceq (fun c1 => ?_) (fun c1 => ?_)
  · rw [if_pos c1] at hs
    refine ⟨i, rfl, hlt, ?_⟩
    refine optK_intro (o := st'.obj b) _ hob ?_
    refine optK_intro (o := List.head? _) (int w.U[i].id) (head_fld (j := 0) hlt (by decide) rfl) ?_
    refine ⟨by decide, ?_⟩
    refine appendK_app (ie := ti3) (rows' := [intC w.U[i].id]) ha ?_ ?_ ⟨?_, ?_⟩ (fun v3 st3 ha3 => ?_)
    · rfl
    · rfl
    · simp only [rws_len, List.length_singleton, ti3]; omega
    · simp only [rws_len, List.length_singleton]; omega
    refine in64 (by omega) ?_
    refine ⟨(i + 1, v3), ?_, ⟨by dsimp only; omega, ?_⟩, ⟨LV.le_refl _, LV.le_refl _, LV.le_refl _, LV.le_refl _, trivial⟩, ⟨rfl, trivial⟩⟩
    · show w.U.length - (i + 1) < w.U.length - i
      omega
    · dsimp only
      rw [hs]
      unfold rws at ha3 ⊢
      rw [List.map_append]
      exact ha3
  · rw [if_neg c1, List.append_nil] at hs
    refine in64 (by omega) ?_
    refine ⟨(i + 1, v2), ?_, ⟨by dsimp only; omega, ?_⟩, ⟨LV.le_refl _, LV.le_refl _, LV.le_refl _, LV.le_refl _, trivial⟩, ⟨rfl, trivial⟩⟩
    · show w.U.length - (i + 1) < w.U.length - i
      omega
    · dsimp only
      rw [hs]
      exact ha

theorem raskedQ_spec {S : Store} {w : Wld} {v : AV} (hv : RowsQ 10 untC S v w.U) (hU : w.U.length ≤ 1000000) (P id : Int) (R : AV → Store → Prop) (h : R (int (askE w P id)) S) : ACalls Tryz.prog 86 [.agg (wldV w v), int P, int id] S R :=
  ACalls.read (ys := [.agg (wldC w), int P, int id]) (Q := fun r => r = int (askE w P id)) (fun Oth M W vs sto hr => by
    obtain ⟨hl, h2⟩ := hr
    match vs, hl with
    | [a, b, c], _ => exact Reads.cons (wldQ_borrow hv sto (h2 0 _ a rfl rfl)) (Reads.cons (mono_borrow (h2 1 _ b rfl rfl)) (Reads.cons (mono_borrow (h2 2 _ c rfl rfl)) Reads.nil))) (rasked_spec w hU P id _ _ rfl) (fun r hr => hr ▸ flat_s _) (fun r hr => hr ▸ h)

theorem rcarrier_spec (w : Wld) (hU : w.U.length ≤ 1000000) (hk : ∀ u ∈ w.U, kindP u.kind) (c : Cmd) (st : Store) (R : AV → Store → Prop) (h : R (int (carE w c.P c.N)) st) : ACalls Tryz.prog 91 [.agg (wldC w), .agg (cmdC c)] st R := by
  unfold carE at h
  refine ACalls.of_body (c := cfg 29) infoOK Tryz.func91 (by rfl) (by rfl) (by rfl) (by rfl) ?_
  refine rasked_spec w hU c.P c.N _ _ ?_
  refine ADraw.of_sched infoOK (by rfl) (by rfl) sch91_2 (by rfl) ?_
  refine bceq (fun c1 => ?_) (fun c1 => ?_)
  rotate_left
  · rw [if_neg c1] at h
    refine ⟨⟨(by repeat (first | exact trivial | refine ⟨rfl, ?_⟩ | refine ⟨optR (optR (optR (optK_intro _ (setObj_self _ _ _) rfl))), ?_⟩)), ?_⟩, trivial⟩
    refine ⟨⟨(by repeat (first | exact trivial | refine ⟨rfl, ?_⟩ | refine ⟨optR (optR (optR (optK_intro _ (setObj_self _ _ _) rfl))), ?_⟩)), ?_⟩, trivial⟩
    exact ret h
  rw [if_pos c1] at h
  obtain ⟨i, hi, hf, hid, hu, _, _⟩ := askE_zero c1
  rw [hu] at h
  refine ⟨rfindU_spec w hU c.N _ _ ⟨(by repeat (first | exact trivial | refine ⟨rfl, ?_⟩ | refine ⟨optR (optR (optR (optK_intro _ (setObj_self _ _ _) rfl))), ?_⟩)), ?_⟩, trivial⟩
  rw [hf]
  refine ⟨i, rfl, optK_intro _ (rws_get hi) ?_⟩
  refine ⟨rkind_spec w.U[i].kind (hk _ (List.getElem_mem hi)) _ _ ⟨(by repeat (first | exact trivial | refine ⟨rfl, ?_⟩ | refine ⟨optR (optR (optR (optK_intro _ (setObj_self _ _ _) rfl))), ?_⟩)), ?_⟩, trivial⟩
  refine bceq (fun c2 => ?_) (fun c2 => ?_)
  · rw [if_pos c2] at h
    exact ret h
  · rw [if_neg c2] at h
    rw [← c1] at h
    exact ret h

theorem rcarrierQ_spec {S : Store} {w : Wld} {v : AV} (hv : RowsQ 10 untC S v w.U) (hU : w.U.length ≤ 1000000) (hk : ∀ u ∈ w.U, kindP u.kind) (c : Cmd) (R : AV → Store → Prop) (h : R (int (carE w c.P c.N)) S) : ACalls Tryz.prog 91 [.agg (wldV w v), .agg (cmdC c)] S R :=
  ACalls.read (ys := [.agg (wldC w), .agg (cmdC c)]) (Q := fun r => r = int (carE w c.P c.N)) (fun Oth M W vs sto hr => by
    obtain ⟨x, y, rfl, h1, h2⟩ := reads2 hr
    exact Reads.cons (wldQ_borrow hv sto h1) (Reads.cons (mono_borrow h2) Reads.nil)) (rcarrier_spec w hU hk c _ _ rfl) (fun r hr => hr ▸ flat_s _) (fun r hr => hr ▸ h)

theorem fld_setL {S : Store} {b i j : Nat} {U : List Unt} {J : List AV} {x' : Unt} {ys : List AV} (ho : S.obj b = some (.cells ((rws untC U).flatten ++ J))) (hi : i < U.length) (hj : j + ys.length ≤ 10) (hx : untC x' = splice (untC U[i]) j ys) : (S.setObj b (.cells (splice ((rws untC U).flatten ++ J) (0 + i * 10 + j) ys))).obj b = some (.cells ((rws untC (U.set i x')).flatten ++ J)) := by
  rw [setObj_self, Nat.zero_add, splice_rows (f := untC) (k := 10) (x' := x') untC_len hi hj hx]

set_option maxHeartbeats 2000000 in
set_option maxRecDepth 20000 in
theorem rload_spec {S : Store} {p : Nat} {w : Wld} {v : AV} (hp : S.obj p = some (.cells (wldV w v))) (hv : RowsQ 10 untC S v w.U) (hoff : offB v p) (hmp : mayP w) (hn : ∀ u ∈ w.U, u.pos.ok) (c : Cmd) (hcU : c.U.length ≤ 64) (hN : 1 ≤ c.N) (R : AV → Store → Prop)
    (h : ∀ S', ldE w c ≠ 0 → R (int (ldE w c)) S') (h0 : ldE w c = 0 → ∀ S' v', S'.obj p = some (.cells (wldV (ldW w c) v')) → RowsQ 10 untC S' v' (ldW w c).U → R (int 0) S') : ACalls Tryz.prog 57 [ptr p, .agg (cmdC c)] S R := by
  have hm := mayF hmp
  have hU := hm.hU
  obtain ⟨oa, cap, e, hget⟩ := hv.form
  subst e
  refine ACalls.of_awp (c := cfg 135) infoOK Tryz.func57 (by rfl) (by rfl) (by rfl) (by rfl) ?_
  refine AWp.seq (AWp.of_vc infoOK ?_)
  refine AWp.seq (AWp.of_vc infoOK ?_)
  refine ADraw.of_sched infoOK (by rfl) (by rfl) sch57_1 (by rfl) ?_
  refine optK_intro (o := S.obj p) _ hp ?_
  refine ⟨rcarrierQ_spec hv (by omega) hm.hk c _ ⟨(by repeat (first | exact trivial | refine ⟨rfl, ?_⟩ | refine ⟨optK_intro (o := S.obj p) _ hp rfl, ?_⟩)), ?_⟩, trivial⟩
  refine ⟨⟨trivial, ?_⟩, trivial⟩
  refine AWp.seq (AWp.of_vc infoOK ?_)
  refine bcne (fun c1 => ?_) (fun c1 => ?_)
  · have := ldE_1 c1
    rw [this] at h
    exact ret (h _ c1)
  obtain ⟨hask, hroom⟩ := carE_zero c1
  obtain ⟨ix, hix, hfx, hidx, hux, _, _⟩ := askE_zero hask
  rw [hux] at hroom
  have hkb := kRoom_b w.U[ix].kind
  have hin : (inOf w.U c.N).length ≤ w.U.length := by unfold inOf; rw [List.length_map]; exact List.length_filter_le _ _
  refine AWp.meetA (σ := Unit) ⟨fun _ => [(0, .av (ptr p)), (3, .bx 3 0), (6, .bx 6 0)], fun _ => [(3, cmdC c), (6, untC w.U[ix])], fun _ st' => st' = S⟩ ?_ ?_
  · refine AWp.of_vc infoOK ?_
    refine ADraw.of_sched infoOK (by rfl) (by rfl) sch57_4 (by rfl) ?_
    refine optK_intro (o := S.obj p) _ hp ?_
    refine optK_intro (o := S.obj p) _ hp ?_
    obtain ⟨b, J, e2, hob⟩ := hget ix hix
    subst e2
    refine ⟨rfindQ_spec hv (by omega) c.N _ ⟨(by repeat (first | exact trivial | refine ⟨rfl, ?_⟩ | refine ⟨optK_intro (o := S.obj p) _ hp rfl, ?_⟩ | refine ⟨⟨ix, rfl, hix, rfl⟩, ?_⟩ | refine ⟨optK_intro (o := S.obj b) _ hob (partK_row (i := ti50) (row := untC w.U[ix]) rfl rfl (rows_drop untC_len hix) rfl), ?_⟩)), ?_⟩, ⟨(by repeat (first | exact trivial | refine ⟨rfl, ?_⟩ | refine ⟨optK_intro (o := S.obj p) _ hp rfl, ?_⟩ | refine ⟨⟨ix, rfl, hix, rfl⟩, ?_⟩ | refine ⟨optK_intro (o := S.obj b) _ hob (partK_row (i := ti50) (row := untC w.U[ix]) rfl rfl (rows_drop untC_len hix) rfl), ?_⟩)), ?_⟩, trivial⟩
    · rw [hfx]
      refine ⟨ix, rfl, hix, ?_⟩
      refine optK_intro (o := S.obj b) _ hob ?_
      refine partK_row (i := ti50) (row := untC w.U[ix]) rfl rfl (rows_drop untC_len hix) ?_
      refine ⟨⟨(by repeat (first | exact trivial | refine ⟨rfl, ?_⟩ | refine ⟨optK_intro (o := S.obj p) _ hp rfl, ?_⟩ | refine ⟨⟨ix, rfl, hix, rfl⟩, ?_⟩ | refine ⟨optK_intro (o := S.obj b) _ hob (partK_row (i := ti50) (row := untC w.U[ix]) rfl rfl (rows_drop untC_len hix) rfl), ?_⟩)), ?_⟩, trivial⟩
      refine ⟨⟨trivial, ?_⟩, trivial⟩
      exact ⟨(), rfl, ⟨LV.le_refl _, LV.le_refl _, LV.le_refl _, trivial⟩, ⟨rfl, rfl, trivial⟩⟩
    · refine ⟨rfindQ_spec hv (by omega) c.N _ ⟨(by repeat (first | exact trivial | refine ⟨rfl, ?_⟩ | refine ⟨optK_intro (o := S.obj p) _ hp rfl, ?_⟩ | refine ⟨⟨ix, rfl, hix, rfl⟩, ?_⟩ | refine ⟨optK_intro (o := S.obj b) _ hob (partK_row (i := ti50) (row := untC w.U[ix]) rfl rfl (rows_drop untC_len hix) rfl), ?_⟩)), ?_⟩, trivial⟩
      rw [hfx]
      refine ⟨ix, rfl, hix, ?_⟩
      refine optK_intro (o := S.obj b) _ hob ?_
      refine partK_row (i := ti50) (row := untC w.U[ix]) rfl rfl (rows_drop untC_len hix) ?_
      refine ⟨⟨trivial, ?_⟩, trivial⟩
      exact ⟨(), rfl, ⟨LV.le_refl _, LV.le_refl _, LV.le_refl _, trivial⟩, ⟨rfl, rfl, trivial⟩⟩
  rintro _ S rfl
  refine AWp.of_vc infoOK ?_
  refine AWp.loop (σ := Nat) ⟨fun i => [(0, .av (ptr p)), (3, .bx 3 0), (6, .bx 6 0), (7, .av (int (i : Nat)))], fun _ => [(3, cmdC c), (6, untC w.U[ix])],
    fun i st' => i ≤ c.U.length ∧ st' = S ∧ ∀ j, (hj : j < c.U.length) → j < i → ldA w c.P c.N c.U[j] = 0, fun i => c.U.length - i⟩ infoOK ?_ ?_
  · exact ⟨0, trivial, ⟨Nat.zero_le _, rfl, fun j _ hj => by omega⟩, ⟨LV.le_refl _, LV.le_refl _, LV.le_refl _, LV.le_refl _, trivial⟩, ⟨rfl, rfl, trivial⟩⟩
  rintro i S ⟨hi, rfl, hall⟩
  refine bcase_intro (fun h1 => ?_) (fun h1 => ?_)
  · have hlt := lt_len h1
    refine ADraw.of_sched infoOK (by rfl) (by rfl) sch57_8 (by rfl) ?_
    refine optK_intro (o := S.obj p) _ hp ?_
    refine ⟨i, rfl, optK_intro _ (rws_get hlt) ?_⟩
    refine ⟨raskedQ_spec hv (by omega) c.P c.U[i] _ ⟨(by repeat (first | exact trivial | refine ⟨rfl, ?_⟩ | refine ⟨optK_intro (o := S.obj p) _ hp rfl, ?_⟩ | refine ⟨⟨i, rfl, optK_intro _ (rws_get hlt) rfl⟩, ?_⟩)), ?_⟩, trivial⟩
    refine ⟨⟨trivial, ?_⟩, trivial⟩
    refine bcne (fun c2 => ?_) (fun c2 => ?_)
    · have hA : ldA w c.P c.N c.U[i] = askE w c.P c.U[i] := by unfold ldA; rw [if_neg c2]
      have e5 := ldE_2 c1 (by rw [allE_some hlt hall (by rw [hA]; exact c2), hA]; exact c2)
      rw [allE_some hlt hall (by rw [hA]; exact c2), hA] at e5
      rw [e5] at h
      exact ret (h _ c2)
    obtain ⟨iu, hiu, hfu, hidu, huu, _, _⟩ := askE_zero c2
    have hA : ldA w c.P c.N c.U[i] = moreE w.U[ix] w.U[iu] := by unfold ldA; rw [if_pos c2, hux, huu]
    obtain ⟨b, J, e2, hob⟩ := hget iu hiu
    subst e2
    refine ADraw.of_sched infoOK (by rfl) (by rfl) sch57_11 (by rfl) ?_
    refine optK_intro (o := S.obj p) _ hp ?_
    refine optK_intro (o := S.obj p) _ hp ?_
    refine ⟨i, rfl, optK_intro _ (rws_get hlt) ?_⟩
    refine ⟨rfindQ_spec hv (by omega) c.U[i] _ ⟨(by repeat (first | exact trivial | refine ⟨rfl, ?_⟩ | refine ⟨optK_intro (o := S.obj p) _ hp rfl, ?_⟩ | refine ⟨⟨i, rfl, optK_intro _ (rws_get hlt) rfl⟩, ?_⟩ | refine ⟨⟨iu, rfl, hiu, rfl⟩, ?_⟩ | refine ⟨optK_intro (o := S.obj b) _ hob (partK_row (i := ti50) (row := untC w.U[iu]) rfl rfl (rows_drop untC_len hiu) rfl), ?_⟩ | refine ⟨in64 (by rw [rws_len]; omega) rfl, ?_⟩)), ?_⟩, ⟨(by repeat (first | exact trivial | refine ⟨rfl, ?_⟩ | refine ⟨optK_intro (o := S.obj p) _ hp rfl, ?_⟩ | refine ⟨⟨i, rfl, optK_intro _ (rws_get hlt) rfl⟩, ?_⟩ | refine ⟨⟨iu, rfl, hiu, rfl⟩, ?_⟩ | refine ⟨optK_intro (o := S.obj b) _ hob (partK_row (i := ti50) (row := untC w.U[iu]) rfl rfl (rows_drop untC_len hiu) rfl), ?_⟩ | refine ⟨in64 (by rw [rws_len]; omega) rfl, ?_⟩)), ?_⟩, trivial⟩
    · rw [hfu]
      refine ⟨iu, rfl, hiu, ?_⟩
      refine optK_intro (o := S.obj b) _ hob ?_
      refine partK_row (i := ti50) (row := untC w.U[iu]) rfl rfl (rows_drop untC_len hiu) ?_
      refine ⟨⟨(by repeat (first | exact trivial | refine ⟨rfl, ?_⟩ | refine ⟨optK_intro (o := S.obj p) _ hp rfl, ?_⟩ | refine ⟨⟨i, rfl, optK_intro _ (rws_get hlt) rfl⟩, ?_⟩ | refine ⟨⟨iu, rfl, hiu, rfl⟩, ?_⟩ | refine ⟨optK_intro (o := S.obj b) _ hob (partK_row (i := ti50) (row := untC w.U[iu]) rfl rfl (rows_drop untC_len hiu) rfl), ?_⟩ | refine ⟨in64 (by rw [rws_len]; omega) rfl, ?_⟩)), ?_⟩, trivial⟩
      refine ⟨⟨trivial, ?_⟩, trivial⟩
      refine rkind_spec w.U[iu].kind (hm.hk _ (List.getElem_mem hiu)) _ _ ?_
      refine bcd (fun c3 => ?_) (fun c3 => ?_)
      · have hmo : moreE w.U[ix] w.U[iu] = 7 := by unfold moreE; rw [if_pos c3]
        rw [hmo] at hA
        have e5 := ldE_2 c1 (by rw [allE_some hlt hall (by rw [hA]; decide), hA]; decide)
        rw [allE_some hlt hall (by rw [hA]; decide), hA] at e5
        rw [e5] at h
        exact ret (h _ (by decide))
      refine rfar_spec w.U[iu].pos w.U[ix].pos (hn _ (List.getElem_mem hiu)) (hn _ (List.getElem_mem hix)) _ _ ?_
      refine bcd (fun c4 => ?_) (fun c4 => ?_)
      · have hmo : moreE w.U[ix] w.U[iu] = 8 := by unfold moreE; rw [if_neg c3, if_pos c4]
        rw [hmo] at hA
        have e5 := ldE_2 c1 (by rw [allE_some hlt hall (by rw [hA]; decide), hA]; decide)
        rw [allE_some hlt hall (by rw [hA]; decide), hA] at e5
        rw [e5] at h
        exact ret (h _ (by decide))
      have hmo : moreE w.U[ix] w.U[iu] = 0 := by unfold moreE; rw [if_neg c3, if_neg c4]
      rw [hmo] at hA
      refine in64 (by omega) ?_
      refine ⟨i + 1, ?_, ⟨by omega, rfl, fun j hj hji => ?_⟩, ⟨LV.le_refl _, LV.le_refl _, LV.le_refl _, LV.le_refl _, trivial⟩, ⟨rfl, rfl, trivial⟩⟩
      · show c.U.length - (i + 1) < c.U.length - i
        omega
      · by_cases e : j = i
        · subst e; exact hA
        · exact hall j hj (by omega)
    · refine ⟨rfindQ_spec hv (by omega) c.U[i] _ ⟨(by repeat (first | exact trivial | refine ⟨rfl, ?_⟩ | refine ⟨optK_intro (o := S.obj p) _ hp rfl, ?_⟩ | refine ⟨⟨i, rfl, optK_intro _ (rws_get hlt) rfl⟩, ?_⟩ | refine ⟨⟨iu, rfl, hiu, rfl⟩, ?_⟩ | refine ⟨optK_intro (o := S.obj b) _ hob (partK_row (i := ti50) (row := untC w.U[iu]) rfl rfl (rows_drop untC_len hiu) rfl), ?_⟩ | refine ⟨in64 (by rw [rws_len]; omega) rfl, ?_⟩)), ?_⟩, trivial⟩
      rw [hfu]
      refine ⟨iu, rfl, hiu, ?_⟩
      refine optK_intro (o := S.obj b) _ hob ?_
      refine partK_row (i := ti50) (row := untC w.U[iu]) rfl rfl (rows_drop untC_len hiu) ?_
      refine ⟨⟨trivial, ?_⟩, trivial⟩
      refine rkind_spec w.U[iu].kind (hm.hk _ (List.getElem_mem hiu)) _ _ ?_
      refine bcd (fun c3 => ?_) (fun c3 => ?_)
      · have hmo : moreE w.U[ix] w.U[iu] = 7 := by unfold moreE; rw [if_pos c3]
        rw [hmo] at hA
        have e5 := ldE_2 c1 (by rw [allE_some hlt hall (by rw [hA]; decide), hA]; decide)
        rw [allE_some hlt hall (by rw [hA]; decide), hA] at e5
        rw [e5] at h
        exact ret (h _ (by decide))
      refine rfar_spec w.U[iu].pos w.U[ix].pos (hn _ (List.getElem_mem hiu)) (hn _ (List.getElem_mem hix)) _ _ ?_
      refine bcd (fun c4 => ?_) (fun c4 => ?_)
      · have hmo : moreE w.U[ix] w.U[iu] = 8 := by unfold moreE; rw [if_neg c3, if_pos c4]
        rw [hmo] at hA
        have e5 := ldE_2 c1 (by rw [allE_some hlt hall (by rw [hA]; decide), hA]; decide)
        rw [allE_some hlt hall (by rw [hA]; decide), hA] at e5
        rw [e5] at h
        exact ret (h _ (by decide))
      have hmo : moreE w.U[ix] w.U[iu] = 0 := by unfold moreE; rw [if_neg c3, if_neg c4]
      rw [hmo] at hA
      refine in64 (by omega) ?_
      refine ⟨i + 1, ?_, ⟨by omega, rfl, fun j hj hji => ?_⟩, ⟨LV.le_refl _, LV.le_refl _, LV.le_refl _, LV.le_refl _, trivial⟩, ⟨rfl, rfl, trivial⟩⟩
      · show c.U.length - (i + 1) < c.U.length - i
        omega
      · by_cases e : j = i
        · subst e; exact hA
        · exact hall j hj (by omega)
  have : i = c.U.length := ge_len h1 hi
  subst this
  have hzero : allE (ldA w c.P c.N) c.U = 0 := allE_none fun j hj => hall j hj hj
  have e5 := ldE_3 c1 hzero
  rw [hux] at e5
  have hall := allE_zero hzero
  refine ADraw.of_sched infoOK (by rfl) (by rfl) sch57_16 (by rfl) ?_
  refine optK_intro (o := S.obj p) _ hp ?_
  refine ⟨rridersQ_spec hv (by omega) c.N _ ⟨(by repeat (first | exact trivial | refine ⟨rfl, ?_⟩ | refine ⟨optK_intro (o := S.obj p) _ hp rfl, ?_⟩)), ?_⟩, trivial⟩
  refine in64 (by rw [rws_len, rws_len]; omega) ?_
  refine ⟨rkind_spec w.U[ix].kind (hm.hk _ (List.getElem_mem hix)) _ _ ⟨(by repeat (first | exact trivial | refine ⟨rfl, ?_⟩ | refine ⟨optK_intro (o := S.obj p) _ hp rfl, ?_⟩)), ?_⟩, trivial⟩
  refine bcd (fun h2 => ?_) (fun h2 => ?_)
  · rw [rws_len, rws_len] at h2
    rw [if_pos h2] at e5
    rw [e5] at h
    exact ret (h _ (by decide))
  rw [rws_len, rws_len] at h2
  rw [if_neg h2] at e5
  refine AWp.loop (σ := Nat × Store) ⟨fun x => [(0, .av (ptr p)), (3, .bx 3 0), (9, .av (int (x.1 : Nat)))], fun _ => [(3, cmdC c)],
    fun x st' => x.1 ≤ c.U.length ∧ st' = x.2 ∧ x.2.obj p = some (.cells (wldV w (.s (.slice oa w.U.length cap)))) ∧ RowsQ 10 untC x.2 (.s (.slice oa w.U.length cap)) (setU (c.U.take x.1) (ldU c.N) w.U), fun x => c.U.length - x.1⟩ infoOK ?_ ?_
  · refine ⟨(0, S), trivial, ⟨Nat.zero_le _, rfl, hp, ?_⟩, ⟨LV.le_refl _, LV.le_refl _, LV.le_refl _, trivial⟩, ⟨rfl, trivial⟩⟩
    dsimp only
    rw [List.take_zero, setU_nil]
    exact hv
  rintro ⟨k, S0⟩ S1 ⟨hk, rfl, hp1, hr1⟩
  dsimp only at hk hp1 hr1 ⊢
  refine bcase_intro (fun h1 => ?_) (fun h1 => ?_)
  rotate_left
  · have hkl : k = c.U.length := ge_len h1 hk
    subst hkl
    rw [List.take_length] at hr1
    exact ret (h0 e5 _ _ hp1 hr1)
  have hlt := lt_len h1
  obtain ⟨iu, hiu, hfu, hidu, huu, _, _⟩ := askE_zero (ldA_zero (hall c.U[k] (List.getElem_mem hlt))).1
  have hi2 : iu < (setU (c.U.take k) (ldU c.N) w.U).length := by rw [setU_len]; exact hiu
  have hf2 : findU (setU (c.U.take k) (ldU c.N) w.U) c.U[k] = some iu := by rw [findU_set (g := ldU c.N) (fun _ => rfl)]; exact hfu
  rcases hr1 with (⟨_, hl0⟩ | ⟨b, cap', J, e, ho, hc1, hc2, hc3⟩) | ⟨_, _, _, hl0⟩
  · rw [hl0] at hi2; exact absurd hi2 (Nat.not_lt_zero iu)
  rotate_left
  · rw [hl0] at hi2; exact absurd hi2 (Nat.not_lt_zero iu)
  simp only [AV.s.injEq, Value.slice.injEq] at e
  obtain ⟨rfl, e7, rfl⟩ := e
  have hcap : 0 < cap := by omega
  have hbp : b ≠ p := hoff b _ _ rfl hcap
  refine ADraw.of_sched infoOK (by rfl) (by rfl) sch57_21 (by rfl) ?_
  refine optK_intro (o := S1.obj p) _ hp1 ?_
  refine optK_intro (o := S1.obj p) _ hp1 ?_
  refine ⟨k, rfl, optK_intro _ (rws_get hlt) ?_⟩
  refine ⟨rfindQ_spec (w := { w with U := setU (c.U.take k) (ldU c.N) w.U }) (.inl (.inr ⟨b, cap, J, by rw [e7], ho, hc1, hc2, hc3⟩)) (by rw [setU_len]; omega) c.U[k] _ ⟨(by repeat (first | exact trivial | refine ⟨rfl, ?_⟩ | refine ⟨⟨k, rfl, optK_intro _ (rws_get hlt) rfl⟩, ?_⟩ | refine ⟨optK_intro (o := S1.obj p) _ hp1 rfl, ?_⟩)), ?_⟩, trivial⟩
  dsimp only
  rw [hf2]
  refine ⟨iu, rfl, hiu, ?_⟩
  refine ⟨⟨trivial, ?_⟩, trivial⟩
  have e8 : (setU (c.U.take k) (ldU c.N) w.U).length = w.U.length := setU_len _ _ _
  have hidk : (setU (c.U.take k) (ldU c.N) w.U).set iu (ldU c.N (setU (c.U.take k) (ldU c.N) w.U)[iu]) = setU (c.U.take (k + 1)) (ldU c.N) w.U := by
    have e5 : c.U.take k ++ [w.U[iu].id] = c.U.take (k + 1) := by rw [List.take_succ_eq_append_getElem hlt, hidu]
    have e6 : ldU c.N ((setU (c.U.take k) (ldU c.N) w.U)[iu]) = ldU c.N w.U[iu] := by
      rw [setU_get hiu]
      split <;> rfl
    rw [e6, setU_set hm.hr hiu, e5]
  generalize hgU : setU (c.U.take k) (ldU c.N) w.U = U1 at *
  refine storeK_obj (i := ti3) (v := int c.N) (b := b) (o := 0 + iu * 10 + 8) (l := (rws untC (U1)).flatten ++ J) rfl rfl rfl ho (show 0 + iu * 10 + 8 + 1 ≤ _ by rw [List.length_append, rws_flat_len untC_len, e8]; omega) ?_
  have q1 := fld_setL (x' := { U1[iu] with inn := c.N }) (ys := [int c.N]) (j := 8) ho hi2 (show 8 + 1 ≤ 10 by decide) rfl
  have p1 := (setObj_ne (st := S1) (x := .cells (splice ((rws untC (U1)).flatten ++ J) (0 + iu * 10 + 8) [int c.N])) (Ne.symm hbp)).trans hp1
  generalize S1.setObj b _ = S2 at q1 p1 ⊢
  refine storeK_objL (i := ti38) (v := .agg [int 0, int 0]) (xs := [int 0, int 0]) (b := b) (o := 0 + iu * 10 + 3) (l := (rws untC (U1.set iu { U1[iu] with inn := c.N })).flatten ++ J) rfl rfl rfl q1 (show 0 + iu * 10 + 3 + 2 ≤ _ by rw [List.length_append, rws_flat_len untC_len, List.length_set, e8]; omega) ?_
  have q2 := fld_setL (x' := { U1[iu] with inn := c.N, pos := (0, 0) }) (ys := [int 0, int 0]) (j := 3) q1 (by rw [List.length_set]; exact hi2) (by decide) (by rw [List.getElem_set_self]; rfl)
  rw [List.set_set] at q2
  have p2 := (setObj_ne (st := S2) (x := .cells (splice ((rws untC (U1.set iu { U1[iu] with inn := c.N })).flatten ++ J) (0 + iu * 10 + 3) [int 0, int 0])) (Ne.symm hbp)).trans p1
  generalize S2.setObj b _ = S3 at q2 p2 ⊢
  refine storeK_obj (i := ti3) (v := int (-1)) (b := b) (o := 0 + iu * 10 + 5) (l := (rws untC (U1.set iu { U1[iu] with inn := c.N, pos := (0, 0) })).flatten ++ J) rfl rfl rfl q2 (show 0 + iu * 10 + 5 + 1 ≤ _ by rw [List.length_append, rws_flat_len untC_len, List.length_set, e8]; omega) ?_
  have q3 := fld_setL (x' := { U1[iu] with inn := c.N, pos := (0, 0), goal := -1 }) (ys := [int (-1)]) (j := 5) q2 (by rw [List.length_set]; exact hi2) (by decide) (by rw [List.getElem_set_self]; rfl)
  rw [List.set_set] at q3
  have p3 := (setObj_ne (st := S3) (x := .cells (splice ((rws untC (U1.set iu { U1[iu] with inn := c.N, pos := (0, 0) })).flatten ++ J) (0 + iu * 10 + 5) [int (-1)])) (Ne.symm hbp)).trans p2
  generalize S3.setObj b _ = S4 at q3 p3 ⊢
  refine storeK_obj (i := ti3) (v := int (-1)) (b := b) (o := 0 + iu * 10 + 6) (l := (rws untC (U1.set iu { U1[iu] with inn := c.N, pos := (0, 0), goal := -1 })).flatten ++ J) rfl rfl rfl q3 (show 0 + iu * 10 + 6 + 1 ≤ _ by rw [List.length_append, rws_flat_len untC_len, List.length_set, e8]; omega) ?_
  have q4 := fld_setL (x' := { U1[iu] with inn := c.N, pos := (0, 0), goal := -1, next := -1 }) (ys := [int (-1)]) (j := 6) q3 (by rw [List.length_set]; exact hi2) (by decide) (by rw [List.getElem_set_self]; rfl)
  rw [List.set_set] at q4
  have p4 := (setObj_ne (st := S4) (x := .cells (splice ((rws untC (U1.set iu { U1[iu] with inn := c.N, pos := (0, 0), goal := -1 })).flatten ++ J) (0 + iu * 10 + 6) [int (-1)])) (Ne.symm hbp)).trans p3
  generalize S4.setObj b _ = S5 at q4 p4 ⊢
  refine storeK_obj (i := ti3) (v := int 0) (b := b) (o := 0 + iu * 10 + 7) (l := (rws untC (U1.set iu { U1[iu] with inn := c.N, pos := (0, 0), goal := -1, next := -1 })).flatten ++ J) rfl rfl rfl q4 (show 0 + iu * 10 + 7 + 1 ≤ _ by rw [List.length_append, rws_flat_len untC_len, List.length_set, e8]; omega) ?_
  have q5 := fld_setL (x' := { U1[iu] with inn := c.N, pos := (0, 0), goal := -1, next := -1, stuck := 0 }) (ys := [int 0]) (j := 7) q4 (by rw [List.length_set]; exact hi2) (by decide) (by rw [List.getElem_set_self]; rfl)
  rw [List.set_set] at q5
  have p5 := (setObj_ne (st := S5) (x := .cells (splice ((rws untC (U1.set iu { U1[iu] with inn := c.N, pos := (0, 0), goal := -1, next := -1 })).flatten ++ J) (0 + iu * 10 + 7) [int 0])) (Ne.symm hbp)).trans p4
  generalize S5.setObj b _ = S6 at q5 p5 ⊢
  refine storeK_obj (i := ti3) (v := int 0) (b := b) (o := 0 + iu * 10 + 9) (l := (rws untC (U1.set iu { U1[iu] with inn := c.N, pos := (0, 0), goal := -1, next := -1, stuck := 0 })).flatten ++ J) rfl rfl rfl q5 (show 0 + iu * 10 + 9 + 1 ≤ _ by rw [List.length_append, rws_flat_len untC_len, List.length_set, e8]; omega) ?_
  have q6 := fld_setL (x' := ldU c.N U1[iu]) (ys := [int 0]) (j := 9) q5 (by rw [List.length_set]; exact hi2) (by decide) (by rw [List.getElem_set_self]; rfl)
  rw [List.set_set] at q6
  have p6 := (setObj_ne (st := S6) (x := .cells (splice ((rws untC (U1.set iu { U1[iu] with inn := c.N, pos := (0, 0), goal := -1, next := -1, stuck := 0 })).flatten ++ J) (0 + iu * 10 + 9) [int 0])) (Ne.symm hbp)).trans p5
  generalize S6.setObj b _ = S7 at q6 p6 ⊢
  rw [hidk] at q6
  refine in64 (by omega) ?_
  have e9 : (setU (c.U.take (k + 1)) (ldU c.N) w.U).length = w.U.length := setU_len _ _ _
  refine ⟨(k + 1, S7), ?_, ⟨by dsimp only; omega, rfl, p6, .inl (.inr ⟨b, cap, J, by rw [e9], q6, by rw [e9, ← e8]; exact hc1, by rw [e9, ← e8]; exact hc2, hc3⟩)⟩, ⟨LV.le_refl _, LV.le_refl _, LV.le_refl _, trivial⟩, ⟨rfl, trivial⟩⟩
  show c.U.length - (k + 1) < c.U.length - k
  omega

theorem rapply6_raw (w : Wld) (hw : w.fits) (hn : ∀ u ∈ w.U, u.pos.ok) (hU : w.U.length ≤ 1000000) (c : Cmd) (hc : c.fits) (hK : c.K = 6) : ACalls Tryz.prog 34 [.agg (wldC w), .agg (cmdC c)] Store.empty (DoQ ldE ldW w c) := by
  refine ACalls.of_body (c := cfg 97 [6] []) infoOK Tryz.func34 (by rfl) (by rfl) (by rfl) (by rfl) ?_
  have bad : (¬ mayP w ∨ ¬ cmdP c ∨ w.players < c.P) → DoQ ldE ldW w c (.tup [.agg (wldC w), int 1]) Store.empty := fun hb => by
    have he := doE_bad (E := ldE) (w := w) (c := c) hb
    exact .inl ⟨by rw [he]; decide, by rw [he]⟩
  refine rmay_spec w hw hn _ _ (fun z hz => ?_)
  refine bcnot ?_
  refine bcase_intro (fun c1 => ?_) (fun c1 => ?_)
  rotate_left
  · exact ret (bad (.inl fun hh => by have := hz.2 hh; rw [this] at c1; cases c1))
  refine command21_specC c hc _ _ (fun zc hzc => ?_)
  refine bcnot ?_
  refine bcase_intro (fun c2 => ?_) (fun c2 => ?_)
  rotate_left
  · exact ret (bad (.inr (.inl fun hh => by have := hzc.2 hh; rw [this] at c2; cases c2)))
  refine bcd (fun c3 => ?_) (fun c3 => ?_)
  · exact ret (bad (.inr (.inr (by omega))))
  have hm := hz.1 c1
  have hcp := hzc.1 c2
  have he := doE_ok (E := ldE) hm hcp (show c.P ≤ w.players by omega)
  have hok := (Cmd.ok6 hK).1 hcp.1
  refine copyWorldR_spec w hw hU _ _ (fun v N hv _ => ?_)
  rw [un_empty]
  have hv := hv.q
  have hoff := fun (p : Nat) (hp : Fresh N p) => offB_fresh hv (not_has (fresh_iff.1 hp)).1
  obtain ⟨oa, cap, e, _⟩ := hv.form
  subst e
  refine fun p hp => ?_
  refine storeK_objL (i := ti28) (v := .agg (wldV w (.s (.slice oa w.U.length cap)))) (xs := wldV w (.s (.slice oa w.U.length cap))) (b := p) (o := 0) (l := _) rfl rfl rfl (setObj_self _ _ _) (show 0 + 8 ≤ 8 by decide) ?_
  generalize hS : (N.setObj p _).setObj p _ = S
  have hp2 : S.obj p = some (.cells (wldV w (.s (.slice oa w.U.length cap)))) := by rw [← hS]; exact setObj_self _ _ _
  have hr2 : RowsQ 10 untC S (.s (.slice oa w.U.length cap)) w.U := by rw [← hS]; exact (hv.set (hoff p hp) _).set (hoff p hp) _
  refine bceq (fun h => absurd (hK.symm.trans h) (by decide)) (fun _ => ?_)
  refine bceq (fun h => absurd (hK.symm.trans h) (by decide)) (fun _ => ?_)
  refine bceq (fun h => absurd (hK.symm.trans h) (by decide)) (fun _ => ?_)
  refine bceq (fun h => absurd (hK.symm.trans h) (by decide)) (fun _ => ?_)
  refine bceq (fun h => absurd (hK.symm.trans h) (by decide)) (fun _ => ?_)
  refine bceq (fun _ => ?_) (fun h => absurd hK h)
  refine rload_spec hp2 hr2 (hoff p hp) hm hn c hok.1.1.2 hok.2.1 _ (fun S' hE => ?_) (fun hE S' v' g1 g2 => ?_)
  · refine bcne (fun _ => ?_) (fun h => absurd h hE)
    exact ret (.inl ⟨by rw [he]; exact hE, by rw [he]; rfl⟩)
  · obtain ⟨oa2, cap2, e2, _⟩ := g2.form
    subst e2
    refine optK_intro (o := S'.obj p) _ g1 ?_
    exact ret (.inr ⟨he.trans hE, _, g2, rfl⟩)


theorem ref6 : RefOK 6 ldE ldW := fun w hw hn hU c hc hK R h => doQ_froz (rapply6_raw w hw hn hU c hc hK) R h

theorem ldW_len (w : Wld) (c : Cmd) (hm : mayP w) (hg : ¬ greatP w) : (ldW w c).G.T.length ≤ 1000000 ∧ (ldW w c).B.length ≤ 1000000 ∧ (ldW w c).U.length ≤ 1000000 := by
  unfold greatP at hg
  unfold ldW
  dsimp only
  rw [setU_len]
  omega

theorem applyLoads_law (s : Scr) (hn : ∀ u ∈ s.W.U, u.pos.ok) (hf : ∀ c ∈ s.L, c.sized) (st : Store) (R : AV → Store → Prop) (h : R (V.bool true) st) : ACalls Tryz.prog 9 [.agg (scrC s)] st R := by
  refine ACalls.of_body (c := cfg 5) infoOK Tryz.func9 (by rfl) (by rfl) (by rfl) (by rfl) ?_
  refine only23_spec does6 ref6 ldW_len wakes23_spec s hn hf _ _ ?_
  exact ret h
end Go.Proofs
