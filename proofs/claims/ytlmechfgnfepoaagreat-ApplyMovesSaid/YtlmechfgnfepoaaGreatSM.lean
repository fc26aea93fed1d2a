/- The ground on which laws of thronglaw23 are proved: contracts of functions and plain lemmas; no condition beyond the row's own. -/
import Derived.Test.YtlmechfgnfepoaaGreatSK
import Derived.Test.YtlmechfgnfepoaaGreatSC
import Derived.Test.YtlmechfgnfepoaaGreatSI
import Derived.Test.YtlmechfgnfepoaaGreatSG
import Derived.Test.YtlmechfgnfepoaaGreatSJ
set_option linter.unusedSimpArgs false
set_option linter.unusedVariables false
namespace Go.Proofs
open Go Go.V
set_option linter.unusedVariables false
set_option linter.unusedSimpArgs false
end Go.Proofs
namespace Go.Proofs
open Go Go.V
set_option linter.unusedVariables false
set_option linter.unusedSimpArgs false
theorem findU_at {l : List Unt} (hr : risesU l) {id : Int} {i : Nat} {z : Bool} (h : z = true ↔ ∃ hi : i < l.length, l[i].id = id) (hat : isAt l id i) : (z = true → findU l id = some i) ∧ (z = false → findU l id = none) := by
  refine ⟨fun hz => ?_, fun hz => ?_⟩
  · obtain ⟨hi, e⟩ := h.1 hz
    exact findU_mk hr hi e
  · cases hf : findU l id with
    | none => rfl
    | some k =>
      obtain ⟨hk, e⟩ := findU_some hf
      have hno : ¬ ∃ hi : i < l.length, l[i].id = id := fun hh => by rw [h.2 hh] at hz; cases hz
      by_cases h1 : k < i
      · have := hat.2.1 k hk h1; omega
      · have hil : i < l.length := by omega
        have := hat.2.2 i hil (Nat.le_refl _)
        by_cases h2 : i < k
        · have := risesU_lt hr h2 hk; omega
        · have e3 : k = i := by omega
          subst e3
          exact absurd ⟨hk, e⟩ hno
/-- A place of work, as it is read. -/
structure AtW (S : Store) (xw s p : Nat) (w : Wld) (v o0 o1 o2 : AV) (c : Cmd) (fv : AV) : Prop where
  hx : S.obj xw = some (.cells (wkC s c fv))
  hs : S.obj s = some (.cells (svC w v o0 o1 o2 p))
  hr : RowsQ 10 untC S v w.U
theorem ask_spec {S : Store} {xw s p : Nat} {w : Wld} {v o0 o1 o2 : AV} {c : Cmd} {fv : AV} (ha : AtW S xw s p w v o0 o1 o2 c fv) (hr : risesU w.U) (hU : w.U.length ≤ 1000000) (id : Int) (R : AV → Store → Prop) (h : R (.tup [.agg (untC (uAt w id)), int (askE w c.P id)]) S) : ACalls Tryz.prog 201 [ptr xw, int id] S R := by
  obtain ⟨hx, hs, hv⟩ := ha
  obtain ⟨oa, cap, e, hget⟩ := hv.form
  subst e
  refine ACalls.of_body (c := cfg 52) infoOK Tryz.func201 (by rfl) (by rfl) (by rfl) (by rfl) ?_
  refine optK_intro (o := S.obj xw) _ hx ?_
  refine optK_intro (o := S.obj s) _ hs ?_
  refine atR_spec hv (by omega) hr id _ (fun i hi z hz => ?_)
  obtain ⟨g1, g2⟩ := findU_at hr hz hi
  cases z with
  | false =>
    obtain ⟨e1, e2⟩ := askE_none (w := w) (P := c.P) (g2 rfl)
    rw [e1, e2] at h
    exact ret h
  | true =>
    obtain ⟨hil, hid⟩ := hz.1 rfl
    obtain ⟨_, _, e2⟩ := uAt_some (w := w) (g1 rfl)
    rw [e2, askE_some (P := c.P) (g1 rfl) hil] at h
    refine optK_intro (o := S.obj xw) _ hx ?_
    refine optK_intro (o := S.obj s) _ hs ?_
    obtain ⟨b, J, rfl, hob⟩ := hget i hil
    refine ⟨i, rfl, hil, ?_⟩
    refine optK_intro (o := S.obj b) _ hob ?_
    refine partK_row (i := ti50) (row := untC w.U[i]) rfl rfl (rows_drop untC_len hil) ?_
    refine ADraw.of_sched infoOK (by rfl) (by rfl) sch201_5 (by rfl) ?_
    refine optK_intro (o := S.obj xw) _ hx ?_
    refine ⟨⟨(by repeat (first | exact trivial | refine ⟨rfl, ?_⟩ | refine ⟨optR (optR (optR (optK_intro _ (setObj_self _ _ _) rfl))), ?_⟩)), ?_⟩, trivial⟩
    refine bcne (fun c1 => ?_) (fun c1 => ?_)
    · rw [if_neg c1] at h
      exact ret h
    rw [if_pos c1] at h
    refine bcne (fun c2 => ?_) (fun c2 => ?_)
    · rw [if_neg c2] at h
      exact ret h
    · rw [if_pos c2] at h
      exact ret h
theorem all_nil {S : Store} {xw s p : Nat} {w : Wld} {v o0 o1 o2 : AV} {c : Cmd} {fv : AV} (ha : AtW S xw s p w v o0 o1 o2 c fv) (hr : risesU w.U) (hU : w.U.length ≤ 1000000) (hc : c.U.length ≤ 1000000) (R : AV → Store → Prop)
    (h : allE (askE w c.P) c.U = 0 → R (.tup [lst 10 untC (c.U.map (uAt w)), int 0]) S) (h' : allE (askE w c.P) c.U ≠ 0 → R (.tup [.s (.slice none 0 0), int (allE (askE w c.P) c.U)]) S) : ACalls Tryz.prog 163 [ptr xw, .s .nilFunc] S R := by
  refine ACalls.of_body (c := cfg 44) infoOK Tryz.func163 (by rfl) (by rfl) (by rfl) (by rfl) ?_
  refine optK_intro (o := S.obj xw) _ ha.hx ?_
  refine AWp.loop (σ := Nat × AV) ⟨fun x => [(0, .av (ptr xw)), (1, .av (.s .nilFunc)), (4, .av x.2), (14, .av (ints c.U)), (15, .av (int (c.U.length : Nat))), (16, .av (int (x.1 : Nat)))], fun _ => [],
    fun x st' => x.1 ≤ c.U.length ∧ App 10 S x.2 (rws untC ((c.U.take x.1).map (uAt w))) st' ∧ ∀ j, (hj : j < c.U.length) → j < x.1 → askE w c.P c.U[j] = 0, fun x => c.U.length - x.1⟩ infoOK ?_ ?_
  · refine ⟨(0, _), trivial, ⟨Nat.zero_le _, App.start 10 S, fun j _ hj => by omega⟩, ⟨LV.le_refl _, LV.le_refl _, LV.le_refl _, LV.le_refl _, ?_, LV.le_refl _, trivial⟩, trivial⟩
    rw [← rws_len (f := intC) c.U]; exact LV.le_refl _
  rintro ⟨i, v2⟩ st' ⟨hi, hap, hall⟩
  dsimp only at hi hap hall ⊢
  refine bcd (fun h1 => ?_) (fun h1 => ?_)
  rotate_left
  · have : i = c.U.length := by omega
    subst this
    rw [List.take_length] at hap
    exact ⟨_, _, AV.le_tupL (xs := [v2, int 0]) (ys := [lst 10 untC (c.U.map (uAt w)), int 0]) ⟨AV.le_trans hap.le (AV.le_refl _), AV.le_refl _, trivial⟩, hap.has, h (allE_none fun j hj => hall j hj hj)⟩
  have hlt : i < c.U.length := by omega
  have ha' : AtW st' xw s p w v o0 o1 o2 c fv := ⟨by rw [hap.obj]; exact ha.hx, by rw [hap.obj]; exact ha.hs, ha.hr.sub fun _ _ _ _ => by rw [hap.obj]⟩
  refine ⟨i, rfl, optK_intro _ (rws_get hlt) ?_⟩
  refine ask_spec ha' hr hU c.U[i] _ ?_
  refine bceq (fun c1 => ?_) (fun c1 => ?_)
  rotate_left
  · refine bcne (fun c2 => ?_) (fun c2 => absurd c2 c1)
    have e := allE_some hlt hall c1
    have := h' (by rw [e]; exact c1)
    rw [e] at this
    exact ⟨_, _, AV.le_refl _, hap.has, this⟩
  refine bcne (fun c2 => absurd c1 c2) (fun c2 => ?_)
  refine ⟨by decide, ?_⟩
  refine appendK_app (ie := ti50) (rows' := [untC (uAt w c.U[i])]) hap ?_ ?_ ⟨?_, ?_⟩ (fun v3 st3 ha3 => ?_)
  · rfl
  · rfl
  · simp only [rws_len, List.length_map, List.length_take, List.length_singleton, ti50]; omega
  · simp only [rws_len, List.length_map, List.length_take, List.length_singleton]; omega
  refine in64 (by omega) ?_
  refine ⟨(i + 1, v3), ?_, ⟨by dsimp only; omega, ?_, fun j hj hji => ?_⟩, ⟨LV.le_refl _, LV.le_refl _, LV.le_refl _, LV.le_refl _, LV.le_refl _, LV.le_refl _, trivial⟩, trivial⟩
  · show c.U.length - (i + 1) < c.U.length - i
    omega
  · dsimp only
    rw [List.take_succ_eq_append_getElem hlt, List.map_append]
    unfold rws at ha3 ⊢
    rw [List.map_append]
    exact ha3
  · by_cases e : j = i
    · subst e; exact c1
    · exact hall j hj (by dsimp only at hji; omega)
theorem put_raw {F G : Store} {s p : Nat} {w : Wld} {v : AV} {L : List Ent} {o0 o1 o2 : AV} (hS : StandR F G s p w v L o0 o1 o2) (hos : offB v s) (hr : risesU w.U) (hU : w.U.length ≤ 1000000) (hL : L.length ≤ 1000000) (hok : ∀ e ∈ L, e.2.ok) {i : Nat} (hi : i < w.U.length) (u : Unt) (hid : w.U[i].id = u.id) (hp : u.pos.ok) (R : AV → Store → Prop)
    (h : ∀ F' G', StandR F' G' s p { w with U := w.U.set i u } v (entP L u) o0 o1 o2 → (∀ q, offB v q → G'.obj q = G.obj q) → R (.tup []) (F'.un (svS G' s { w with U := w.U.set i u } v o0 o1 o2 p))) :
    ACalls Tryz.prog 165 [ptr s, .agg (untC u)] (F.un (svS G s w v o0 o1 o2 p)) R := by
  have hrow : RowsQ 10 untC (F.un (svS G s w v o0 o1 o2 p)) v w.U := (svS_rows hS.hs hS.hu).un
  have hs0 : (F.un (svS G s w v o0 o1 o2 p)).obj s = some (.cells (svC w v o0 o1 o2 p)) := un_r (svS_obj _ _ _ _ _ _ _ _)
  rcases hS.hu with (⟨_, hl0⟩ | ⟨b, cap, J, rfl, ho, hc1, hc2, hc3⟩) | ⟨_, _, _, hl0⟩
  · rw [hl0] at hi; exact absurd hi (Nat.not_lt_zero i)
  rotate_left
  · rw [hl0] at hi; exact absurd hi (Nat.not_lt_zero i)
  have hbs : b ≠ s := hos b _ _ rfl (by omega)
  have hob : (F.un (svS G s w (.s (.slice (some ⟨b, 0, none⟩) w.U.length cap)) o0 o1 o2 p)).obj b = some (.cells ((rws untC w.U).flatten ++ J)) := un_r (by
    show (G.setObj s _).obj b = _
    rw [setObj_ne hbs]; exact ho)
  refine ACalls.of_body (c := cfg 44) infoOK Tryz.func165 (by rfl) (by rfl) (by rfl) (by rfl) ?_
  refine ADraw.of_sched infoOK (by rfl) (by rfl) sch165_1 (by rfl) ?_
  refine optK_intro (o := (F.un (svS G s w _ o0 o1 o2 p)).obj s) _ hs0 ?_
  refine ⟨atR_spec hrow (by omega) hr u.id _ (fun k hk z hz => ⟨(by repeat (first | exact trivial | refine ⟨rfl, ?_⟩ | refine ⟨optR (optR (optR (optK_intro _ (setObj_self _ _ _) rfl))), ?_⟩)), ?_⟩), trivial⟩
  have hki : k = i := by
    by_cases h1 : k < i
    · have := hk.2.2 k (by omega) (Nat.le_refl _)
      have := risesU_lt hr h1 hi
      omega
    · by_cases h2 : i < k
      · have := hk.2.1 i hi h2; omega
      · omega
  subst hki
  refine ⟨⟨trivial, ?_⟩, trivial⟩
  refine ⟨⟨trivial, ?_⟩, trivial⟩
  refine ADraw.of_sched infoOK (by rfl) (by rfl) sch165_2 (by rfl) ?_
  refine optK_intro (o := (F.un (svS G s w _ o0 o1 o2 p)).obj s) _ hs0 ?_
  refine ⟨k, rfl, hi, ?_⟩
  refine ⟨?_, trivial⟩
  refine optK_intro _ rfl (guardK_none rfl (vcOp_store (v := .agg (untC u)) rfl rfl rfl rfl ?_))
  refine storeK_objL (i := ti50) (v := .agg (untC u)) (xs := untC u) (b := b) (o := 0 + k * 10) (l := (rws untC w.U).flatten ++ J) rfl rfl rfl hob (by rw [List.length_append, rws_flat_len untC_len, untC_len]; omega) ?_
  have e0 : (F.un (svS G s w (.s (.slice (some ⟨b, 0, none⟩) w.U.length cap)) o0 o1 o2 p)).setObj b (.cells (splice ((rws untC w.U).flatten ++ J) (0 + k * 10) (untC u))) = F.un (svS (G.setObj b (.cells ((rws untC (w.U.set k u)).flatten ++ J))) s { w with U := w.U.set k u } (.s (.slice (some ⟨b, 0, none⟩) w.U.length cap)) o0 o1 o2 p) := by
    rw [Nat.zero_add, rows_set untC_len hi u J, un_setObj]
    unfold svS
    rw [setObj_comm hbs]
    rfl
  rw [e0]
  have hG : ∀ q, q ≠ b → (G.setObj b (.cells ((rws untC (w.U.set k u)).flatten ++ J))).obj q = G.obj q := fun q hq => setObj_ne hq
  have hS' : StandR F (G.setObj b (.cells ((rws untC (w.U.set k u)).flatten ++ J))) s p { w with U := w.U.set k u } (.s (.slice (some ⟨b, 0, none⟩) w.U.length cap)) L o0 o1 o2 := by
    refine ⟨hS.hc, fun j h1 h2 => hS.hd j h1 (svS_has.2 ?_), ?_, .inl (.inr ⟨b, cap, J, by rw [List.length_set], setObj_self _ _ _, by rw [List.length_set]; exact hc1, by rw [List.length_set]; exact hc2, hc3⟩), hS.h0, hS.h1, hS.h2⟩
    · rcases svS_has.1 h2 with h2 | h2
      · exact .inl h2
      · rcases has_setObj_iff.1 h2 with rfl | h2
        · exact .inr (has_obj ho)
        · exact .inr h2
    · rw [hG s (Ne.symm hbs)]; exact hS.hs
  have hoffG : ∀ q, offB (.s (.slice (some ⟨b, 0, none⟩) w.U.length cap)) q → (G.setObj b (.cells ((rws untC (w.U.set k u)).flatten ++ J))).obj q = G.obj q := fun q hq => hG q (Ne.symm (hq b _ _ rfl (by omega)))
  generalize G.setObj b _ = G1 at hS' hoffG ⊢
  have hs1 : (F.un (svS G1 s { w with U := w.U.set k u } (.s (.slice (some ⟨b, 0, none⟩) w.U.length cap)) o0 o1 o2 p)).obj s = some (.cells (svC w (.s (.slice (some ⟨b, 0, none⟩) w.U.length cap)) o0 o1 o2 p)) := un_r (svS_obj _ _ _ _ _ _ _ _)
  refine ⟨trivial, ?_⟩
  refine bceq (fun c1 => ?_) (fun c1 => ?_)
  · refine ADraw.of_sched infoOK (by rfl) (by rfl) sch165_4 (by rfl) ?_
    refine optK_intro (o := (F.un (svS G1 s _ _ o0 o1 o2 p)).obj s) _ hs1 ?_
    refine ⟨cPutF hS'.hc hS'.hd (by omega) hok u.id u.pos hp _ (fun F2 h2 h3 => ⟨trivial, ?_⟩), trivial⟩
    have e9 : entP L u = dropId L u.id ++ [(u.id, u.pos)] := if_pos c1
    exact ret (h F2 G1 ⟨by rw [e9]; exact h2, h3, hS'.hs, hS'.hu, hS'.h0, hS'.h1, hS'.h2⟩ hoffG)
  · refine ADraw.of_sched infoOK (by rfl) (by rfl) sch165_5 (by rfl) ?_
    refine optK_intro (o := (F.un (svS G1 s _ _ o0 o1 o2 p)).obj s) _ hs1 ?_
    refine ⟨cRemoveF hS'.hc hS'.hd (by omega) hok u.id _ (fun F2 h2 h3 => ⟨trivial, ?_⟩), trivial⟩
    have e9 : entP L u = dropId L u.id := if_neg c1
    exact ret (h F2 G1 ⟨by rw [e9]; exact h2, h3, hS'.hs, hS'.hu, hS'.h0, hS'.h1, hS'.h2⟩ hoffG)
theorem put_spec {F G : Store} {s p : Nat} {w : Wld} {v : AV} {L : List Ent} {o0 o1 o2 : AV} (hS : StandR F G s p w v L o0 o1 o2) (hos : offB v s) (hr : risesU w.U) (hU : w.U.length ≤ 1000000) (hL : L.length ≤ 1000000) (hok : ∀ e ∈ L, e.2.ok) {i : Nat} (hi : i < w.U.length) (u : Unt) (hid : w.U[i].id = u.id) (hp : u.pos.ok) (R : AV → Store → Prop)
    (h : ∀ F' G' L', StandR F' G' s p { w with U := w.U.set i u } v L' o0 o1 o2 → (∀ q, offB v q → G'.obj q = G.obj q) → L'.length ≤ L.length + 1 → (∀ e ∈ L', e.2.ok) → R (.tup []) (F'.un (svS G' s { w with U := w.U.set i u } v o0 o1 o2 p))) :
    ACalls Tryz.prog 165 [ptr s, .agg (untC u)] (F.un (svS G s w v o0 o1 o2 p)) R :=
  put_raw hS hos hr hU hL hok hi u hid hp R fun F' G' h1 h2 => h F' G' _ h1 h2 (entP_len L u) (entP_ok hok hp)
end Go.Proofs
namespace Go.Proofs
open Go Go.V
set_option linter.unusedVariables false
set_option linter.unusedSimpArgs false
end Go.Proofs
namespace Go.Proofs
open Go Go.V
set_option linter.unusedVariables false
set_option linter.unusedSimpArgs false
theorem rfindU_spec (w : Wld) (hU : w.U.length ≤ 1000000) (id : Int) (st : Store) (R : AV → Store → Prop) (h : R (int (idxI (findU w.U id))) st) : ACalls Tryz.prog 40 [.agg (wldC w), int id] st R := rfind_spec w hU id st R h
theorem rfindQ_spec {S : Store} {w : Wld} {v : AV} (hv : RowsQ 10 untC S v w.U) (hU : w.U.length ≤ 1000000) (id : Int) (R : AV → Store → Prop) (h : R (int (idxI (findU w.U id))) S) : ACalls Tryz.prog 40 [.agg (wldV w v), int id] S R :=
  ACalls.read (ys := [.agg (wldC w), int id]) (Q := fun r => r = int (idxI (findU w.U id))) (fun Oth M W vs sto hr => by
    obtain ⟨x, y, rfl, h1, h2⟩ := reads2 hr
    exact Reads.cons (wldQ_borrow hv sto h1) (Reads.cons (mono_borrow h2) Reads.nil)) (rfindU_spec w hU id _ _ rfl) (fun r hr => hr ▸ flat_s _) (fun r hr => hr ▸ h)
theorem rasked_spec (w : Wld) (hU : w.U.length ≤ 1000000) (P id : Int) (st : Store) (R : AV → Store → Prop) (h : R (int (askE w P id)) st) : ACalls Tryz.prog 86 [.agg (wldC w), int P, int id] st R := by
  refine ACalls.of_body (c := cfg 28) infoOK Tryz.func86 (by rfl) (by rfl) (by rfl) (by rfl) ?_
  refine rfindU_spec w hU id _ _ ?_
  refine bcd (fun c1 => ?_) (fun c1 => ?_)
  · cases hf : findU w.U id with
    | none =>
      rw [(askE_none (P := P) hf).1] at h
      exact ret h
    | some i => rw [hf] at c1; exact absurd c1 (by show ¬ ((i : Int) < 0); omega)
  cases hf : findU w.U id with
  | none => rw [hf] at c1; exact absurd (show (-1 : Int) < 0 by decide) c1
  | some i =>
    obtain ⟨hi, e, e2⟩ := uAt_some hf
    rw [askE_some (P := P) hf hi] at h
    refine ⟨i, rfl, optK_intro _ (rws_get hi) ?_⟩
    refine bcne (fun c2 => ?_) (fun c2 => ?_)
    · rw [if_neg c2] at h
      exact ret h
    rw [if_pos c2] at h
    refine ⟨i, rfl, optK_intro _ (rws_get hi) ?_⟩
    refine bcne (fun c3 => ?_) (fun c3 => ?_)
    · rw [if_neg c3] at h
      exact ret h
    · rw [if_pos c3] at h
      exact ret h
theorem rall_spec (w : Wld) (hU : w.U.length ≤ 1000000) (c : Cmd) (hc : c.U.length ≤ 1000000) (st : Store) (R : AV → Store → Prop) (h : R (int (allE (askE w c.P) c.U)) st) : ACalls Tryz.prog 54 [.agg (wldC w), .agg (cmdC c)] st R := by
  refine ACalls.of_body (c := cfg 26) infoOK Tryz.func54 (by rfl) (by rfl) (by rfl) (by rfl) ?_
  refine AWp.loop (σ := Nat) ⟨fun i => [(2, .bx 2 0), (3, .bx 3 0), (5, .av (int (i : Nat)))], fun _ => [(2, wldC w), (3, cmdC c)],
    fun i st' => i ≤ c.U.length ∧ st' = st ∧ ∀ j, (hj : j < c.U.length) → j < i → askE w c.P c.U[j] = 0, fun i => c.U.length - i⟩ infoOK ?_ ?_
  · exact ⟨0, trivial, ⟨Nat.zero_le _, rfl, fun j _ hj => by omega⟩, ⟨LV.le_refl _, LV.le_refl _, LV.le_refl _, trivial⟩, ⟨rfl, rfl, trivial⟩⟩
  rintro i st' ⟨hi, rfl, hall⟩
  refine bcase_intro (fun h1 => ?_) (fun h1 => ?_)
  rotate_left
  · have : i = c.U.length := ge_len h1 hi
    subst this
    rw [allE_none fun j hj => hall j hj hj] at h
    exact ret h
  have hlt := lt_len h1
  refine ADraw.of_sched infoOK (by rfl) (by rfl) sch54_4 (by rfl) ?_
  refine ⟨i, rfl, optK_intro _ (rws_get hlt) ?_⟩
  refine ⟨rasked_spec w hU c.P c.U[i] _ _ ⟨trivial, ?_⟩, trivial⟩
  refine ⟨⟨trivial, ?_⟩, trivial⟩
  refine bcne (fun c1 => ?_) (fun c1 => ?_)
  · rw [allE_some hlt hall c1] at h
    exact ret h
  refine in64 (by omega) ?_
  refine ⟨i + 1, ?_, ⟨by omega, rfl, fun j hj hji => ?_⟩, ⟨LV.le_refl _, LV.le_refl _, LV.le_refl _, trivial⟩, ⟨rfl, rfl, trivial⟩⟩
  · show c.U.length - (i + 1) < c.U.length - i
    omega
  · by_cases e : j = i
    · subst e; exact c1
    · exact hall j hj (by omega)
theorem rallQ_spec {S : Store} {w : Wld} {v : AV} (hv : RowsQ 10 untC S v w.U) (hU : w.U.length ≤ 1000000) (c : Cmd) (hc : c.U.length ≤ 1000000) (R : AV → Store → Prop) (h : R (int (allE (askE w c.P) c.U)) S) : ACalls Tryz.prog 54 [.agg (wldV w v), .agg (cmdC c)] S R :=
  ACalls.read (ys := [.agg (wldC w), .agg (cmdC c)]) (Q := fun r => r = int (allE (askE w c.P) c.U)) (fun Oth M W vs sto hr => by
    obtain ⟨x, y, rfl, h1, h2⟩ := reads2 hr
    exact Reads.cons (wldQ_borrow hv sto h1) (Reads.cons (mono_borrow h2) Reads.nil)) (rall_spec w hU c hc _ _ rfl) (fun r hr => hr ▸ flat_s _) (fun r hr => hr ▸ h)
end Go.Proofs
namespace Go.Proofs
open Go Go.V
set_option linter.unusedVariables false
set_option linter.unusedSimpArgs false
end Go.Proofs
namespace Go.Proofs
open Go Go.V
set_option linter.unusedVariables false
set_option linter.unusedSimpArgs false
/-- A box more. -/
theorem Work.add {F G : Store} {xw s p : Nat} {w : Wld} {v : AV} {L : List Ent} {o0 o1 o2 : AV} {c : Cmd} {fv : AV} (h : Work F G xw s p w v L o0 o1 o2 c fv) {pb : Nat} (hpb : Fresh (F.un (svS G s w v o0 o1 o2 p)) pb) (z : AObj) :
    Work F (G.setObj pb z) xw s p w v L o0 o1 o2 c fv ∧ (F.un (svS G s w v o0 o1 o2 p)).setObj pb z = F.un (svS (G.setObj pb z) s w v o0 o1 o2 p) ∧ offB v pb ∧ pb ≠ s := by
  have hx1 : ¬ F.has pb ∧ ¬ (svS G s w v o0 o1 o2 p).has pb := by
    have := fresh_iff.1 hpb
    exact ⟨fun h => this (un_has.2 (.inl h)), fun h => this (un_has.2 (.inr h))⟩
  have hne : pb ≠ s := fun e => hx1.2 (svS_has.2 (.inl e))
  have hxN : ¬ G.has pb := fun h => hx1.2 (svS_has.2 (.inr h))
  have hxw : pb ≠ xw := fun e => hxN (by rw [e]; exact has_obj h.hx)
  have off := offB_fresh h.S.hu (not_has hxN).1
  refine ⟨⟨⟨h.S.hc, fun i h1 h2 => ?_, ?_, h.S.hu.set off _, h.S.h0, h.S.h1, h.S.h2⟩, ?_, h.ox, h.os, h.hL, h.hF⟩, ?_, off, hne⟩
  · rcases svS_has.1 h2 with rfl | h2
    · exact h.S.hd _ h1 (svS_has.2 (.inl rfl))
    · by_cases hi : i = pb
      · subst hi; exact hx1.1 h1
      · refine h.S.hd _ h1 (svS_has.2 (.inr ?_))
        rcases h2 with h2 | h2
        · rw [setObj_ne hi] at h2; exact .inl h2
        · exact .inr h2
  · rw [setObj_ne (Ne.symm hne)]; exact h.S.hs
  · rw [setObj_ne (Ne.symm hxw)]; exact h.hx
  · rw [un_setObj]
    unfold svS
    rw [setObj_comm hne]
end Go.Proofs
namespace Go.Proofs
open Go Go.V
set_option linter.unusedVariables false
set_option linter.unusedSimpArgs false
theorem head_fld {U : List Unt} {J : List AV} {i j : Nat} (hi : i < U.length) (hj : j < 10) {y : AV} (hy : (untC U[i])[j]? = some y) : (((rws untC U).flatten ++ J).drop (0 + i * 10 + j)).head? = some y := by
  have hd := rows_drop (f := untC) (L := J) untC_len hi
  rw [← List.drop_drop, hd, List.head?_drop, List.getElem?_append_left (by rw [untC_len]; exact hj)]
  exact hy
theorem fld_setL {S : Store} {b i j : Nat} {U : List Unt} {J : List AV} {x' : Unt} {ys : List AV} (ho : S.obj b = some (.cells ((rws untC U).flatten ++ J))) (hi : i < U.length) (hj : j + ys.length ≤ 10) (hx : untC x' = splice (untC U[i]) j ys) : (S.setObj b (.cells (splice ((rws untC U).flatten ++ J) (0 + i * 10 + j) ys))).obj b = some (.cells ((rws untC (U.set i x')).flatten ++ J)) := by
  rw [setObj_self, Nat.zero_add, splice_rows (f := untC) (k := 10) (x' := x') untC_len hi hj hx]
end Go.Proofs
