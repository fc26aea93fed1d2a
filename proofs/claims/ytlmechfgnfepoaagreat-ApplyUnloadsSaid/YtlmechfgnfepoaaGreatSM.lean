/- The ground on which laws of thronglaw23 are proved: contracts of functions and plain lemmas; no condition beyond the row's own. -/
import Derived.Test.YtlmechfgnfepoaaGreatSK
import Derived.Test.YtlmechfgnfepoaaGreatSC
import Derived.Test.YtlmechfgnfepoaaGreatSI
import Derived.Test.YtlmechfgnfepoaaGreatSG
import Derived.Test.YtlmechfgnfepoaaGreatSJ
set_option linter.unusedSimpArgs false
set_option linter.unusedVariables false
namespace Go.Proofs
open Go Go.V
set_option linter.unusedVariables false
set_option linter.unusedSimpArgs false
theorem root_spec (m : Int) (hm : 0 ≤ m) (st : Store) (R : AV → Store → Prop) (h : ∀ r, isRoot m r → R (int r) st) : ACalls Tryz.prog 226 [.agg (wideC m)] st R := by
  refine ACalls.of_body (c := cfg 22) infoOK Tryz.func226 (by rfl) (by rfl) (by rfl) (by rfl) ?_
  refine AWp.loop (σ := Nat × Int) ⟨fun x => [(1, .bx 1 0), (3, .av (u64 x.2)), (4, .av (int ((x.1 : Int) - 1)))], fun _ => [(1, wideC m)],
    fun x st' => x.1 ≤ 63 ∧ st' = st ∧ rootUp m x.2 x.1, fun x => x.1⟩ infoOK ?_ ?_
  · exact ⟨(63, 0), trivial, ⟨Nat.le_refl _, rfl, rootUp_start hm⟩, ⟨LV.le_refl _, LV.le_refl _, LV.le_refl _, trivial⟩, ⟨rfl, trivial⟩⟩
  rintro ⟨k, r⟩ st' ⟨hk, rfl, hr⟩
  dsimp only at hk hr ⊢
  refine bcd (fun h1 => ?_) (fun h1 => ?_)
  rotate_left
  · have : k = 0 := by omega
    subst this
    have hi := rootUp_end hr
    have h2 := h r hi
    have hi0 := hi.1
    exact ⟨⟨by omega, hi.2.1⟩, ret h2⟩
  cases k with
  | zero => omega
  | succ k =>
    obtain ⟨e1, e2, e3, e4⟩ := rootUp_bit hr
    have e5 : ((k + 1 : Nat) : Int) - 1 = (k : Int) := by omega
    refine ⟨by omega, ?_⟩
    have e7 : bitsOf .or .u64 r (IntKind.u64.wrap (1 * 2 ^ (min (((k + 1 : Nat) : Int) - 1).toNat IntKind.u64.bits))) = r + 2 ^ k := by rw [e5, shl1 (by omega), e1]
    have e8 : ∀ X, X = r + 2 ^ k → 0 ≤ X ∧ X < 18446744073709551616 ∧ 0 ≤ X * X := fun X hX => by subst hX; exact ⟨by omega, by omega, Int.mul_nonneg (by omega) (by omega)⟩
    have e8 := e8 _ e7
    refine ADraw.of_sched infoOK (by rfl) (by rfl) sch226_6 (by rfl) ?_
    refine ⟨fsquare_spec _ e8.1 e8.2.1 _ _ ⟨(by repeat (first | exact trivial | refine ⟨rfl, ?_⟩ | refine ⟨optR (optR (optR (optK_intro _ (setObj_self _ _ _) rfl))), ?_⟩)), ?_⟩, trivial⟩
    refine ⟨below_spec m _ hm e8.2.2 _ _ ⟨(by repeat (first | exact trivial | refine ⟨rfl, ?_⟩ | refine ⟨optR (optR (optR (optK_intro _ (setObj_self _ _ _) rfl))), ?_⟩)), ?_⟩, trivial⟩
    have no := fun hh => rootUp_no hr hh
    have yes := fun hh => rootUp_yes hr hh
    rw [← e7] at no yes
    generalize bitsOf .or .u64 r (IntKind.u64.wrap (1 * 2 ^ (min (((k + 1 : Nat) : Int) - 1).toNat IntKind.u64.bits))) = X at *
    refine bcnot ?_
    refine bcd (fun c1 => ?_) (fun c1 => ?_)
    · refine ⟨by unfold InI64; omega, ?_⟩
      refine ⟨(k, r), ?_, ⟨by dsimp only; omega, rfl, no c1⟩, ⟨LV.le_refl _, LV.le_refl _, ?_, trivial⟩, ⟨rfl, trivial⟩⟩
      · show k < k + 1
        omega
      · rw [e5]; exact LV.le_refl _
    · refine ⟨by unfold InI64; omega, ?_⟩
      refine ⟨(k, X), ?_, ⟨by dsimp only; omega, rfl, yes (by omega)⟩, ⟨LV.le_refl _, LV.le_refl _, ?_, trivial⟩, ⟨rfl, trivial⟩⟩
      · show k < k + 1
        omega
      · rw [e5]; exact LV.le_refl _
theorem rroot_spec (m : Int) (hm : 0 ≤ m) (st : Store) (R : AV → Store → Prop) (h : ∀ r, isRoot m r → R (u64 r) st) : ACalls Tryz.prog 178 [.agg (wideC m), u64 9223372036854775807] st R := by
  refine ACalls.of_body (c := cfg 28) infoOK Tryz.func178 (by rfl) (by rfl) (by rfl) (by rfl) ?_
  refine AWp.loop (σ := Int × Int) ⟨fun x => [(2, .bx 2 0), (5, .av (u64 x.1)), (6, .av (u64 x.2))], fun _ => [(2, wideC m)],
    fun x st' => st' = st ∧ rootIn m x.1 x.2, fun x => (x.2 - x.1).toNat⟩ infoOK ?_ ?_
  · exact ⟨(0, 9223372036854775807), trivial, ⟨rfl, rootIn_start hm⟩, ⟨LV.le_refl _, LV.le_refl _, LV.le_refl _, trivial⟩, ⟨rfl, trivial⟩⟩
  rintro ⟨l, u⟩ st' ⟨rfl, hr⟩
  dsimp only at hr ⊢
  refine bcd (fun h1 => ?_) (fun h1 => ?_)
  rotate_left
  · exact ret (h l (rootIn_end hr h1))
  have b1 := hr.1
  have b2 := hr.2.2.1
  have w1 : IntKind.u64.wrap (u - l) = u - l := wrap_u64 (by omega) (by omega)
  have w2 : IntKind.u64.wrap (u - l + 1) = u - l + 1 := wrap_u64 (by omega) (by omega)
  have hd : 0 ≤ (u - l + 1) / 2 ∧ (u - l + 1) / 2 ≤ u - l ∧ 1 ≤ (u - l + 1) / 2 := by omega
  have w3 : IntKind.u64.wrap ((u - l + 1) / 2) = (u - l + 1) / 2 := wrap_u64 (by omega) (by omega)
  have w4 : IntKind.u64.wrap (l + (u - l + 1) / 2) = l + (u - l + 1) / 2 := wrap_u64 (by omega) (by omega)
  have wX : IntKind.u64.wrap (l + IntKind.u64.wrap ((IntKind.u64.wrap (IntKind.u64.wrap (u - l) + 1)).tdiv 2)) = l + (u - l + 1) / 2 := by
    rw [w1, w2, show (u - l + 1).tdiv 2 = (u - l + 1) / 2 from Int.tdiv_eq_ediv_of_nonneg (by omega), w3, w4]
  have e8 : ∀ X, X = l + (u - l + 1) / 2 → 0 ≤ X ∧ X < 18446744073709551616 ∧ 0 ≤ X * X ∧ l < X ∧ X ≤ u := fun X hX => by
    have h0 : 0 ≤ X := by omega
    exact ⟨h0, by omega, Int.mul_nonneg h0 h0, by omega, by omega⟩
  have e8 := e8 _ wX
  refine ⟨by decide, ?_⟩
  refine ADraw.of_sched infoOK (by rfl) (by rfl) sch178_4 (by rfl) ?_
  refine ⟨times_spec _ _ e8.1 e8.2.1 e8.1 e8.2.1 _ _ ⟨(by repeat (first | exact trivial | refine ⟨rfl, ?_⟩ | refine ⟨optR (optR (optR (optK_intro _ (setObj_self _ _ _) rfl))), ?_⟩)), ?_⟩, trivial⟩
  refine ⟨less_spec m _ hm e8.2.2.1 _ _ ⟨(by repeat (first | exact trivial | refine ⟨rfl, ?_⟩ | refine ⟨optR (optR (optR (optK_intro _ (setObj_self _ _ _) rfl))), ?_⟩)), ?_⟩, trivial⟩
  generalize IntKind.u64.wrap (l + IntKind.u64.wrap ((IntKind.u64.wrap (IntKind.u64.wrap (u - l) + 1)).tdiv 2)) = X at *
  refine bcd (fun c1 => ?_) (fun c1 => ?_)
  · have w5 : IntKind.u64.wrap (X - 1) = X - 1 := wrap_u64 (by omega) (by omega)
    refine ⟨(l, X - 1), ?_, ⟨rfl, rootIn_hi hr e8.2.2.2.1 e8.2.2.2.2 c1⟩, ⟨LV.le_refl _, LV.le_refl _, ?_, trivial⟩, ⟨rfl, trivial⟩⟩
    · show (X - 1 - l).toNat < (u - l).toNat
      omega
    · show LV.le (.av (u64 (IntKind.u64.wrap (X - 1)))) (.av (u64 (X - 1)))
      rw [w5]
      exact LV.le_refl _
  · refine ⟨(X, u), ?_, ⟨rfl, rootIn_lo hr e8.2.2.2.1 e8.2.2.2.2 (Int.not_lt.1 c1)⟩, ⟨LV.le_refl _, LV.le_refl _, LV.le_refl _, trivial⟩, ⟨rfl, trivial⟩⟩
    show (u - X).toNat < (u - l).toNat
    omega
theorem len_spec (v : Vc) (hv : v.ok) (st : Store) (R : AV → Store → Prop) (h : ∀ r, isRoot (sqr v) r → R (int r) st) : ACalls Tryz.prog 207 [.agg (vecC v)] st R := by
  have hb := sqr_b hv
  refine ACalls.of_body (c := cfg 6) infoOK Tryz.func207 (by rfl) (by rfl) (by rfl) (by rfl) ?_
  refine square_spec v hv _ _ ?_
  refine root_spec (sqr v) (by unfold sqr; omega) _ _ (fun r hr => ?_)
  exact ret (h r hr)
theorem rlen_spec (v : Vc) (hv : v.ok) (st : Store) (R : AV → Store → Prop) (h : ∀ r, isRoot (sqr v) r → R (int r) st) : ACalls Tryz.prog 130 [.agg (vecC v)] st R := by
  have hb := sqr_b hv
  refine ACalls.of_body (c := cfg 7) infoOK Tryz.func130 (by rfl) (by rfl) (by rfl) (by rfl) ?_
  refine rsquares_spec v hv _ _ ?_
  refine rroot_spec (sqr v) (by unfold sqr; omega) _ _ (fun r hr => ?_)
  have h0 := hr.1
  exact ⟨⟨by omega, hr.2.1⟩, ret (h r hr)⟩
theorem far_spec (p q : Vc) (hp : p.ok) (hq : q.ok) (st : Store) (R : AV → Store → Prop) (h : R (V.bool (decide (farP p q))) st) : ACalls Tryz.prog 173 [.agg (vecC p), .agg (vecC q)] st R := by
  refine ACalls.of_body (c := cfg 10) infoOK Tryz.func173 (by rfl) (by rfl) (by rfl) (by rfl) ?_
  refine vsub_spec p q hp hq _ _ ?_
  refine len_spec _ (vsub_ok p q) _ _ (fun r hr => ?_)
  refine ret ?_
  rw [show decide (farP p q) = decide (131072 < r) from by rw [Bool.eq_iff_iff]; simp only [decide_eq_true_eq]; exact (root_far hr).symm] at h
  exact h
theorem rfar_spec (p q : Vc) (hp : p.ok) (hq : q.ok) (st : Store) (R : AV → Store → Prop) (h : R (V.bool (decide (farP p q))) st) : ACalls Tryz.prog 92 [.agg (vecC p), .agg (vecC q)] st R := by
  refine ACalls.of_body (c := cfg 10) infoOK Tryz.func92 (by rfl) (by rfl) (by rfl) (by rfl) ?_
  refine rvsub_spec p q hp hq _ _ ?_
  refine rlen_spec _ (vsub_ok p q) _ _ (fun r hr => ?_)
  refine ret ?_
  rw [show decide (farP p q) = decide (131072 < r) from by rw [Bool.eq_iff_iff]; simp only [decide_eq_true_eq]; exact (root_far hr).symm] at h
  exact h
end Go.Proofs
namespace Go.Proofs
open Go Go.V
set_option linter.unusedVariables false
set_option linter.unusedSimpArgs false
theorem findU_at {l : List Unt} (hr : risesU l) {id : Int} {i : Nat} {z : Bool} (h : z = true ↔ ∃ hi : i < l.length, l[i].id = id) (hat : isAt l id i) : (z = true → findU l id = some i) ∧ (z = false → findU l id = none) := by
  refine ⟨fun hz => ?_, fun hz => ?_⟩
  · obtain ⟨hi, e⟩ := h.1 hz
    exact findU_mk hr hi e
  · cases hf : findU l id with
    | none => rfl
    | some k =>
      obtain ⟨hk, e⟩ := findU_some hf
      have hno : ¬ ∃ hi : i < l.length, l[i].id = id := fun hh => by rw [h.2 hh] at hz; cases hz
      by_cases h1 : k < i
      · have := hat.2.1 k hk h1; omega
      · have hil : i < l.length := by omega
        have := hat.2.2 i hil (Nat.le_refl _)
        by_cases h2 : i < k
        · have := risesU_lt hr h2 hk; omega
        · have e3 : k = i := by omega
          subst e3
          exact absurd ⟨hk, e⟩ hno
/-- A place of work, as it is read. -/
structure AtW (S : Store) (xw s p : Nat) (w : Wld) (v o0 o1 o2 : AV) (c : Cmd) (fv : AV) : Prop where
  hx : S.obj xw = some (.cells (wkC s c fv))
  hs : S.obj s = some (.cells (svC w v o0 o1 o2 p))
  hr : RowsQ 10 untC S v w.U
theorem ask_spec {S : Store} {xw s p : Nat} {w : Wld} {v o0 o1 o2 : AV} {c : Cmd} {fv : AV} (ha : AtW S xw s p w v o0 o1 o2 c fv) (hr : risesU w.U) (hU : w.U.length ≤ 1000000) (id : Int) (R : AV → Store → Prop) (h : R (.tup [.agg (untC (uAt w id)), int (askE w c.P id)]) S) : ACalls Tryz.prog 201 [ptr xw, int id] S R := by
  obtain ⟨hx, hs, hv⟩ := ha
  obtain ⟨oa, cap, e, hget⟩ := hv.form
  subst e
  refine ACalls.of_body (c := cfg 52) infoOK Tryz.func201 (by rfl) (by rfl) (by rfl) (by rfl) ?_
  refine optK_intro (o := S.obj xw) _ hx ?_
  refine optK_intro (o := S.obj s) _ hs ?_
  refine atR_spec hv (by omega) hr id _ (fun i hi z hz => ?_)
  obtain ⟨g1, g2⟩ := findU_at hr hz hi
  cases z with
  | false =>
    obtain ⟨e1, e2⟩ := askE_none (w := w) (P := c.P) (g2 rfl)
    rw [e1, e2] at h
    exact ret h
  | true =>
    obtain ⟨hil, hid⟩ := hz.1 rfl
    obtain ⟨_, _, e2⟩ := uAt_some (w := w) (g1 rfl)
    rw [e2, askE_some (P := c.P) (g1 rfl) hil] at h
    refine optK_intro (o := S.obj xw) _ hx ?_
    refine optK_intro (o := S.obj s) _ hs ?_
    obtain ⟨b, J, rfl, hob⟩ := hget i hil
    refine ⟨i, rfl, hil, ?_⟩
    refine optK_intro (o := S.obj b) _ hob ?_
    refine partK_row (i := ti50) (row := untC w.U[i]) rfl rfl (rows_drop untC_len hil) ?_
    refine ADraw.of_sched infoOK (by rfl) (by rfl) sch201_5 (by rfl) ?_
    refine optK_intro (o := S.obj xw) _ hx ?_
    refine ⟨⟨(by repeat (first | exact trivial | refine ⟨rfl, ?_⟩ | refine ⟨optR (optR (optR (optK_intro _ (setObj_self _ _ _) rfl))), ?_⟩)), ?_⟩, trivial⟩
    refine bcne (fun c1 => ?_) (fun c1 => ?_)
    · rw [if_neg c1] at h
      exact ret h
    rw [if_pos c1] at h
    refine bcne (fun c2 => ?_) (fun c2 => ?_)
    · rw [if_neg c2] at h
      exact ret h
    · rw [if_pos c2] at h
      exact ret h
theorem all_nil {S : Store} {xw s p : Nat} {w : Wld} {v o0 o1 o2 : AV} {c : Cmd} {fv : AV} (ha : AtW S xw s p w v o0 o1 o2 c fv) (hr : risesU w.U) (hU : w.U.length ≤ 1000000) (hc : c.U.length ≤ 1000000) (R : AV → Store → Prop)
    (h : allE (askE w c.P) c.U = 0 → R (.tup [lst 10 untC (c.U.map (uAt w)), int 0]) S) (h' : allE (askE w c.P) c.U ≠ 0 → R (.tup [.s (.slice none 0 0), int (allE (askE w c.P) c.U)]) S) : ACalls Tryz.prog 163 [ptr xw, .s .nilFunc] S R := by
  refine ACalls.of_body (c := cfg 44) infoOK Tryz.func163 (by rfl) (by rfl) (by rfl) (by rfl) ?_
  refine optK_intro (o := S.obj xw) _ ha.hx ?_
  refine AWp.loop (σ := Nat × AV) ⟨fun x => [(0, .av (ptr xw)), (1, .av (.s .nilFunc)), (4, .av x.2), (14, .av (ints c.U)), (15, .av (int (c.U.length : Nat))), (16, .av (int (x.1 : Nat)))], fun _ => [],
    fun x st' => x.1 ≤ c.U.length ∧ App 10 S x.2 (rws untC ((c.U.take x.1).map (uAt w))) st' ∧ ∀ j, (hj : j < c.U.length) → j < x.1 → askE w c.P c.U[j] = 0, fun x => c.U.length - x.1⟩ infoOK ?_ ?_
  · refine ⟨(0, _), trivial, ⟨Nat.zero_le _, App.start 10 S, fun j _ hj => by omega⟩, ⟨LV.le_refl _, LV.le_refl _, LV.le_refl _, LV.le_refl _, ?_, LV.le_refl _, trivial⟩, trivial⟩
    rw [← rws_len (f := intC) c.U]; exact LV.le_refl _
  rintro ⟨i, v2⟩ st' ⟨hi, hap, hall⟩
  dsimp only at hi hap hall ⊢
  refine bcd (fun h1 => ?_) (fun h1 => ?_)
  rotate_left
  · have : i = c.U.length := by omega
    subst this
    rw [List.take_length] at hap
    exact ⟨_, _, AV.le_tupL (xs := [v2, int 0]) (ys := [lst 10 untC (c.U.map (uAt w)), int 0]) ⟨AV.le_trans hap.le (AV.le_refl _), AV.le_refl _, trivial⟩, hap.has, h (allE_none fun j hj => hall j hj hj)⟩
  have hlt : i < c.U.length := by omega
  have ha' : AtW st' xw s p w v o0 o1 o2 c fv := ⟨by rw [hap.obj]; exact ha.hx, by rw [hap.obj]; exact ha.hs, ha.hr.sub fun _ _ _ _ => by rw [hap.obj]⟩
  refine ⟨i, rfl, optK_intro _ (rws_get hlt) ?_⟩
  refine ask_spec ha' hr hU c.U[i] _ ?_
  refine bceq (fun c1 => ?_) (fun c1 => ?_)
  rotate_left
  · refine bcne (fun c2 => ?_) (fun c2 => absurd c2 c1)
    have e := allE_some hlt hall c1
    have := h' (by rw [e]; exact c1)
    rw [e] at this
    exact ⟨_, _, AV.le_refl _, hap.has, this⟩
  refine bcne (fun c2 => absurd c1 c2) (fun c2 => ?_)
  refine ⟨by decide, ?_⟩
  refine appendK_app (ie := ti50) (rows' := [untC (uAt w c.U[i])]) hap ?_ ?_ ⟨?_, ?_⟩ (fun v3 st3 ha3 => ?_)
  · rfl
  · rfl
  · simp only [rws_len, List.length_map, List.length_take, List.length_singleton, ti50]; omega
  · simp only [rws_len, List.length_map, List.length_take, List.length_singleton]; omega
  refine in64 (by omega) ?_
  refine ⟨(i + 1, v3), ?_, ⟨by dsimp only; omega, ?_, fun j hj hji => ?_⟩, ⟨LV.le_refl _, LV.le_refl _, LV.le_refl _, LV.le_refl _, LV.le_refl _, LV.le_refl _, trivial⟩, trivial⟩
  · show c.U.length - (i + 1) < c.U.length - i
    omega
  · dsimp only
    rw [List.take_succ_eq_append_getElem hlt, List.map_append]
    unfold rws at ha3 ⊢
    rw [List.map_append]
    exact ha3
  · by_cases e : j = i
    · subst e; exact c1
    · exact hall j hj (by dsimp only at hji; omega)
theorem put_raw {F G : Store} {s p : Nat} {w : Wld} {v : AV} {L : List Ent} {o0 o1 o2 : AV} (hS : StandR F G s p w v L o0 o1 o2) (hos : offB v s) (hr : risesU w.U) (hU : w.U.length ≤ 1000000) (hL : L.length ≤ 1000000) (hok : ∀ e ∈ L, e.2.ok) {i : Nat} (hi : i < w.U.length) (u : Unt) (hid : w.U[i].id = u.id) (hp : u.pos.ok) (R : AV → Store → Prop)
    (h : ∀ F' G', StandR F' G' s p { w with U := w.U.set i u } v (entP L u) o0 o1 o2 → (∀ q, offB v q → G'.obj q = G.obj q) → R (.tup []) (F'.un (svS G' s { w with U := w.U.set i u } v o0 o1 o2 p))) :
    ACalls Tryz.prog 165 [ptr s, .agg (untC u)] (F.un (svS G s w v o0 o1 o2 p)) R := by
  have hrow : RowsQ 10 untC (F.un (svS G s w v o0 o1 o2 p)) v w.U := (svS_rows hS.hs hS.hu).un
  have hs0 : (F.un (svS G s w v o0 o1 o2 p)).obj s = some (.cells (svC w v o0 o1 o2 p)) := un_r (svS_obj _ _ _ _ _ _ _ _)
  rcases hS.hu with (⟨_, hl0⟩ | ⟨b, cap, J, rfl, ho, hc1, hc2, hc3⟩) | ⟨_, _, _, hl0⟩
  · rw [hl0] at hi; exact absurd hi (Nat.not_lt_zero i)
  rotate_left
  · rw [hl0] at hi; exact absurd hi (Nat.not_lt_zero i)
  have hbs : b ≠ s := hos b _ _ rfl (by omega)
  have hob : (F.un (svS G s w (.s (.slice (some ⟨b, 0, none⟩) w.U.length cap)) o0 o1 o2 p)).obj b = some (.cells ((rws untC w.U).flatten ++ J)) := un_r (by
    show (G.setObj s _).obj b = _
    rw [setObj_ne hbs]; exact ho)
  refine ACalls.of_body (c := cfg 44) infoOK Tryz.func165 (by rfl) (by rfl) (by rfl) (by rfl) ?_
  refine ADraw.of_sched infoOK (by rfl) (by rfl) sch165_1 (by rfl) ?_
  refine optK_intro (o := (F.un (svS G s w _ o0 o1 o2 p)).obj s) _ hs0 ?_
  refine ⟨atR_spec hrow (by omega) hr u.id _ (fun k hk z hz => ⟨(by repeat (first | exact trivial | refine ⟨rfl, ?_⟩ | refine ⟨optR (optR (optR (optK_intro _ (setObj_self _ _ _) rfl))), ?_⟩)), ?_⟩), trivial⟩
  have hki : k = i := by
    by_cases h1 : k < i
    · have := hk.2.2 k (by omega) (Nat.le_refl _)
      have := risesU_lt hr h1 hi
      omega
    · by_cases h2 : i < k
      · have := hk.2.1 i hi h2; omega
      · omega
  subst hki
  refine ⟨⟨trivial, ?_⟩, trivial⟩
  refine ⟨⟨trivial, ?_⟩, trivial⟩
  refine ADraw.of_sched infoOK (by rfl) (by rfl) sch165_2 (by rfl) ?_
  refine optK_intro (o := (F.un (svS G s w _ o0 o1 o2 p)).obj s) _ hs0 ?_
  refine ⟨k, rfl, hi, ?_⟩
  refine ⟨?_, trivial⟩
  refine optK_intro _ rfl (guardK_none rfl (vcOp_store (v := .agg (untC u)) rfl rfl rfl rfl ?_))
  refine storeK_objL (i := ti50) (v := .agg (untC u)) (xs := untC u) (b := b) (o := 0 + k * 10) (l := (rws untC w.U).flatten ++ J) rfl rfl rfl hob (by rw [List.length_append, rws_flat_len untC_len, untC_len]; omega) ?_
  have e0 : (F.un (svS G s w (.s (.slice (some ⟨b, 0, none⟩) w.U.length cap)) o0 o1 o2 p)).setObj b (.cells (splice ((rws untC w.U).flatten ++ J) (0 + k * 10) (untC u))) = F.un (svS (G.setObj b (.cells ((rws untC (w.U.set k u)).flatten ++ J))) s { w with U := w.U.set k u } (.s (.slice (some ⟨b, 0, none⟩) w.U.length cap)) o0 o1 o2 p) := by
    rw [Nat.zero_add, rows_set untC_len hi u J, un_setObj]
    unfold svS
    rw [setObj_comm hbs]
    rfl
  rw [e0]
  have hG : ∀ q, q ≠ b → (G.setObj b (.cells ((rws untC (w.U.set k u)).flatten ++ J))).obj q = G.obj q := fun q hq => setObj_ne hq
  have hS' : StandR F (G.setObj b (.cells ((rws untC (w.U.set k u)).flatten ++ J))) s p { w with U := w.U.set k u } (.s (.slice (some ⟨b, 0, none⟩) w.U.length cap)) L o0 o1 o2 := by
    refine ⟨hS.hc, fun j h1 h2 => hS.hd j h1 (svS_has.2 ?_), ?_, .inl (.inr ⟨b, cap, J, by rw [List.length_set], setObj_self _ _ _, by rw [List.length_set]; exact hc1, by rw [List.length_set]; exact hc2, hc3⟩), hS.h0, hS.h1, hS.h2⟩
    · rcases svS_has.1 h2 with h2 | h2
      · exact .inl h2
      · rcases has_setObj_iff.1 h2 with rfl | h2
        · exact .inr (has_obj ho)
        · exact .inr h2
    · rw [hG s (Ne.symm hbs)]; exact hS.hs
  have hoffG : ∀ q, offB (.s (.slice (some ⟨b, 0, none⟩) w.U.length cap)) q → (G.setObj b (.cells ((rws untC (w.U.set k u)).flatten ++ J))).obj q = G.obj q := fun q hq => hG q (Ne.symm (hq b _ _ rfl (by omega)))
  generalize G.setObj b _ = G1 at hS' hoffG ⊢
  have hs1 : (F.un (svS G1 s { w with U := w.U.set k u } (.s (.slice (some ⟨b, 0, none⟩) w.U.length cap)) o0 o1 o2 p)).obj s = some (.cells (svC w (.s (.slice (some ⟨b, 0, none⟩) w.U.length cap)) o0 o1 o2 p)) := un_r (svS_obj _ _ _ _ _ _ _ _)
  refine ⟨trivial, ?_⟩
  refine bceq (fun c1 => ?_) (fun c1 => ?_)
  · refine ADraw.of_sched infoOK (by rfl) (by rfl) sch165_4 (by rfl) ?_
    refine optK_intro (o := (F.un (svS G1 s _ _ o0 o1 o2 p)).obj s) _ hs1 ?_
    refine ⟨cPutF hS'.hc hS'.hd (by omega) hok u.id u.pos hp _ (fun F2 h2 h3 => ⟨trivial, ?_⟩), trivial⟩
    have e9 : entP L u = dropId L u.id ++ [(u.id, u.pos)] := if_pos c1
    exact ret (h F2 G1 ⟨by rw [e9]; exact h2, h3, hS'.hs, hS'.hu, hS'.h0, hS'.h1, hS'.h2⟩ hoffG)
  · refine ADraw.of_sched infoOK (by rfl) (by rfl) sch165_5 (by rfl) ?_
    refine optK_intro (o := (F.un (svS G1 s _ _ o0 o1 o2 p)).obj s) _ hs1 ?_
    refine ⟨cRemoveF hS'.hc hS'.hd (by omega) hok u.id _ (fun F2 h2 h3 => ⟨trivial, ?_⟩), trivial⟩
    have e9 : entP L u = dropId L u.id := if_neg c1
    exact ret (h F2 G1 ⟨by rw [e9]; exact h2, h3, hS'.hs, hS'.hu, hS'.h0, hS'.h1, hS'.h2⟩ hoffG)
end Go.Proofs
namespace Go.Proofs
open Go Go.V
set_option linter.unusedVariables false
set_option linter.unusedSimpArgs false
end Go.Proofs
namespace Go.Proofs
open Go Go.V
set_option linter.unusedVariables false
set_option linter.unusedSimpArgs false
theorem rfindU_spec (w : Wld) (hU : w.U.length ≤ 1000000) (id : Int) (st : Store) (R : AV → Store → Prop) (h : R (int (idxI (findU w.U id))) st) : ACalls Tryz.prog 40 [.agg (wldC w), int id] st R := rfind_spec w hU id st R h
theorem rfindQ_spec {S : Store} {w : Wld} {v : AV} (hv : RowsQ 10 untC S v w.U) (hU : w.U.length ≤ 1000000) (id : Int) (R : AV → Store → Prop) (h : R (int (idxI (findU w.U id))) S) : ACalls Tryz.prog 40 [.agg (wldV w v), int id] S R :=
  ACalls.read (ys := [.agg (wldC w), int id]) (Q := fun r => r = int (idxI (findU w.U id))) (fun Oth M W vs sto hr => by
    obtain ⟨x, y, rfl, h1, h2⟩ := reads2 hr
    exact Reads.cons (wldQ_borrow hv sto h1) (Reads.cons (mono_borrow h2) Reads.nil)) (rfindU_spec w hU id _ _ rfl) (fun r hr => hr ▸ flat_s _) (fun r hr => hr ▸ h)
theorem rasked_spec (w : Wld) (hU : w.U.length ≤ 1000000) (P id : Int) (st : Store) (R : AV → Store → Prop) (h : R (int (askE w P id)) st) : ACalls Tryz.prog 86 [.agg (wldC w), int P, int id] st R := by
  refine ACalls.of_body (c := cfg 28) infoOK Tryz.func86 (by rfl) (by rfl) (by rfl) (by rfl) ?_
  refine rfindU_spec w hU id _ _ ?_
  refine bcd (fun c1 => ?_) (fun c1 => ?_)
  · cases hf : findU w.U id with
    | none =>
      rw [(askE_none (P := P) hf).1] at h
      exact ret h
    | some i => rw [hf] at c1; exact absurd c1 (by show ¬ ((i : Int) < 0); omega)
  cases hf : findU w.U id with
  | none => rw [hf] at c1; exact absurd (show (-1 : Int) < 0 by decide) c1
  | some i =>
    obtain ⟨hi, e, e2⟩ := uAt_some hf
    rw [askE_some (P := P) hf hi] at h
    refine ⟨i, rfl, optK_intro _ (rws_get hi) ?_⟩
    refine bcne (fun c2 => ?_) (fun c2 => ?_)
    · rw [if_neg c2] at h
      exact ret h
    rw [if_pos c2] at h
    refine ⟨i, rfl, optK_intro _ (rws_get hi) ?_⟩
    refine bcne (fun c3 => ?_) (fun c3 => ?_)
    · rw [if_neg c3] at h
      exact ret h
    · rw [if_pos c3] at h
      exact ret h
end Go.Proofs
namespace Go.Proofs
open Go Go.V
set_option linter.unusedVariables false
set_option linter.unusedSimpArgs false
theorem inQ_spec {S : Store} {v : AV} {U : List Unt} (hv : RowsQ 10 untC S v U) (hl : U.length ≤ 1000000) (id : Int) (R : AV → Store → Prop) (h : R (ints (inOf U id)) S) : ACalls Tryz.prog 171 [v, int id] S R := by
  obtain ⟨oa, cap, e, hget⟩ := hv.form
  subst e
  refine ACalls.of_body (c := cfg 24) infoOK Tryz.func171 (by rfl) (by rfl) (by rfl) (by rfl) ?_
  refine AWp.loop (σ := Nat × AV) ⟨fun x => [(1, .av (int id)), (4, .av x.2), (7, .av (.s (.slice oa U.length cap))), (8, .av (int (U.length : Nat))), (9, .av (int (x.1 : Nat)))], fun _ => [],
    fun x st' => x.1 ≤ U.length ∧ App 1 S x.2 (rws intC (inOf (U.take x.1) id)) st', fun x => U.length - x.1⟩ infoOK ?_ ?_
  · exact ⟨(0, _), trivial, ⟨Nat.zero_le _, App.start 1 S⟩, ⟨LV.le_refl _, LV.le_refl _, LV.le_refl _, LV.le_refl _, LV.le_refl _, trivial⟩, trivial⟩
  rintro ⟨i, v2⟩ st' ⟨hi, hap⟩
  dsimp only at hi hap ⊢
  refine bcd (fun h1 => ?_) (fun h1 => ?_)
  rotate_left
  · have : i = U.length := by omega
    subst this
    rw [List.take_length] at hap
    exact ⟨_, _, hap.le, hap.has, h⟩
  have hlt : i < U.length := by omega
  have hs := inOf_snoc hlt id
  have hl1 : (inOf (U.take i) id).length ≤ 1000000 := by
    have h1 := inOf_le (l := U) i id
    have h2 : (inOf U id).length ≤ U.length := by unfold inOf; rw [List.length_map]; exact List.length_filter_le _ _
    omega
  obtain ⟨b, J, e2, hob⟩ := hget i hlt
  have hob : st'.obj b = some (.cells ((rws untC U).flatten ++ J)) := by rw [hap.obj]; exact hob
  subst e2
  refine ⟨i, rfl, hlt, ?_⟩
  refine optK_intro (o := st'.obj b) _ hob ?_
  refine partK_row (i := ti50) (row := untC U[i]) rfl rfl (rows_drop untC_len hlt) ?_
  refine bceq (fun c1 => ?_) (fun c1 => ?_)
  · rw [if_pos c1] at hs
    refine ⟨by decide, ?_⟩
    refine appendK_app (ie := ti3) (rows' := [intC U[i].id]) hap ?_ ?_ ⟨?_, ?_⟩ (fun v3 st3 ha3 => ?_)
    · rfl
    · rfl
    · simp only [rws_len, List.length_singleton, ti3]; omega
    · simp only [rws_len, List.length_singleton]; omega
    refine in64 (by omega) ?_
    refine ⟨(i + 1, v3), ?_, ⟨by dsimp only; omega, ?_⟩, ⟨LV.le_refl _, LV.le_refl _, LV.le_refl _, LV.le_refl _, LV.le_refl _, trivial⟩, trivial⟩
    · show U.length - (i + 1) < U.length - i
      omega
    · dsimp only
      rw [hs]
      unfold rws at ha3 ⊢
      rw [List.map_append]
      exact ha3
  · rw [if_neg c1, List.append_nil] at hs
    refine in64 (by omega) ?_
    refine ⟨(i + 1, v2), ?_, ⟨by dsimp only; omega, ?_⟩, ⟨LV.le_refl _, LV.le_refl _, LV.le_refl _, LV.le_refl _, LV.le_refl _, trivial⟩, trivial⟩
    · show U.length - (i + 1) < U.length - i
      omega
    · dsimp only
      rw [hs]
      exact hap
theorem carrier_spec {S : Store} {xw s p : Nat} {w : Wld} {v o0 o1 o2 : AV} {c : Cmd} {fv : AV} (ha : AtW S xw s p w v o0 o1 o2 c fv) (hr : risesU w.U) (hU : w.U.length ≤ 1000000) (R : AV → Store → Prop) (h : R (.tup [.agg (untC (uAt w c.N)), int (carE w c.P c.N)]) S) : ACalls Tryz.prog 170 [ptr xw] S R := by
  unfold carE at h
  refine ACalls.of_body (c := cfg 27) infoOK Tryz.func170 (by rfl) (by rfl) (by rfl) (by rfl) ?_
  refine optK_intro (o := S.obj xw) _ ha.hx ?_
  refine ask_spec ha hr hU c.N _ ?_
  refine bceq (fun c1 => ?_) (fun c1 => ?_)
  · rw [if_pos c1] at h
    refine what_spec _ _ _ ?_
    refine bceq (fun c2 => ?_) (fun c2 => ?_)
    · rw [if_pos c2] at h
      exact ret h
    · rw [if_neg c2] at h
      rw [← c1] at h
      exact ret h
  · rw [if_neg c1] at h
    exact ret h
end Go.Proofs
namespace Go.Proofs
open Go Go.V
set_option linter.unusedVariables false
set_option linter.unusedSimpArgs false
/-- A box more. -/
theorem Work.add {F G : Store} {xw s p : Nat} {w : Wld} {v : AV} {L : List Ent} {o0 o1 o2 : AV} {c : Cmd} {fv : AV} (h : Work F G xw s p w v L o0 o1 o2 c fv) {pb : Nat} (hpb : Fresh (F.un (svS G s w v o0 o1 o2 p)) pb) (z : AObj) :
    Work F (G.setObj pb z) xw s p w v L o0 o1 o2 c fv ∧ (F.un (svS G s w v o0 o1 o2 p)).setObj pb z = F.un (svS (G.setObj pb z) s w v o0 o1 o2 p) ∧ offB v pb ∧ pb ≠ s := by
  have hx1 : ¬ F.has pb ∧ ¬ (svS G s w v o0 o1 o2 p).has pb := by
    have := fresh_iff.1 hpb
    exact ⟨fun h => this (un_has.2 (.inl h)), fun h => this (un_has.2 (.inr h))⟩
  have hne : pb ≠ s := fun e => hx1.2 (svS_has.2 (.inl e))
  have hxN : ¬ G.has pb := fun h => hx1.2 (svS_has.2 (.inr h))
  have hxw : pb ≠ xw := fun e => hxN (by rw [e]; exact has_obj h.hx)
  have off := offB_fresh h.S.hu (not_has hxN).1
  refine ⟨⟨⟨h.S.hc, fun i h1 h2 => ?_, ?_, h.S.hu.set off _, h.S.h0, h.S.h1, h.S.h2⟩, ?_, h.ox, h.os, h.hL, h.hF⟩, ?_, off, hne⟩
  · rcases svS_has.1 h2 with rfl | h2
    · exact h.S.hd _ h1 (svS_has.2 (.inl rfl))
    · by_cases hi : i = pb
      · subst hi; exact hx1.1 h1
      · refine h.S.hd _ h1 (svS_has.2 (.inr ?_))
        rcases h2 with h2 | h2
        · rw [setObj_ne hi] at h2; exact .inl h2
        · exact .inr h2
  · rw [setObj_ne (Ne.symm hne)]; exact h.S.hs
  · rw [setObj_ne (Ne.symm hxw)]; exact h.hx
  · rw [un_setObj]
    unfold svS
    rw [setObj_comm hne]
end Go.Proofs
namespace Go.Proofs
open Go Go.V
set_option linter.unusedVariables false
set_option linter.unusedSimpArgs false
theorem head_fld {U : List Unt} {J : List AV} {i j : Nat} (hi : i < U.length) (hj : j < 10) {y : AV} (hy : (untC U[i])[j]? = some y) : (((rws untC U).flatten ++ J).drop (0 + i * 10 + j)).head? = some y := by
  have hd := rows_drop (f := untC) (L := J) untC_len hi
  rw [← List.drop_drop, hd, List.head?_drop, List.getElem?_append_left (by rw [untC_len]; exact hj)]
  exact hy
theorem rridersQ_spec {S : Store} {w : Wld} {v : AV} (hv : RowsQ 10 untC S v w.U) (hU : w.U.length ≤ 1000000) (id : Int) (R : AV → Store → Prop) (h : R (ints (inOf w.U id)) S) : ACalls Tryz.prog 41 [.agg (wldV w v), int id] S R := by
  obtain ⟨oa, cap, e, hget⟩ := hv.form
  subst e
  refine ACalls.of_body (c := cfg 32) infoOK Tryz.func41 (by rfl) (by rfl) (by rfl) (by rfl) ?_
  refine AWp.loop (σ := Nat × AV) ⟨fun x => [(1, .av (int id)), (2, .bx 2 0), (5, .av x.2), (6, .av (int (x.1 : Nat)))], fun _ => [(2, wldV w (.s (.slice oa w.U.length cap)))],
    fun x st' => x.1 ≤ w.U.length ∧ App 1 S x.2 (rws intC (inOf (w.U.take x.1) id)) st', fun x => w.U.length - x.1⟩ infoOK ?_ ?_
  · exact ⟨(0, _), trivial, ⟨Nat.zero_le _, App.start 1 S⟩, ⟨LV.le_refl _, LV.le_refl _, LV.le_refl _, LV.le_refl _, trivial⟩, ⟨rfl, trivial⟩⟩
  rintro ⟨i, v2⟩ st' ⟨hi, ha⟩
  dsimp only at hi ha ⊢
  refine bcd (fun h1 => ?_) (fun h1 => ?_)
  rotate_left
  · have : i = w.U.length := by omega
    subst this
    rw [List.take_length] at ha
    exact ⟨_, _, ha.le, ha.has, h⟩
  have hlt : i < w.U.length := by omega
  have hs := inOf_snoc hlt id
  have hl1 : (inOf (w.U.take i) id).length ≤ 1000000 := by
    have h1 := inOf_le (l := w.U) i id
    have h2 : (inOf w.U id).length ≤ w.U.length := by unfold inOf; rw [List.length_map]; exact List.length_filter_le _ _
    omega
  obtain ⟨b, J, e2, hob⟩ := hget i hlt
  have hob : st'.obj b = some (.cells ((rws untC w.U).flatten ++ J)) := by rw [ha.obj]; exact hob
  subst e2
  refine ⟨i, rfl, hlt, ?_⟩
  refine optK_intro (o := st'.obj b) _ hob ?_
  refine optK_intro (o := List.head? _) (int w.U[i].inn) (head_fld (j := 8) hlt (by decide) rfl) ?_
  refine bceq (fun c1 => ?_) (fun c1 => ?_)
  · rw [if_pos c1] at hs
    refine ⟨i, rfl, hlt, ?_⟩
    refine optK_intro (o := st'.obj b) _ hob ?_
    refine optK_intro (o := List.head? _) (int w.U[i].id) (head_fld (j := 0) hlt (by decide) rfl) ?_
    refine ⟨by decide, ?_⟩
    refine appendK_app (ie := ti3) (rows' := [intC w.U[i].id]) ha ?_ ?_ ⟨?_, ?_⟩ (fun v3 st3 ha3 => ?_)
    · rfl
    · rfl
    · simp only [rws_len, List.length_singleton, ti3]; omega
    · simp only [rws_len, List.length_singleton]; omega
    refine in64 (by omega) ?_
    refine ⟨(i + 1, v3), ?_, ⟨by dsimp only; omega, ?_⟩, ⟨LV.le_refl _, LV.le_refl _, LV.le_refl _, LV.le_refl _, trivial⟩, ⟨rfl, trivial⟩⟩
    · show w.U.length - (i + 1) < w.U.length - i
      omega
    · dsimp only
      rw [hs]
      unfold rws at ha3 ⊢
      rw [List.map_append]
      exact ha3
  · rw [if_neg c1, List.append_nil] at hs
    refine in64 (by omega) ?_
    refine ⟨(i + 1, v2), ?_, ⟨by dsimp only; omega, ?_⟩, ⟨LV.le_refl _, LV.le_refl _, LV.le_refl _, LV.le_refl _, trivial⟩, ⟨rfl, trivial⟩⟩
    · show w.U.length - (i + 1) < w.U.length - i
      omega
    · dsimp only
      rw [hs]
      exact ha
theorem rcarrier_spec (w : Wld) (hU : w.U.length ≤ 1000000) (hk : ∀ u ∈ w.U, kindP u.kind) (c : Cmd) (st : Store) (R : AV → Store → Prop) (h : R (int (carE w c.P c.N)) st) : ACalls Tryz.prog 91 [.agg (wldC w), .agg (cmdC c)] st R := by
  unfold carE at h
  refine ACalls.of_body (c := cfg 29) infoOK Tryz.func91 (by rfl) (by rfl) (by rfl) (by rfl) ?_
  refine rasked_spec w hU c.P c.N _ _ ?_
  refine ADraw.of_sched infoOK (by rfl) (by rfl) sch91_2 (by rfl) ?_
  refine bceq (fun c1 => ?_) (fun c1 => ?_)
  rotate_left
  · rw [if_neg c1] at h
    refine ⟨⟨(by repeat (first | exact trivial | refine ⟨rfl, ?_⟩ | refine ⟨optR (optR (optR (optK_intro _ (setObj_self _ _ _) rfl))), ?_⟩)), ?_⟩, trivial⟩
    refine ⟨⟨(by repeat (first | exact trivial | refine ⟨rfl, ?_⟩ | refine ⟨optR (optR (optR (optK_intro _ (setObj_self _ _ _) rfl))), ?_⟩)), ?_⟩, trivial⟩
    exact ret h
  rw [if_pos c1] at h
  obtain ⟨i, hi, hf, hid, hu, _, _⟩ := askE_zero c1
  rw [hu] at h
  refine ⟨rfindU_spec w hU c.N _ _ ⟨(by repeat (first | exact trivial | refine ⟨rfl, ?_⟩ | refine ⟨optR (optR (optR (optK_intro _ (setObj_self _ _ _) rfl))), ?_⟩)), ?_⟩, trivial⟩
  rw [hf]
  refine ⟨i, rfl, optK_intro _ (rws_get hi) ?_⟩
  refine ⟨rkind_spec w.U[i].kind (hk _ (List.getElem_mem hi)) _ _ ⟨(by repeat (first | exact trivial | refine ⟨rfl, ?_⟩ | refine ⟨optR (optR (optR (optK_intro _ (setObj_self _ _ _) rfl))), ?_⟩)), ?_⟩, trivial⟩
  refine bceq (fun c2 => ?_) (fun c2 => ?_)
  · rw [if_pos c2] at h
    exact ret h
  · rw [if_neg c2] at h
    rw [← c1] at h
    exact ret h
theorem rcarrierQ_spec {S : Store} {w : Wld} {v : AV} (hv : RowsQ 10 untC S v w.U) (hU : w.U.length ≤ 1000000) (hk : ∀ u ∈ w.U, kindP u.kind) (c : Cmd) (R : AV → Store → Prop) (h : R (int (carE w c.P c.N)) S) : ACalls Tryz.prog 91 [.agg (wldV w v), .agg (cmdC c)] S R :=
  ACalls.read (ys := [.agg (wldC w), .agg (cmdC c)]) (Q := fun r => r = int (carE w c.P c.N)) (fun Oth M W vs sto hr => by
    obtain ⟨x, y, rfl, h1, h2⟩ := reads2 hr
    exact Reads.cons (wldQ_borrow hv sto h1) (Reads.cons (mono_borrow h2) Reads.nil)) (rcarrier_spec w hU hk c _ _ rfl) (fun r hr => hr ▸ flat_s _) (fun r hr => hr ▸ h)
theorem fld_setL {S : Store} {b i j : Nat} {U : List Unt} {J : List AV} {x' : Unt} {ys : List AV} (ho : S.obj b = some (.cells ((rws untC U).flatten ++ J))) (hi : i < U.length) (hj : j + ys.length ≤ 10) (hx : untC x' = splice (untC U[i]) j ys) : (S.setObj b (.cells (splice ((rws untC U).flatten ++ J) (0 + i * 10 + j) ys))).obj b = some (.cells ((rws untC (U.set i x')).flatten ++ J)) := by
  rw [setObj_self, Nat.zero_add, splice_rows (f := untC) (k := 10) (x' := x') untC_len hi hj hx]
end Go.Proofs
