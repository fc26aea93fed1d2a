/- The ground on which laws of thronglaw23 are proved: contracts of functions and plain lemmas; no condition beyond the row's own. -/
import Derived.Test.YtlmechfgnfepoaaGreatVH
import Derived.Test.YtlmechfgnfepoaaGreatSI
import Derived.Test.YtlmechfgnfepoaaGreatSG
import Derived.Test.YtlmechfgnfepoaaGreatSJ
set_option linter.unusedSimpArgs false
set_option linter.unusedVariables false
namespace Go.V
set_option linter.unusedVariables false
set_option linter.unusedSimpArgs false

/-- The first thing that is not right of several ones. -/
def allE (f : Int → Int) : List Int → Int
  | [] => 0
  | a :: l => if f a = 0 then allE f l else f a
theorem allE_none {f : Int → Int} : ∀ {l : List Int}, (∀ j, (h : j < l.length) → f l[j] = 0) → allE f l = 0
  | [], _ => rfl
  | a :: l, h => by
    have h0 := h 0 (by simp)
    simp only [List.getElem_cons_zero] at h0
    unfold allE
    rw [if_pos h0]
    exact allE_none fun j hj => by
      have := h (j + 1) (by simp; omega)
      simpa using this
theorem allE_some {f : Int → Int} : ∀ {l : List Int} {i : Nat} (hi : i < l.length), (∀ j, (h : j < l.length) → j < i → f l[j] = 0) → f l[i] ≠ 0 → allE f l = f l[i]
  | [], i, hi, _, _ => absurd hi (Nat.not_lt_zero i)
  | a :: l, 0, hi, _, h => by
    simp only [List.getElem_cons_zero] at h ⊢
    unfold allE
    rw [if_neg h]
  | a :: l, i + 1, hi, h, h2 => by
    have h0 := h 0 (by simp) (by omega)
    simp only [List.getElem_cons_zero] at h0
    simp only [List.getElem_cons_succ] at h2 ⊢
    unfold allE
    rw [if_pos h0]
    exact allE_some (by simpa using hi) (fun j hj hji => by
      have := h (j + 1) (by simp; omega) (by omega)
      simpa using this) h2
theorem allE_zero {f : Int → Int} : ∀ {l : List Int}, allE f l = 0 → ∀ a ∈ l, f a = 0
  | [], _, a, ha => by cases ha
  | b :: l, h, a, ha => by
    unfold allE at h
    by_cases hb : f b = 0
    · rw [if_pos hb] at h
      rcases List.mem_cons.1 ha with rfl | ha
      · exact hb
      · exact allE_zero h a ha
    · rw [if_neg hb] at h
      exact absurd h hb

def findU (l : List Unt) (id : Int) : Option Nat := l.findIdx? fun u => decide (u.id = id)
def unt0 : Unt := ⟨0, 0, 0, (0, 0), 0, 0, 0, 0, 0⟩
theorem findU_some {l : List Unt} {id : Int} {i : Nat} (h : findU l id = some i) : ∃ hi : i < l.length, l[i].id = id := by
  unfold findU at h
  rw [List.findIdx?_eq_some_iff_getElem] at h
  obtain ⟨h1, h2, _⟩ := h
  exact ⟨h1, of_decide_eq_true h2⟩
theorem findU_none {l : List Unt} {id : Int} (h : findU l id = none) : ∀ u ∈ l, u.id ≠ id := by
  unfold findU at h
  rw [List.findIdx?_eq_none_iff] at h
  exact fun u hu => of_decide_eq_false (h u hu)
theorem findU_mk {l : List Unt} (hr : risesU l) {id : Int} {i : Nat} (hi : i < l.length) (e : l[i].id = id) : findU l id = some i := by
  cases h : findU l id with
  | none => exact absurd e (findU_none h _ (List.getElem_mem hi))
  | some k =>
    obtain ⟨hk, e2⟩ := findU_some h
    by_cases h1 : k < i
    · have := risesU_lt' hr h1 hi; omega
    · by_cases h2 : i < k
      · have := risesU_lt' hr h2 hk; omega
      · rw [show k = i by omega]

/-- The unit of an ID. -/
def uAt (w : Wld) (id : Int) : Unt := match findU w.U id with | none => unt0 | some i => w.U.getD i unt0
/-- What a player is told who asks for a unit. -/
def askE (w : Wld) (P id : Int) : Int := match findU w.U id with | none => 3 | some i => if (w.U.getD i unt0).owner = P then (if (w.U.getD i unt0).inn = 0 then 0 else 9) else 6
theorem uAt_some {w : Wld} {id : Int} {i : Nat} (h : findU w.U id = some i) : ∃ hi : i < w.U.length, w.U[i].id = id ∧ uAt w id = w.U[i] := by
  obtain ⟨hi, e⟩ := findU_some h
  refine ⟨hi, e, ?_⟩
  unfold uAt
  rw [h]
  simp [List.getD_eq_getElem?_getD, hi]
theorem askE_none {w : Wld} {P id : Int} (h : findU w.U id = none) : askE w P id = 3 ∧ uAt w id = unt0 := by
  unfold askE uAt
  rw [h]
  exact ⟨rfl, rfl⟩
theorem askE_some {w : Wld} {P id : Int} {i : Nat} (h : findU w.U id = some i) (hi : i < w.U.length) : askE w P id = if w.U[i].owner = P then (if w.U[i].inn = 0 then 0 else 9) else 6 := by
  unfold askE
  rw [h]
  simp [List.getD_eq_getElem?_getD, hi]
theorem askE_zero {w : Wld} {P id : Int} (h : askE w P id = 0) : ∃ i, ∃ hi : i < w.U.length, findU w.U id = some i ∧ w.U[i].id = id ∧ uAt w id = w.U[i] ∧ w.U[i].owner = P ∧ w.U[i].inn = 0 := by
  cases hf : findU w.U id with
  | none => rw [(askE_none (P := P) hf).1] at h; cases h
  | some i =>
    obtain ⟨hi, e, e2⟩ := uAt_some hf
    rw [askE_some hf hi] at h
    refine ⟨i, hi, rfl, e, e2, ?_⟩
    split at h
    · split at h
      · exact ⟨‹_›, ‹_›⟩
      · cases h
    · cases h
theorem uAt_ok {w : Wld} (hn : ∀ u ∈ w.U, u.pos.ok) (id : Int) : (uAt w id).pos.ok := by
  cases hf : findU w.U id with
  | none => rw [(askE_none (P := 0) hf).2]; unfold unt0 Vc.ok InI64; decide
  | some i =>
    obtain ⟨hi, e, e2⟩ := uAt_some hf
    rw [e2]
    exact hn _ (List.getElem_mem hi)

def rstU (u : Unt) : Unt := { u with goal := -1, next := -1, stuck := 0, state := 0 }
/-- Some units are changed. -/
def setU (l : List Int) (g : Unt → Unt) (U : List Unt) : List Unt := U.map fun u => if u.id ∈ l then g u else u
theorem setU_nil (g : Unt → Unt) (U : List Unt) : setU [] g U = U := by
  unfold setU
  simp
theorem setU_len (l : List Int) (g : Unt → Unt) (U : List Unt) : (setU l g U).length = U.length := by unfold setU; rw [List.length_map]
theorem setU_get {l : List Int} {g : Unt → Unt} {U : List Unt} {i : Nat} (hi : i < U.length) : (setU l g U)[i]'(by rw [setU_len]; exact hi) = if U[i].id ∈ l then g U[i] else U[i] := by unfold setU; rw [List.getElem_map]
theorem setU_id {l : List Int} {g : Unt → Unt} (hg : ∀ u, (g u).id = u.id) {U : List Unt} {i : Nat} (hi : i < U.length) : ((setU l g U)[i]'(by rw [setU_len]; exact hi)).id = U[i].id := by
  rw [setU_get hi]
  split
  · exact hg _
  · rfl
theorem setU_rises {l : List Int} {g : Unt → Unt} (hg : ∀ u, (g u).id = u.id) {U : List Unt} (hr : risesU U) : risesU (setU l g U) := by
  intro i hi h0
  have hi2 : i < U.length := by rw [setU_len] at hi; exact hi
  rw [setU_id hg hi2, setU_id hg (show i - 1 < U.length by omega)]
  exact hr i hi2 h0
theorem setU_set {l : List Int} {g : Unt → Unt} {U : List Unt} (hr : risesU U) {i : Nat} (hi : i < U.length) : (setU l g U).set i (g U[i]) = setU (l ++ [U[i].id]) g U := by
  apply List.ext_getElem
  · rw [List.length_set, setU_len, setU_len]
  intro j h1 h2
  have hj : j < U.length := by rw [setU_len] at h2; exact h2
  rw [setU_get hj, List.getElem_set]
  by_cases e : i = j
  · subst e
    rw [if_pos rfl, if_pos (by simp)]
  · rw [if_neg e, setU_get hj]
    have hne : U[j].id ≠ U[i].id := by
      by_cases h : i < j
      · have := risesU_lt' hr h hj; omega
      · have := risesU_lt' hr (show j < i by omega) hi; omega
    have : (U[j].id ∈ l ++ [U[i].id]) ↔ U[j].id ∈ l := by simp [hne]
    simp only [this]

/-- Units that are stopped. -/
def stW (w : Wld) (c : Cmd) : Wld := { w with U := setU c.U rstU w.U }
def stE (w : Wld) (c : Cmd) : Int := allE (askE w c.P) c.U

theorem rows_set {α : Type} {f : α → List AV} {k : Nat} (hf : ∀ x, (f x).length = k) {U : List α} {i : Nat} (hi : i < U.length) (x : α) (J : List AV) : splice ((rws f U).flatten ++ J) (i * k) (f x) = (rws f (U.set i x)).flatten ++ J := by
  have := splice_rows (j := 0) (ys := f x) (L := J) (x' := x) hf hi (by rw [hf]; omega) (by
    unfold splice
    rw [hf x, List.take_zero, List.nil_append, Nat.zero_add, List.drop_of_length_le (by rw [hf]; exact Nat.le_refl _), List.append_nil])
  rw [Nat.add_zero] at this
  exact this
theorem rst_splice {U : List Unt} {i : Nat} (hi : i < U.length) (J : List AV) :
    splice (splice (splice (splice ((rws untC U).flatten ++ J) (i * 10 + 5) [int (-1)]) (i * 10 + 6) [int (-1)]) (i * 10 + 7) [int 0]) (i * 10 + 9) [int 0] = (rws untC (U.set i (rstU U[i]))).flatten ++ J := by
  rw [splice_rows (f := untC) (k := 10) (x' := { U[i] with goal := -1 }) untC_len hi (show 5 + 1 ≤ 10 by decide) rfl]
  rw [splice_rows (f := untC) (k := 10) (x' := { U[i] with goal := -1, next := -1 }) untC_len (by rw [List.length_set]; exact hi) (show 6 + 1 ≤ 10 by decide) (by rw [List.getElem_set_self]; rfl)]
  rw [List.set_set]
  rw [splice_rows (f := untC) (k := 10) (x' := { U[i] with goal := -1, next := -1, stuck := 0 }) untC_len (by rw [List.length_set]; exact hi) (show 7 + 1 ≤ 10 by decide) (by rw [List.getElem_set_self]; rfl)]
  rw [List.set_set]
  rw [splice_rows (f := untC) (k := 10) (x' := rstU U[i]) untC_len (by rw [List.length_set]; exact hi) (show 9 + 1 ≤ 10 by decide) (by rw [List.getElem_set_self]; rfl)]
  rw [List.set_set]
end Go.V
namespace Go.Proofs
open Go Go.V
set_option linter.unusedVariables false
set_option linter.unusedSimpArgs false

theorem findU_at {l : List Unt} (hr : risesU l) {id : Int} {i : Nat} {z : Bool} (h : z = true ↔ ∃ hi : i < l.length, l[i].id = id) (hat : isAt l id i) : (z = true → findU l id = some i) ∧ (z = false → findU l id = none) := by
  refine ⟨fun hz => ?_, fun hz => ?_⟩
  · obtain ⟨hi, e⟩ := h.1 hz
    exact findU_mk hr hi e
  · cases hf : findU l id with
    | none => rfl
    | some k =>
      obtain ⟨hk, e⟩ := findU_some hf
      have hno : ¬ ∃ hi : i < l.length, l[i].id = id := fun hh => by rw [h.2 hh] at hz; cases hz
      by_cases h1 : k < i
      · have := hat.2.1 k hk h1; omega
      · have hil : i < l.length := by omega
        have := hat.2.2 i hil (Nat.le_refl _)
        by_cases h2 : i < k
        · have := risesU_lt hr h2 hk; omega
        · have e3 : k = i := by omega
          subst e3
          exact absurd ⟨hk, e⟩ hno

/-- A place of work, as it is read. -/
structure AtW (S : Store) (xw s p : Nat) (w : Wld) (v o0 o1 o2 : AV) (c : Cmd) (fv : AV) : Prop where
  hx : S.obj xw = some (.cells (wkC s c fv))
  hs : S.obj s = some (.cells (svC w v o0 o1 o2 p))
  hr : RowsQ 10 untC S v w.U

theorem ask_spec {S : Store} {xw s p : Nat} {w : Wld} {v o0 o1 o2 : AV} {c : Cmd} {fv : AV} (ha : AtW S xw s p w v o0 o1 o2 c fv) (hr : risesU w.U) (hU : w.U.length ≤ 1000000) (id : Int) (R : AV → Store → Prop) (h : R (.tup [.agg (untC (uAt w id)), int (askE w c.P id)]) S) : ACalls Tryz.prog 201 [ptr xw, int id] S R := by
  obtain ⟨hx, hs, hv⟩ := ha
  obtain ⟨oa, cap, e, hget⟩ := hv.form
  subst e
  refine ACalls.of_body (c := cfg 52) infoOK Tryz.func201 (by rfl) (by rfl) (by rfl) (by rfl) ?_
  refine optK_intro (o := S.obj xw) _ hx ?_
  refine optK_intro (o := S.obj s) _ hs ?_
  refine atR_spec hv (by omega) hr id _ (fun i hi z hz => ?_)
  obtain ⟨g1, g2⟩ := findU_at hr hz hi
  cases z with
  | false =>
    obtain ⟨e1, e2⟩ := askE_none (w := w) (P := c.P) (g2 rfl)
    rw [e1, e2] at h
    exact ret h
  | true =>
    obtain ⟨hil, hid⟩ := hz.1 rfl
    obtain ⟨_, _, e2⟩ := uAt_some (w := w) (g1 rfl)
    rw [e2, askE_some (P := c.P) (g1 rfl) hil] at h
    refine optK_intro (o := S.obj xw) _ hx ?_
    refine optK_intro (o := S.obj s) _ hs ?_
    obtain ⟨b, J, rfl, hob⟩ := hget i hil
    refine ⟨i, rfl, hil, ?_⟩
    refine optK_intro (o := S.obj b) _ hob ?_
    refine partK_row (i := ti50) (row := untC w.U[i]) rfl rfl (rows_drop untC_len hil) ?_
    refine ADraw.of_sched infoOK (by rfl) (by rfl) sch201_5 (by rfl) ?_
    refine optK_intro (o := S.obj xw) _ hx ?_
    refine ⟨⟨(by repeat (first | exact trivial | refine ⟨rfl, ?_⟩ | refine ⟨optR (optR (optR (optK_intro _ (setObj_self _ _ _) rfl))), ?_⟩)), ?_⟩, trivial⟩
    refine bcne (fun c1 => ?_) (fun c1 => ?_)
    · rw [if_neg c1] at h
      exact ret h
    rw [if_pos c1] at h
    refine bcne (fun c2 => ?_) (fun c2 => ?_)
    · rw [if_neg c2] at h
      exact ret h
    · rw [if_pos c2] at h
      exact ret h

theorem all_nil {S : Store} {xw s p : Nat} {w : Wld} {v o0 o1 o2 : AV} {c : Cmd} {fv : AV} (ha : AtW S xw s p w v o0 o1 o2 c fv) (hr : risesU w.U) (hU : w.U.length ≤ 1000000) (hc : c.U.length ≤ 1000000) (R : AV → Store → Prop)
    (h : allE (askE w c.P) c.U = 0 → R (.tup [lst 10 untC (c.U.map (uAt w)), int 0]) S) (h' : allE (askE w c.P) c.U ≠ 0 → R (.tup [.s (.slice none 0 0), int (allE (askE w c.P) c.U)]) S) : ACalls Tryz.prog 163 [ptr xw, .s .nilFunc] S R := by
  refine ACalls.of_body (c := cfg 44) infoOK Tryz.func163 (by rfl) (by rfl) (by rfl) (by rfl) ?_
  refine optK_intro (o := S.obj xw) _ ha.hx ?_
  refine AWp.loop (σ := Nat × AV) ⟨fun x => [(0, .av (ptr xw)), (1, .av (.s .nilFunc)), (4, .av x.2), (14, .av (ints c.U)), (15, .av (int (c.U.length : Nat))), (16, .av (int (x.1 : Nat)))], fun _ => [],
    fun x st' => x.1 ≤ c.U.length ∧ App 10 S x.2 (rws untC ((c.U.take x.1).map (uAt w))) st' ∧ ∀ j, (hj : j < c.U.length) → j < x.1 → askE w c.P c.U[j] = 0, fun x => c.U.length - x.1⟩ infoOK ?_ ?_
  · refine ⟨(0, _), trivial, ⟨Nat.zero_le _, App.start 10 S, fun j _ hj => by omega⟩, ⟨LV.le_refl _, LV.le_refl _, LV.le_refl _, LV.le_refl _, ?_, LV.le_refl _, trivial⟩, trivial⟩
    rw [← rws_len (f := intC) c.U]; exact LV.le_refl _
  rintro ⟨i, v2⟩ st' ⟨hi, hap, hall⟩
  dsimp only at hi hap hall ⊢
  refine bcd (fun h1 => ?_) (fun h1 => ?_)
  rotate_left
  · have : i = c.U.length := by omega
    subst this
    rw [List.take_length] at hap
    exact ⟨_, _, AV.le_tupL (xs := [v2, int 0]) (ys := [lst 10 untC (c.U.map (uAt w)), int 0]) ⟨AV.le_trans hap.le (AV.le_refl _), AV.le_refl _, trivial⟩, hap.has, h (allE_none fun j hj => hall j hj hj)⟩
  have hlt : i < c.U.length := by omega
  have ha' : AtW st' xw s p w v o0 o1 o2 c fv := ⟨by rw [hap.obj]; exact ha.hx, by rw [hap.obj]; exact ha.hs, ha.hr.sub fun _ _ _ _ => by rw [hap.obj]⟩
  refine ⟨i, rfl, optK_intro _ (rws_get hlt) ?_⟩
  refine ask_spec ha' hr hU c.U[i] _ ?_
  refine bceq (fun c1 => ?_) (fun c1 => ?_)
  rotate_left
  · refine bcne (fun c2 => ?_) (fun c2 => absurd c2 c1)
    have e := allE_some hlt hall c1
    have := h' (by rw [e]; exact c1)
    rw [e] at this
    exact ⟨_, _, AV.le_refl _, hap.has, this⟩
  refine bcne (fun c2 => absurd c1 c2) (fun c2 => ?_)
  refine ⟨by decide, ?_⟩
  refine appendK_app (ie := ti50) (rows' := [untC (uAt w c.U[i])]) hap ?_ ?_ ⟨?_, ?_⟩ (fun v3 st3 ha3 => ?_)
  · rfl
  · rfl
  · simp only [rws_len, List.length_map, List.length_take, List.length_singleton, ti50]; omega
  · simp only [rws_len, List.length_map, List.length_take, List.length_singleton]; omega
  refine in64 (by omega) ?_
  refine ⟨(i + 1, v3), ?_, ⟨by dsimp only; omega, ?_, fun j hj hji => ?_⟩, ⟨LV.le_refl _, LV.le_refl _, LV.le_refl _, LV.le_refl _, LV.le_refl _, LV.le_refl _, trivial⟩, trivial⟩
  · show c.U.length - (i + 1) < c.U.length - i
    omega
  · dsimp only
    rw [List.take_succ_eq_append_getElem hlt, List.map_append]
    unfold rws at ha3 ⊢
    rw [List.map_append]
    exact ha3
  · by_cases e : j = i
    · subst e; exact c1
    · exact hall j hj (by dsimp only at hji; omega)

theorem put_spec {F G : Store} {s p : Nat} {w : Wld} {v : AV} {L : List Ent} {o0 o1 o2 : AV} (hS : StandR F G s p w v L o0 o1 o2) (hos : offB v s) (hr : risesU w.U) (hU : w.U.length ≤ 1000000) (hL : L.length ≤ 1000000) (hok : ∀ e ∈ L, e.2.ok) {i : Nat} (hi : i < w.U.length) (u : Unt) (hid : w.U[i].id = u.id) (hp : u.pos.ok) (R : AV → Store → Prop)
    (h : ∀ F' G' L', StandR F' G' s p { w with U := w.U.set i u } v L' o0 o1 o2 → (∀ q, offB v q → G'.obj q = G.obj q) → L'.length ≤ L.length + 1 → (∀ e ∈ L', e.2.ok) → R (.tup []) (F'.un (svS G' s { w with U := w.U.set i u } v o0 o1 o2 p))) :
    ACalls Tryz.prog 165 [ptr s, .agg (untC u)] (F.un (svS G s w v o0 o1 o2 p)) R := by
  have hrow : RowsQ 10 untC (F.un (svS G s w v o0 o1 o2 p)) v w.U := (svS_rows hS.hs hS.hu).un
  have hs0 : (F.un (svS G s w v o0 o1 o2 p)).obj s = some (.cells (svC w v o0 o1 o2 p)) := un_r (svS_obj _ _ _ _ _ _ _ _)
  rcases hS.hu with (⟨_, hl0⟩ | ⟨b, cap, J, rfl, ho, hc1, hc2, hc3⟩) | ⟨_, _, _, hl0⟩
  · rw [hl0] at hi; exact absurd hi (Nat.not_lt_zero i)
  rotate_left
  · rw [hl0] at hi; exact absurd hi (Nat.not_lt_zero i)
  have hbs : b ≠ s := hos b _ _ rfl (by omega)
  have hob : (F.un (svS G s w (.s (.slice (some ⟨b, 0, none⟩) w.U.length cap)) o0 o1 o2 p)).obj b = some (.cells ((rws untC w.U).flatten ++ J)) := un_r (by
    show (G.setObj s _).obj b = _
    rw [setObj_ne hbs]; exact ho)
  refine ACalls.of_body (c := cfg 44) infoOK Tryz.func165 (by rfl) (by rfl) (by rfl) (by rfl) ?_
  refine ADraw.of_sched infoOK (by rfl) (by rfl) sch165_1 (by rfl) ?_
  refine optK_intro (o := (F.un (svS G s w _ o0 o1 o2 p)).obj s) _ hs0 ?_
  refine ⟨atR_spec hrow (by omega) hr u.id _ (fun k hk z hz => ⟨(by repeat (first | exact trivial | refine ⟨rfl, ?_⟩ | refine ⟨optR (optR (optR (optK_intro _ (setObj_self _ _ _) rfl))), ?_⟩)), ?_⟩), trivial⟩
  have hki : k = i := by
    by_cases h1 : k < i
    · have := hk.2.2 k (by omega) (Nat.le_refl _)
      have := risesU_lt hr h1 hi
      omega
    · by_cases h2 : i < k
      · have := hk.2.1 i hi h2; omega
      · omega
  subst hki
  refine ⟨⟨trivial, ?_⟩, trivial⟩
  refine ⟨⟨trivial, ?_⟩, trivial⟩
  refine ADraw.of_sched infoOK (by rfl) (by rfl) sch165_2 (by rfl) ?_
  refine optK_intro (o := (F.un (svS G s w _ o0 o1 o2 p)).obj s) _ hs0 ?_
  refine ⟨k, rfl, hi, ?_⟩
  refine ⟨?_, trivial⟩
  refine optK_intro _ rfl (guardK_none rfl (vcOp_store (v := .agg (untC u)) rfl rfl rfl rfl ?_))
  refine storeK_objL (i := ti50) (v := .agg (untC u)) (xs := untC u) (b := b) (o := 0 + k * 10) (l := (rws untC w.U).flatten ++ J) rfl rfl rfl hob (by rw [List.length_append, rws_flat_len untC_len, untC_len]; omega) ?_
  have e0 : (F.un (svS G s w (.s (.slice (some ⟨b, 0, none⟩) w.U.length cap)) o0 o1 o2 p)).setObj b (.cells (splice ((rws untC w.U).flatten ++ J) (0 + k * 10) (untC u))) = F.un (svS (G.setObj b (.cells ((rws untC (w.U.set k u)).flatten ++ J))) s { w with U := w.U.set k u } (.s (.slice (some ⟨b, 0, none⟩) w.U.length cap)) o0 o1 o2 p) := by
    rw [Nat.zero_add, rows_set untC_len hi u J, un_setObj]
    unfold svS
    rw [setObj_comm hbs]
    rfl
  rw [e0]
  have hG : ∀ q, q ≠ b → (G.setObj b (.cells ((rws untC (w.U.set k u)).flatten ++ J))).obj q = G.obj q := fun q hq => setObj_ne hq
  have hS' : StandR F (G.setObj b (.cells ((rws untC (w.U.set k u)).flatten ++ J))) s p { w with U := w.U.set k u } (.s (.slice (some ⟨b, 0, none⟩) w.U.length cap)) L o0 o1 o2 := by
    refine ⟨hS.hc, fun j h1 h2 => hS.hd j h1 (svS_has.2 ?_), ?_, .inl (.inr ⟨b, cap, J, by rw [List.length_set], setObj_self _ _ _, by rw [List.length_set]; exact hc1, by rw [List.length_set]; exact hc2, hc3⟩), hS.h0, hS.h1, hS.h2⟩
    · rcases svS_has.1 h2 with h2 | h2
      · exact .inl h2
      · rcases has_setObj_iff.1 h2 with rfl | h2
        · exact .inr (has_obj ho)
        · exact .inr h2
    · rw [hG s (Ne.symm hbs)]; exact hS.hs
  have hoffG : ∀ q, offB (.s (.slice (some ⟨b, 0, none⟩) w.U.length cap)) q → (G.setObj b (.cells ((rws untC (w.U.set k u)).flatten ++ J))).obj q = G.obj q := fun q hq => hG q (Ne.symm (hq b _ _ rfl (by omega)))
  generalize G.setObj b _ = G1 at hS' hoffG ⊢
  have hs1 : (F.un (svS G1 s { w with U := w.U.set k u } (.s (.slice (some ⟨b, 0, none⟩) w.U.length cap)) o0 o1 o2 p)).obj s = some (.cells (svC w (.s (.slice (some ⟨b, 0, none⟩) w.U.length cap)) o0 o1 o2 p)) := un_r (svS_obj _ _ _ _ _ _ _ _)
  refine ⟨trivial, ?_⟩
  refine bceq (fun c1 => ?_) (fun c1 => ?_)
  · refine ADraw.of_sched infoOK (by rfl) (by rfl) sch165_4 (by rfl) ?_
    refine optK_intro (o := (F.un (svS G1 s _ _ o0 o1 o2 p)).obj s) _ hs1 ?_
    refine ⟨cPutF hS'.hc hS'.hd (by omega) hok u.id u.pos hp _ (fun F2 h2 h3 => ⟨trivial, ?_⟩), trivial⟩
    refine ret (h F2 G1 _ ⟨h2, h3, hS'.hs, hS'.hu, hS'.h0, hS'.h1, hS'.h2⟩ hoffG ?_ fun e he => ?_)
    · rw [List.length_append]
      have : (dropId L u.id).length ≤ L.length := List.length_filter_le _ _
      simp only [List.length_singleton]; omega
    · rcases List.mem_append.1 he with he | he
      · exact hok e (mem_dropId.1 he).1
      · simp at he; subst he; exact hp
  · refine ADraw.of_sched infoOK (by rfl) (by rfl) sch165_5 (by rfl) ?_
    refine optK_intro (o := (F.un (svS G1 s _ _ o0 o1 o2 p)).obj s) _ hs1 ?_
    refine ⟨cRemoveF hS'.hc hS'.hd (by omega) hok u.id _ (fun F2 h2 h3 => ⟨trivial, ?_⟩), trivial⟩
    refine ret (h F2 G1 _ ⟨h2, h3, hS'.hs, hS'.hu, hS'.h0, hS'.h1, hS'.h2⟩ hoffG ?_ fun e he => hok e (mem_dropId.1 he).1)
    have : (dropId L u.id).length ≤ L.length := List.length_filter_le _ _
    omega
end Go.Proofs
namespace Go.Proofs
open Go Go.V
set_option linter.unusedVariables false
set_option linter.unusedSimpArgs false

theorem setW_set {w : Wld} {l : List Int} {g : Unt → Unt} (hr : risesU w.U) {i : Nat} (hi : i < w.U.length) : ({ ({ w with U := setU l g w.U } : Wld) with U := (setU l g w.U).set i (g w.U[i]) } : Wld) = { w with U := setU (l ++ [w.U[i].id]) g w.U } := by
  rw [setU_set hr hi]

set_option maxHeartbeats 1000000 in
theorem wstop_spec {F G : Store} {xw s p : Nat} {w : Wld} {v : AV} {L : List Ent} {o0 o1 o2 : AV} {c : Cmd} {fv : AV} (hW : Work F G xw s p w v L o0 o1 o2 c fv) (hm : MayF w) (hn : ∀ u ∈ w.U, u.pos.ok) (hc : c.U.length ≤ 64) (R : AV → Store → Prop)
    (h : ∀ S', stE w c ≠ 0 → R (int (stE w c)) S') (h0 : stE w c = 0 → ∀ S', Done S' xw s c fv (stW w c) → R (int 0) S') : ACalls Tryz.prog 120 [ptr xw] (F.un (svS G s w v o0 o1 o2 p)) R := by
  have hU := hm.hU
  have hLl := hW.hL
  refine ACalls.of_body (c := cfg 27) infoOK Tryz.func120 (by rfl) (by rfl) (by rfl) (by rfl) ?_
  refine all_nil ⟨hW.x, hW.s, hW.r⟩ hm.hr (by omega) (by omega) _ (fun he => ?_) (fun he => ?_)
  rotate_left
  · refine AWp.loop (σ := Unit) ⟨fun x => [(4, .av (int (stE w c))), (13, .av (int 0)), (14, .av (int 0))], fun _ => [], fun x st' => True, fun x => 0⟩ infoOK ?_ ?_
    · exact ⟨(), trivial, trivial, ⟨LV.le_refl _, LV.le_refl _, LV.le_refl _, trivial⟩, trivial⟩
    rintro ⟨⟩ st' _
    exact ret (h _ he)
  have hzero := allE_zero he
  have hhe : stE w c = 0 := he
  refine AWp.loop (σ := Nat × Store × Store × List Ent) ⟨fun x => [(0, .av (ptr xw)), (4, .av (int 0)), (12, .av (lst 10 untC (c.U.map (uAt w)))), (13, .av (int (c.U.length : Nat))), (14, .av (int (x.1 : Nat)))], fun _ => [],
    fun x st' => x.1 ≤ c.U.length ∧ st' = x.2.1.un (svS x.2.2.1 s { w with U := setU (c.U.take x.1) rstU w.U } v o0 o1 o2 p) ∧ StandR x.2.1 x.2.2.1 s p { w with U := setU (c.U.take x.1) rstU w.U } v x.2.2.2 o0 o1 o2 ∧ (∀ q, offB v q → x.2.2.1.obj q = G.obj q) ∧ x.2.2.2.length ≤ L.length + x.1 ∧ ∀ e ∈ x.2.2.2, e.2.ok, fun x => c.U.length - x.1⟩ infoOK ?_ ?_
  · refine ⟨(0, F, G, L), trivial, ⟨Nat.zero_le _, ?_, ?_, fun _ _ => rfl, by dsimp only; omega, onField_ok hW.hF hn⟩, ⟨LV.le_refl _, LV.le_refl _, LV.le_refl _, ?_, LV.le_refl _, trivial⟩, trivial⟩
    · dsimp only
      rw [List.take_zero, setU_nil]
    · dsimp only
      rw [List.take_zero, setU_nil]
      exact hW.S
    · have e : (c.U.length : Int) = ((rws untC (c.U.map (uAt w))).length : Int) := by rw [rws_len, List.length_map]
      rw [e]; exact LV.le_refl _
  rintro ⟨k, F1, G1, L1⟩ st' ⟨hk, rfl, hS, hG, hL, hok⟩
  dsimp only at hk hS hG hL hok ⊢
  have hx : (F1.un (svS G1 s { w with U := setU (c.U.take k) rstU w.U } v o0 o1 o2 p)).obj xw = some (.cells (wkC s c fv)) := un_r (by
    show (G1.setObj s _).obj xw = _
    rw [setObj_ne hW.ne, hG xw hW.ox]
    exact hW.hx)
  refine bcd (fun h1 => ?_) (fun h1 => ?_)
  rotate_left
  · have : k = c.U.length := by omega
    subst this
    rw [List.take_length] at hS hx ⊢
    exact ret (h0 hhe _ ⟨v, o0, o1, o2, p, hx, un_r (svS_obj _ _ _ _ _ _ _ _), (svS_rows hS.hs hS.hu).un⟩)
  have hlt : k < c.U.length := by omega
  obtain ⟨i, hi, hf, hid, hu, how, hin⟩ := askE_zero (hzero c.U[k] (List.getElem_mem hlt))
  have hlm : k < (c.U.map (uAt w)).length := by rw [List.length_map]; exact hlt
  refine ⟨k, rfl, optK_intro _ (rws_get hlm) ?_⟩
  have hgm : (c.U.map (uAt w))[k] = w.U[i] := by rw [List.getElem_map, hu]
  rw [hgm]
  refine ADraw.of_sched infoOK (by rfl) (by rfl) sch120_5 (by rfl) ?_
  refine optK_intro (o := (F1.un (svS G1 s _ v o0 o1 o2 p)).obj xw) _ hx ?_
  refine ⟨rest_spec w.U[i] _ _ ⟨(by repeat (first | exact trivial | refine ⟨rfl, ?_⟩ | refine ⟨optK_intro (o := (F1.un (svS G1 s _ v o0 o1 o2 p)).obj xw) _ hx rfl, ?_⟩)), ?_⟩, trivial⟩
  have hi2 : i < (setU (c.U.take k) rstU w.U).length := by rw [setU_len]; exact hi
  refine ⟨put_spec hS hW.os (setU_rises (g := rstU) (fun _ => rfl) hm.hr) (by rw [setU_len]; omega) (by omega) hok hi2 (rstU w.U[i]) (setU_id (g := rstU) (fun _ => rfl) hi) (hn w.U[i] (List.getElem_mem hi)) _ (fun F2 G2 L2 g1 g2 g3 g4 => ⟨trivial, ?_⟩), trivial⟩
  have e5 : c.U.take k ++ [w.U[i].id] = c.U.take (k + 1) := by rw [List.take_succ_eq_append_getElem hlt, hid]
  dsimp only at g1 ⊢
  rw [setU_set hm.hr hi, e5] at g1 ⊢
  refine in64 (by omega) ?_
  refine ⟨(k + 1, F2, G2, L2), ?_, ⟨by dsimp only; omega, rfl, g1, fun q hq => (g2 q hq).trans (hG q hq), by dsimp only; omega, g4⟩, ⟨LV.le_refl _, LV.le_refl _, LV.le_refl _, LV.le_refl _, LV.le_refl _, trivial⟩, trivial⟩
  show c.U.length - (k + 1) < c.U.length - k
  omega

theorem does3 : DoesOK 3 stE stW := by
  intro F G xw s p w v L o0 o1 o2 c hW hm hn hc hp hk R h h0
  have hx := hW.x (F' := F) (q0 := o0) (q1 := o1) (q2 := o2)
  have hok := (Cmd.ok3 hk).1 hc.1
  refine ACalls.of_body (c := cfg 34) infoOK Tryz.func79 (by rfl) (by rfl) (by rfl) (by rfl) ?_
  refine optK_intro (o := (F.un (svS G s w v o0 o1 o2 p)).obj xw) _ hx ?_
  refine bceq (fun c1 => absurd (hk.symm.trans c1) (by decide)) (fun _ => ?_)
  refine bceq (fun c1 => absurd (hk.symm.trans c1) (by decide)) (fun _ => ?_)
  refine bceq (fun _ => ?_) (fun c1 => absurd hk c1)
  refine wstop_spec hW (mayF hm) hn hok.1.2 _ (fun S' he => ret (h S' he)) (fun he S' hd => ret (h0 he S' hd))
end Go.Proofs
namespace Go.Proofs
open Go Go.V
set_option linter.unusedVariables false
set_option linter.unusedSimpArgs false

theorem rfindU_spec (w : Wld) (hU : w.U.length ≤ 1000000) (id : Int) (st : Store) (R : AV → Store → Prop) (h : R (int (idxI (findU w.U id))) st) : ACalls Tryz.prog 40 [.agg (wldC w), int id] st R := rfind_spec w hU id st R h
theorem rfindQ_spec {S : Store} {w : Wld} {v : AV} (hv : RowsQ 10 untC S v w.U) (hU : w.U.length ≤ 1000000) (id : Int) (R : AV → Store → Prop) (h : R (int (idxI (findU w.U id))) S) : ACalls Tryz.prog 40 [.agg (wldV w v), int id] S R :=
  ACalls.read (ys := [.agg (wldC w), int id]) (Q := fun r => r = int (idxI (findU w.U id))) (fun Oth M W vs sto hr => by
    obtain ⟨x, y, rfl, h1, h2⟩ := reads2 hr
    exact Reads.cons (wldQ_borrow hv sto h1) (Reads.cons (mono_borrow h2) Reads.nil)) (rfindU_spec w hU id _ _ rfl) (fun r hr => hr ▸ flat_s _) (fun r hr => hr ▸ h)

theorem rasked_spec (w : Wld) (hU : w.U.length ≤ 1000000) (P id : Int) (st : Store) (R : AV → Store → Prop) (h : R (int (askE w P id)) st) : ACalls Tryz.prog 86 [.agg (wldC w), int P, int id] st R := by
  refine ACalls.of_body (c := cfg 28) infoOK Tryz.func86 (by rfl) (by rfl) (by rfl) (by rfl) ?_
  refine rfindU_spec w hU id _ _ ?_
  refine bcd (fun c1 => ?_) (fun c1 => ?_)
  · cases hf : findU w.U id with
    | none =>
      rw [(askE_none (P := P) hf).1] at h
      exact ret h
    | some i => rw [hf] at c1; exact absurd c1 (by show ¬ ((i : Int) < 0); omega)
  cases hf : findU w.U id with
  | none => rw [hf] at c1; exact absurd (show (-1 : Int) < 0 by decide) c1
  | some i =>
    obtain ⟨hi, e, e2⟩ := uAt_some hf
    rw [askE_some (P := P) hf hi] at h
    refine ⟨i, rfl, optK_intro _ (rws_get hi) ?_⟩
    refine bcne (fun c2 => ?_) (fun c2 => ?_)
    · rw [if_neg c2] at h
      exact ret h
    rw [if_pos c2] at h
    refine ⟨i, rfl, optK_intro _ (rws_get hi) ?_⟩
    refine bcne (fun c3 => ?_) (fun c3 => ?_)
    · rw [if_neg c3] at h
      exact ret h
    · rw [if_pos c3] at h
      exact ret h

theorem rall_spec (w : Wld) (hU : w.U.length ≤ 1000000) (c : Cmd) (hc : c.U.length ≤ 1000000) (st : Store) (R : AV → Store → Prop) (h : R (int (allE (askE w c.P) c.U)) st) : ACalls Tryz.prog 54 [.agg (wldC w), .agg (cmdC c)] st R := by
  refine ACalls.of_body (c := cfg 26) infoOK Tryz.func54 (by rfl) (by rfl) (by rfl) (by rfl) ?_
  refine AWp.loop (σ := Nat) ⟨fun i => [(2, .bx 2 0), (3, .bx 3 0), (5, .av (int (i : Nat)))], fun _ => [(2, wldC w), (3, cmdC c)],
    fun i st' => i ≤ c.U.length ∧ st' = st ∧ ∀ j, (hj : j < c.U.length) → j < i → askE w c.P c.U[j] = 0, fun i => c.U.length - i⟩ infoOK ?_ ?_
  · exact ⟨0, trivial, ⟨Nat.zero_le _, rfl, fun j _ hj => by omega⟩, ⟨LV.le_refl _, LV.le_refl _, LV.le_refl _, trivial⟩, ⟨rfl, rfl, trivial⟩⟩
  rintro i st' ⟨hi, rfl, hall⟩
  refine bcase_intro (fun h1 => ?_) (fun h1 => ?_)
  rotate_left
  · have : i = c.U.length := ge_len h1 hi
    subst this
    rw [allE_none fun j hj => hall j hj hj] at h
    exact ret h
  have hlt := lt_len h1
  refine ADraw.of_sched infoOK (by rfl) (by rfl) sch54_4 (by rfl) ?_
  refine ⟨i, rfl, optK_intro _ (rws_get hlt) ?_⟩
  refine ⟨rasked_spec w hU c.P c.U[i] _ _ ⟨trivial, ?_⟩, trivial⟩
  refine ⟨⟨trivial, ?_⟩, trivial⟩
  refine bcne (fun c1 => ?_) (fun c1 => ?_)
  · rw [allE_some hlt hall c1] at h
    exact ret h
  refine in64 (by omega) ?_
  refine ⟨i + 1, ?_, ⟨by omega, rfl, fun j hj hji => ?_⟩, ⟨LV.le_refl _, LV.le_refl _, LV.le_refl _, trivial⟩, ⟨rfl, rfl, trivial⟩⟩
  · show c.U.length - (i + 1) < c.U.length - i
    omega
  · by_cases e : j = i
    · subst e; exact c1
    · exact hall j hj (by omega)

theorem rallQ_spec {S : Store} {w : Wld} {v : AV} (hv : RowsQ 10 untC S v w.U) (hU : w.U.length ≤ 1000000) (c : Cmd) (hc : c.U.length ≤ 1000000) (R : AV → Store → Prop) (h : R (int (allE (askE w c.P) c.U)) S) : ACalls Tryz.prog 54 [.agg (wldV w v), .agg (cmdC c)] S R :=
  ACalls.read (ys := [.agg (wldC w), .agg (cmdC c)]) (Q := fun r => r = int (allE (askE w c.P) c.U)) (fun Oth M W vs sto hr => by
    obtain ⟨x, y, rfl, h1, h2⟩ := reads2 hr
    exact Reads.cons (wldQ_borrow hv sto h1) (Reads.cons (mono_borrow h2) Reads.nil)) (rall_spec w hU c hc _ _ rfl) (fun r hr => hr ▸ flat_s _) (fun r hr => hr ▸ h)

theorem fld_set {S : Store} {b i j : Nat} {U : List Unt} {J : List AV} {x' : Unt} {y : AV} (ho : S.obj b = some (.cells ((rws untC U).flatten ++ J))) (hi : i < U.length) (hj : j + 1 ≤ 10) (hx : untC x' = splice (untC U[i]) j [y]) : (S.setObj b (.cells (splice ((rws untC U).flatten ++ J) (0 + i * 10 + j) [y]))).obj b = some (.cells ((rws untC (U.set i x')).flatten ++ J)) := by
  rw [setObj_self, Nat.zero_add, splice_rows (f := untC) (k := 10) (x' := x') untC_len hi hj hx]

def zerW0 : List AV := [int 0, int 0, int 0, int 0, int 0, .s (.slice none 0 0), .s (.slice none 0 0), .s (.slice none 0 0)]
theorem findU_set {l : List Int} {g : Unt → Unt} (hg : ∀ u, (g u).id = u.id) (U : List Unt) (id : Int) : findU (setU l g U) id = findU U id := by
  unfold findU setU
  rw [List.findIdx?_map]
  congr 1
  funext u
  simp only [Function.comp]
  split
  · rw [hg]
  · rfl

set_option maxHeartbeats 1000000 in
theorem rapply3_raw (w : Wld) (hw : w.fits) (hn : ∀ u ∈ w.U, u.pos.ok) (hU : w.U.length ≤ 1000000) (c : Cmd) (hc : c.fits) (hK : c.K = 3) : ACalls Tryz.prog 34 [.agg (wldC w), .agg (cmdC c)] Store.empty (DoQ stE stW w c) := by
  refine ACalls.of_body (c := cfg 97 [6] []) infoOK Tryz.func34 (by rfl) (by rfl) (by rfl) (by rfl) ?_
  have bad : (¬ mayP w ∨ ¬ cmdP c ∨ w.players < c.P) → DoQ stE stW w c (.tup [.agg (wldC w), int 1]) Store.empty := fun hb => by
    have he := doE_bad (E := stE) (w := w) (c := c) hb
    exact .inl ⟨by rw [he]; decide, by rw [he]⟩
  refine rmay_spec w hw hn _ _ (fun z hz => ?_)
  refine bcnot ?_
  refine bcase_intro (fun c1 => ?_) (fun c1 => ?_)
  rotate_left
  · exact ret (bad (.inl fun hh => by have := hz.2 hh; rw [this] at c1; cases c1))
  refine command21_specC c hc _ _ (fun zc hzc => ?_)
  refine bcnot ?_
  refine bcase_intro (fun c2 => ?_) (fun c2 => ?_)
  rotate_left
  · exact ret (bad (.inr (.inl fun hh => by have := hzc.2 hh; rw [this] at c2; cases c2)))
  refine bcd (fun c3 => ?_) (fun c3 => ?_)
  · exact ret (bad (.inr (.inr (by omega))))
  have hm := hz.1 c1
  have hcp := hzc.1 c2
  have mf := mayF hm
  have he := doE_ok (E := stE) hm hcp (show c.P ≤ w.players by omega)
  have hok := (Cmd.ok3 hK).1 hcp.1
  have hcU := hok.1.2
  refine copyWorldR_spec w hw hU _ _ (fun v N hv _ => ?_)
  rw [un_empty]
  have hv := hv.q
  have hoff := fun (p : Nat) (hp : Fresh N p) => offB_fresh hv (not_has (fresh_iff.1 hp)).1
  obtain ⟨oa, cap, e, _⟩ := hv.form
  subst e
  refine fun p hp => ?_
  refine storeK_objL (i := ti28) (v := .agg (wldV w (.s (.slice oa w.U.length cap)))) (xs := wldV w (.s (.slice oa w.U.length cap))) (b := p) (o := 0) (l := _) rfl rfl rfl (setObj_self _ _ _) (show 0 + 8 ≤ 8 by decide) ?_
  generalize hS : (N.setObj p _).setObj p _ = S
  have hp2 : S.obj p = some (.cells (wldV w (.s (.slice oa w.U.length cap)))) := by rw [← hS]; exact setObj_self _ _ _
  have hr2 : RowsQ 10 untC S (.s (.slice oa w.U.length cap)) w.U := by rw [← hS]; exact (hv.set (hoff p hp) _).set (hoff p hp) _
  have hofp := hoff p hp
  clear hS
  refine bceq (fun h => absurd (hK.symm.trans h) (by decide)) (fun _ => ?_)
  refine bceq (fun h => absurd (hK.symm.trans h) (by decide)) (fun _ => ?_)
  refine bceq (fun _ => ?_) (fun h => absurd hK h)
  refine optK_intro (o := S.obj p) _ hp2 ?_
  refine rallQ_spec hr2 hU c (by omega) _ ?_
  have hst : allE (askE w c.P) c.U = stE w c := rfl
  rw [hst]
  refine AWp.loop (σ := Nat × Store) ⟨fun x => [(2, .bx 2 0), (3, .bx 3 0), (4, .bx 4 0), (6, .av (ptr p)), (7, .av (int (stE w c))), (8, .av (int (x.1 : Nat)))], fun _ => [(2, wldC w), (3, cmdC c), (4, zerW0)],
    fun x st' => x.1 ≤ c.U.length ∧ (stE w c ≠ 0 → x.1 = 0) ∧ st' = x.2 ∧ x.2.obj p = some (.cells (wldV w (.s (.slice oa w.U.length cap)))) ∧ RowsQ 10 untC x.2 (.s (.slice oa w.U.length cap)) (setU (c.U.take x.1) rstU w.U), fun x => c.U.length - x.1⟩ infoOK ?_ ?_
  · refine ⟨(0, S), trivial, ⟨Nat.zero_le _, fun _ => rfl, rfl, hp2, ?_⟩, ⟨LV.le_refl _, LV.le_refl _, LV.le_refl _, LV.le_refl _, LV.le_refl _, LV.le_refl _, trivial⟩, ⟨rfl, rfl, rfl, trivial⟩⟩
    dsimp only
    rw [List.take_zero, setU_nil]
    exact hr2
  rintro ⟨k, S0⟩ S1 ⟨hk, hk0, rfl, hp1, hr1⟩
  dsimp only at hk hk0 hp1 hr1 ⊢
  have fin : k = c.U.length → stE w c = 0 → DoQ stE stW w c (.tup [.agg (wldV (stW w c) (.s (.slice oa w.U.length cap))), int 0]) S1 := fun e h0 => by
    subst e
    rw [List.take_length] at hr1
    exact .inr ⟨he.trans h0, _, hr1, rfl⟩
  by_cases h0 : stE w c = 0
  rotate_left
  · have hk0 := hk0 h0
    subst hk0
    have out : DoQ stE stW w c (.tup [.agg (wldC w), int (stE w c)]) S1 := .inl ⟨by rw [he]; exact h0, by rw [he]⟩
    refine bcase_intro (fun h1 => ?_) (fun h1 => ?_)
    · refine bceq (fun h2 => absurd h2 h0) (fun _ => ?_)
      refine bcne (fun _ => ?_) (fun h => absurd h h0)
      exact ret out
    · refine bcne (fun _ => ?_) (fun h => absurd h h0)
      exact ret out
  rw [h0]
  refine bcase_intro (fun h1 => ?_) (fun h1 => ?_)
  rotate_left
  · have hkl : k = c.U.length := ge_len h1 hk
    refine optK_intro (o := S1.obj p) _ hp1 ?_
    exact ret (fin hkl h0)
  have hlt := lt_len h1
  obtain ⟨i, hi, hf, hid, hu, how, hin⟩ := askE_zero (allE_zero h0 c.U[k] (List.getElem_mem hlt))
  have hi2 : i < (setU (c.U.take k) rstU w.U).length := by rw [setU_len]; exact hi
  have hf2 : findU (setU (c.U.take k) rstU w.U) c.U[k] = some i := by rw [findU_set (g := rstU) (fun _ => rfl)]; exact hf
  rcases hr1 with (⟨_, hl0⟩ | ⟨b, cap', J, e, ho, hc1, hc2, hc3⟩) | ⟨_, _, _, hl0⟩
  · rw [hl0] at hi2; exact absurd hi2 (Nat.not_lt_zero i)
  rotate_left
  · rw [hl0] at hi2; exact absurd hi2 (Nat.not_lt_zero i)
  simp only [AV.s.injEq, Value.slice.injEq] at e
  obtain ⟨rfl, e7, rfl⟩ := e
  have hcap : 0 < cap := by omega
  have hbp : b ≠ p := hofp b _ _ rfl hcap
  refine ADraw.of_sched infoOK (by rfl) (by rfl) sch34_15 (by rfl) ?_
  refine optK_intro (o := S1.obj p) _ hp1 ?_
  refine optK_intro (o := S1.obj p) _ hp1 ?_
  refine ⟨k, rfl, optK_intro _ (rws_get hlt) ?_⟩
  refine ⟨rfindQ_spec (w := { w with U := setU (c.U.take k) rstU w.U }) (.inl (.inr ⟨b, cap, J, by rw [e7], ho, hc1, hc2, hc3⟩)) (by rw [setU_len]; exact hU) c.U[k] _ ⟨(by repeat (first | exact trivial | refine ⟨rfl, ?_⟩ | refine ⟨⟨k, rfl, optK_intro _ (rws_get hlt) rfl⟩, ?_⟩ | refine ⟨optK_intro (o := S1.obj p) _ hp1 rfl, ?_⟩)), ?_⟩, trivial⟩
  dsimp only
  rw [hf2]
  refine ⟨i, rfl, hi, ?_⟩
  refine ⟨⟨trivial, ?_⟩, trivial⟩
  have hlen : ∀ U2 : List Unt, U2.length = w.U.length → i * 10 + 10 ≤ ((rws untC U2).flatten ++ J).length := fun U2 h => by
    rw [List.length_append, rws_flat_len untC_len]
    omega
  have e8 : (setU (c.U.take k) rstU w.U).length = w.U.length := setU_len _ _ _
  have hl0 := hlen _ e8
  have hidk : (setU (c.U.take k) rstU w.U).set i (rstU (setU (c.U.take k) rstU w.U)[i]) = setU (c.U.take (k + 1)) rstU w.U := by
    have e5 : c.U.take k ++ [w.U[i].id] = c.U.take (k + 1) := by rw [List.take_succ_eq_append_getElem hlt, hid]
    have e6 : rstU ((setU (c.U.take k) rstU w.U)[i]) = rstU w.U[i] := by
      rw [setU_get hi]
      split <;> rfl
    rw [e6, setU_set mf.hr hi, e5]
  generalize hgU : setU (c.U.take k) rstU w.U = U1 at *
  refine storeK_obj (i := ti3) (v := int (-1)) (b := b) (o := 0 + i * 10 + 5) (l := (rws untC U1).flatten ++ J) rfl rfl rfl ho (show 0 + i * 10 + 5 + 1 ≤ _ by omega) ?_
  have q1 := fld_set (x' := { U1[i] with goal := -1 }) (y := int (-1)) (j := 5) ho hi2 (by decide) rfl
  have p1 := (setObj_ne (st := S1) (x := .cells (splice ((rws untC U1).flatten ++ J) (0 + i * 10 + 5) [int (-1)])) (Ne.symm hbp)).trans hp1
  generalize S1.setObj b _ = S2 at q1 p1 ⊢
  have hl1 := hlen (U1.set i { U1[i] with goal := -1 }) (by rw [List.length_set]; exact e8)
  refine storeK_obj (i := ti3) (v := int (-1)) (b := b) (o := 0 + i * 10 + 6) (l := _) rfl rfl rfl q1 (show 0 + i * 10 + 6 + 1 ≤ _ by omega) ?_
  have q2 := fld_set (x' := { U1[i] with goal := -1, next := -1 }) (y := int (-1)) (j := 6) q1 (by rw [List.length_set]; exact hi2) (by decide) (by rw [List.getElem_set_self]; rfl)
  rw [List.set_set] at q2
  have p2 := (setObj_ne (st := S2) (x := .cells (splice ((rws untC (U1.set i { U1[i] with goal := -1 })).flatten ++ J) (0 + i * 10 + 6) [int (-1)])) (Ne.symm hbp)).trans p1
  generalize S2.setObj b _ = S3 at q2 p2 ⊢
  have hl2 := hlen (U1.set i { U1[i] with goal := -1, next := -1 }) (by rw [List.length_set]; exact e8)
  refine storeK_obj (i := ti3) (v := int 0) (b := b) (o := 0 + i * 10 + 7) (l := _) rfl rfl rfl q2 (show 0 + i * 10 + 7 + 1 ≤ _ by omega) ?_
  have q3 := fld_set (x' := { U1[i] with goal := -1, next := -1, stuck := 0 }) (y := int 0) (j := 7) q2 (by rw [List.length_set]; exact hi2) (by decide) (by rw [List.getElem_set_self]; rfl)
  rw [List.set_set] at q3
  have p3 := (setObj_ne (st := S3) (x := .cells (splice ((rws untC (U1.set i { U1[i] with goal := -1, next := -1 })).flatten ++ J) (0 + i * 10 + 7) [int 0])) (Ne.symm hbp)).trans p2
  generalize S3.setObj b _ = S4 at q3 p3 ⊢
  have hl3 := hlen (U1.set i { U1[i] with goal := -1, next := -1, stuck := 0 }) (by rw [List.length_set]; exact e8)
  refine storeK_obj (i := ti3) (v := int 0) (b := b) (o := 0 + i * 10 + 9) (l := _) rfl rfl rfl q3 (show 0 + i * 10 + 9 + 1 ≤ _ by omega) ?_
  have q4 := fld_set (x' := rstU U1[i]) (y := int 0) (j := 9) q3 (by rw [List.length_set]; exact hi2) (by decide) (by rw [List.getElem_set_self]; rfl)
  rw [List.set_set, hidk] at q4
  have p4 := (setObj_ne (st := S4) (x := .cells (splice ((rws untC (U1.set i { U1[i] with goal := -1, next := -1, stuck := 0 })).flatten ++ J) (0 + i * 10 + 9) [int 0])) (Ne.symm hbp)).trans p3
  generalize S4.setObj b _ = S5 at q4 p4 ⊢
  refine in64 (by omega) ?_
  have e9 : (setU (c.U.take (k + 1)) rstU w.U).length = w.U.length := setU_len _ _ _
  refine ⟨(k + 1, S5), ?_, ⟨by dsimp only; omega, fun h => absurd rfl h, rfl, p4, .inl (.inr ⟨b, cap, J, by rw [e9], q4, by rw [e9, ← e8]; exact hc1, by rw [e9, ← e8]; exact hc2, hc3⟩)⟩, ⟨LV.le_refl _, LV.le_refl _, LV.le_refl _, LV.le_refl _, ?_, LV.le_refl _, trivial⟩, ⟨rfl, rfl, rfl, trivial⟩⟩
  · show c.U.length - (k + 1) < c.U.length - k
    omega
  · exact LV.le_refl _

theorem ref3 : RefOK 3 stE stW := fun w hw hn hU c hc hK R h => doQ_froz (rapply3_raw w hw hn hU c hc hK) R h

theorem stW_len (w : Wld) (c : Cmd) (hm : mayP w) (hg : ¬ greatP w) : (stW w c).G.T.length ≤ 1000000 ∧ (stW w c).B.length ≤ 1000000 ∧ (stW w c).U.length ≤ 1000000 := by
  unfold greatP at hg
  unfold stW
  dsimp only
  rw [setU_len]
  omega
end Go.Proofs
namespace Go.Proofs
open Go Go.V
set_option linter.unusedVariables false

theorem applyStops_law (s : Scr) (hn : ∀ u ∈ s.W.U, u.pos.ok) (hf : ∀ c ∈ s.L, c.sized) (st : Store) (R : AV → Store → Prop) (h : R (V.bool true) st) : ACalls Tryz.prog 6 [.agg (scrC s)] st R := by
  refine ACalls.of_body (c := cfg 5) infoOK Tryz.func6 (by rfl) (by rfl) (by rfl) (by rfl) ?_
  refine only23_spec does3 ref3 stW_len wakes23_spec s hn hf _ _ ?_
  exact ret h
end Go.Proofs
