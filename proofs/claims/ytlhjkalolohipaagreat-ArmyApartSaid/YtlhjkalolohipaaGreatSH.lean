/- The ground on which laws of thronglaw21 are proved: contracts of functions and plain lemmas; no condition beyond the row's own. -/
import Derived.Test.YtlhjkalolohipaaGreatSG
namespace Go.Proofs
open Go Go.V
set_option linter.unusedVariables false

theorem numbers_spec {N : Store} {v : AV} {ns : List Int} (hv : Ints N v ns) (hl : ns.length ≤ 1000000000) (R : AV → Store → Prop) (h : R (.tup []) Store.empty) : ACalls Tryz.prog 34 [v] N R := by
  refine ACalls.of_body (c := cfg 15) infoOK Tryz.func34 (by rfl) (by rfl) (by rfl) (by rfl) ?_
  have hemp : ∀ st : Store, st.Has Store.empty := fun st => ⟨fun b x h => (by cases h), fun b x h => (by cases h)⟩
  refine AWp.loop (σ := Nat × List Int) ⟨fun s => [(0, .av v), (2, .av (int (s.1 : Nat)))], fun _ => [], fun s st' => Ints st' v s.2 ∧ s.2.length = ns.length ∧ s.1 ≤ ns.length, fun s => ns.length - s.1⟩ infoOK ?_ ?_
  · exact ⟨(0, ns), trivial, ⟨hv, rfl, Nat.zero_le _⟩, ⟨LV.le_refl _, LV.le_refl _, trivial⟩, trivial⟩
  rintro ⟨i, ms⟩ st' ⟨hm, hml, hi⟩
  dsimp only at hm hml hi ⊢
  rcases ints_cellsR hm with ⟨rfl, rfl⟩ | ⟨b, cap, L, rfl, ho, h1, h2, h3⟩
  · have hi0 : i = 0 := by simp at hml; omega
    subst hi0
    refine ⟨by decide, ?_⟩
    exact appInts (ie := ti3) rfl rfl rfl hm 5 (by simp) (fun b cap L q1 q2 q3 q4 => retHas (AV.le_refl _) (hemp _) h)
  refine bcd (fun c1 => ?_) (fun c1 => ?_)
  · have hlt : i < ms.length := by omega
    refine ⟨i, rfl, hlt, ?_⟩
    refine storeK_obj (i := ti3) (v := int (-99)) (b := b) (o := 0 + i * ti3.size) (l := ms.map aI ++ L) rfl rfl rfl ho (by show 0 + i * 1 + 1 ≤ _; simp; omega) ?_
    refine ⟨⟨by omega, by omega⟩, ?_⟩
    refine ⟨(i + 1, ms.set i (-99)), ?_, ⟨.inr ⟨b, cap, L, by rw [List.length_set], ?_, by rw [List.length_set]; exact h1, by rw [List.length_set]; exact h2, h3⟩, by dsimp only; rw [List.length_set]; exact hml, by dsimp only; omega⟩, ⟨LV.le_refl _, LV.le_refl _, trivial⟩, trivial⟩
    · show ns.length - (i + 1) < ns.length - i
      omega
    · rw [setObj_self]
      congr 2
      unfold splice
      rw [show 0 + i * ti3.size = i from by show 0 + i * 1 = i; omega]
      rw [List.set_eq_take_append_cons_drop, if_pos hlt, List.map_append, List.map_cons, List.take_append_of_le_length (by simp; omega), List.drop_append_of_le_length (by simp; omega), ← List.map_take, ← List.map_drop]
      simp [aI, int]
      rfl
  · refine ⟨by decide, ?_⟩
    exact appInts (ie := ti3) rfl rfl rfl hm 5 (by omega) (fun b cap L q1 q2 q3 q4 => retHas (AV.le_refl _) (hemp _) h)

/-- EqNumbers, where the first stand in an object. -/
theorem eqBorrow {st : Store} {v : AV} {ns : List Int} (hv : Ints st v ns) (hl : ns.length ≤ 1000000000) (ms : List Int) (R : AV → Store → Prop) (h : R (bool (decide (ns = ms))) st) : ACalls Tryz.prog 33 [v, ints ms] st R := by
  refine ACalls.read (ys := [ints ns, ints ms]) (Q := fun r => r = bool (decide (ns = ms))) (fun Oth M w vs sto hr => ?_) (eqNumbers_spec ns ms (by omega) _ _ rfl) (fun r hr => by subst hr; exact flat_s _) (fun r hr => by subst hr; exact h)
  obtain ⟨x, y, rfl, h1, h2⟩ := reads2 hr
  exact Reads.cons (ints_borrow hv sto h1) (Reads.cons (mono_borrow h2) Reads.nil)

theorem Ints.unL {a g : Store} {v : AV} {ns : List Int} (h : Ints a v ns) (hd : Disj a g) : Ints (a.un g) v ns := by
  rcases h with h | ⟨b1, cap, L, h1, h2, h3⟩
  · exact .inl h
  · exact .inr ⟨b1, cap, L, h1, un_l hd h2, h3⟩

end Go.Proofs
namespace Go.Proofs
open Go Go.V
set_option linter.unusedVariables false

def findU (l : List Unt) (id : Int) : Option Nat := l.findIdx? fun u => decide (u.id = id)
def unt0 : Unt := ⟨0, 0, 0, (0, 0), 0, 0, 0, 0, 0⟩

theorem findU_some {l : List Unt} {id : Int} {i : Nat} (h : findU l id = some i) : ∃ hi : i < l.length, l[i].id = id := by
  unfold findU at h
  rw [List.findIdx?_eq_some_iff_getElem] at h
  obtain ⟨h1, h2, _⟩ := h
  exact ⟨h1, of_decide_eq_true h2⟩
theorem findU_none {l : List Unt} {id : Int} (h : findU l id = none) : ∀ u ∈ l, u.id ≠ id := by
  unfold findU at h
  rw [List.findIdx?_eq_none_iff] at h
  exact fun u hu => of_decide_eq_false (h u hu)
theorem findU_mk {l : List Unt} (hr : risesU l) {id : Int} {i : Nat} (hi : i < l.length) (e : l[i].id = id) : findU l id = some i := by
  cases h : findU l id with
  | none => exact absurd e (findU_none h _ (List.getElem_mem hi))
  | some k =>
    obtain ⟨hk, e2⟩ := findU_some h
    by_cases h1 : k < i
    · have := risesU_lt hr h1 hi; omega
    · by_cases h2 : i < k
      · have := risesU_lt hr h2 hk; omega
      · rw [show k = i by omega]
theorem findU_at {l : List Unt} (hr : risesU l) {id : Int} {i : Nat} {z : Bool} (h : z = true ↔ ∃ hi : i < l.length, l[i].id = id) (hat : isAt l id i) : (z = true → findU l id = some i) ∧ (z = false → findU l id = none) := by
  refine ⟨fun hz => ?_, fun hz => ?_⟩
  · obtain ⟨hi, e⟩ := h.1 hz
    exact findU_mk hr hi e
  · cases hf : findU l id with
    | none => rfl
    | some k =>
      obtain ⟨hk, e⟩ := findU_some hf
      have hno : ¬ ∃ hi : i < l.length, l[i].id = id := fun hh => by rw [h.2 hh] at hz; cases hz
      by_cases h1 : k < i
      · have := hat.2.1 k hk h1; omega
      · have hil : i < l.length := by omega
        have := hat.2.2 i hil (Nat.le_refl _)
        by_cases h2 : i < k
        · have := risesU_lt hr h2 hk; omega
        · have e3 : k = i := by omega
          subst e3
          exact absurd ⟨hk, e⟩ hno

theorem in_key (l : List Unt) (hl : l.length ≤ 1000000) (id : Int) (R : AV → Store → Prop) (h : ∀ v N, Ints N v (inOf l id) → R v N) : ACalls Tryz.prog 54 [lst 10 untC l, int id] Store.empty R := by
  refine ACalls.of_body (c := cfg 24) infoOK Tryz.func54 (by rfl) (by rfl) (by rfl) (by rfl) ?_
  refine AWp.loop (σ := Nat × AV × Store) ⟨fun x => [(1, .av (int id)), (4, .av x.2.1), (7, .av (lst 10 untC l)), (8, .av (int (l.length : Nat))), (9, .av (int (x.1 : Nat)))], fun _ => [],
    fun x st' => x.1 ≤ l.length ∧ st' = x.2.2 ∧ Ints x.2.2 x.2.1 (inOf (l.take x.1) id), fun x => l.length - x.1⟩ infoOK ?_ ?_
  · refine ⟨(0, _, Store.empty), trivial, ⟨Nat.zero_le _, rfl, .inl ⟨rfl, rfl⟩⟩, ⟨LV.le_refl _, LV.le_refl _, LV.le_refl _, ?_, LV.le_refl _, trivial⟩, trivial⟩
    rw [← rws_len (f := untC) l]; exact LV.le_refl _
  rintro ⟨i, v, N⟩ st' ⟨hi, rfl, hv⟩
  dsimp only at hi hv ⊢
  refine bcd (fun h1 => ?_) (fun h1 => ?_)
  rotate_left
  · have : i = l.length := by omega
    subst this
    rw [List.take_length] at hv
    exact ret (h _ _ hv)
  have hlt : i < l.length := by omega
  have hs := inOf_snoc hlt id
  have hl1 : (inOf (l.take i) id).length ≤ 1000000 := by
    have h1 := inOf_le (l := l) i id
    have h2 : (inOf l id).length ≤ l.length := by unfold inOf; rw [List.length_map]; exact List.length_filter_le _ _
    omega
  refine ⟨i, rfl, optK_intro _ (rws_get hlt) ?_⟩
  refine bceq (fun c1 => ?_) (fun c1 => ?_)
  · rw [if_pos c1] at hs
    refine ⟨by decide, ?_⟩
    refine appInts (ie := ti3) rfl rfl rfl hv l[i].id (by omega) (fun b cap L q1 q2 q3 q4 => ?_)
    refine in64 (by omega) ?_
    refine ⟨(i + 1, _, _), ?_, ⟨by dsimp only; omega, rfl, ?_⟩, ⟨LV.le_refl _, LV.le_refl _, LV.le_refl _, LV.le_refl _, LV.le_refl _, trivial⟩, trivial⟩
    · show l.length - (i + 1) < l.length - i
      omega
    · dsimp only
      rw [hs]
      exact .inr ⟨b, cap, L, rfl, setObj_self _ _ _, q2, q3, q4⟩
  · rw [if_neg c1, List.append_nil] at hs
    refine in64 (by omega) ?_
    refine ⟨(i + 1, v, st'), ?_, ⟨by dsimp only; omega, rfl, ?_⟩, ⟨LV.le_refl _, LV.le_refl _, LV.le_refl _, LV.le_refl _, LV.le_refl _, trivial⟩, trivial⟩
    · show l.length - (i + 1) < l.length - i
      omega
    · dsimp only
      rw [hs]
      exact hv

theorem disj_emptyL (st : Store) : Disj Store.empty st := fun b hb => (hb.elim (fun h => h rfl) (fun h => h rfl) : False).elim

theorem in_spec (l : List Unt) (hl : l.length ≤ 1000000) (id : Int) (st : Store) (R : AV → Store → Prop) (h : ∀ v N, Ints N v (inOf l id) → Disj N st → R v (N.un st)) : ACalls Tryz.prog 54 [lst 10 untC l, int id] st R := by
  rw [← empty_un st]
  exact ACalls.frame (disj_emptyL st) (in_key l hl id (fun v N => Ints N v (inOf l id)) fun v N hv => hv) fun v N hv hd => h v N hv hd

theorem mayP_facts {w : Wld} (h : mayP w) : risesU w.U ∧ w.U.length ≤ 4096 := ⟨h.1.2.1, h.1.1.2.1.2.2⟩

theorem afind_spec (w : Wld) (hw : w.fits) (hn : ∀ u ∈ w.U, u.pos.ok) (id : Int) (st : Store) (R : AV → Store → Prop)
    (h0 : ¬ mayP w → R (.tup [.agg (untC unt0), int 1]) st) (h1 : mayP w → findU w.U id = none → R (.tup [.agg (untC unt0), int 3]) st)
    (h2 : mayP w → ∀ i, (hi : i < w.U.length) → findU w.U id = some i → R (.tup [.agg (untC w.U[i]), int 0]) st) : ACalls Tryz.prog 32 [.agg (wldC w), int id] st R := by
  refine ACalls.of_body (c := cfg 27) infoOK Tryz.func32 (by rfl) (by rfl) (by rfl) (by rfl) ?_
  refine may_spec w hw hn _ _ (yesno (fun hm => ?_) (fun hm => ret (h0 hm)))
  obtain ⟨hr, hU⟩ := mayP_facts hm
  refine at_spec w.U (by omega) hr id _ _ (fun i hi z hz => ?_)
  obtain ⟨g1, g2⟩ := findU_at hr hz hi
  cases z with
  | false => exact ret (h1 hm (g2 rfl))
  | true =>
    obtain ⟨hil, _⟩ := hz.1 rfl
    refine ⟨i, rfl, optK_intro _ (rws_get hil) ?_⟩
    exact ret (h2 hm i hil (g1 rfl))

theorem ariders_spec (w : Wld) (hw : w.fits) (hn : ∀ u ∈ w.U, u.pos.ok) (id : Int) (st : Store) (R : AV → Store → Prop)
    (h0 : ¬ mayP w → R (.tup [.s (.slice none 0 0), int 1]) st) (h1 : mayP w → findU w.U id = none → R (.tup [.s (.slice none 0 0), int 3]) st)
    (h2 : mayP w → ∀ i, findU w.U id = some i → ∀ v N, Ints N v (inOf w.U id) → Disj N st → R (.tup [v, int 0]) (N.un st)) : ACalls Tryz.prog 27 [.agg (wldC w), int id] st R := by
  refine ACalls.of_body (c := cfg 24) infoOK Tryz.func27 (by rfl) (by rfl) (by rfl) (by rfl) ?_
  refine may_spec w hw hn _ _ (yesno (fun hm => ?_) (fun hm => ret (h0 hm)))
  obtain ⟨hr, hU⟩ := mayP_facts hm
  refine at_spec w.U (by omega) hr id _ _ (fun i hi z hz => ?_)
  obtain ⟨g1, g2⟩ := findU_at hr hz hi
  cases z with
  | false => exact ret (h1 hm (g2 rfl))
  | true =>
    refine in_spec w.U (by omega) id _ _ (fun v N hv hd => ?_)
    exact ret (h2 hm i (g1 rfl) v N hv hd)

theorem rplace_spec (w : Wld) (hm : mayP w) (hn : ∀ u ∈ w.U, u.pos.ok) (id k : Int) (hk : kindP k) (q : Vc) (hq : q.ok) (st : Store) (R : AV → Store → Prop)
    (h : ∀ z : Bool, (z = true ↔ clearP w id k q) → R (V.bool z) st) : ACalls Tryz.prog 20 [.agg (wldC w), int id, int k, .agg (vecC q)] st R := by
  obtain ⟨⟨hh, hok⟩, _⟩ := hm
  have hbl := hh.2.1.2.1
  have hBl : w.B.length ≤ 256 := hbl.1
  have hU : w.U.length ≤ 4096 := hh.2.1.2.2
  refine ACalls.of_body (c := cfg 14) infoOK Tryz.func20 (by rfl) (by rfl) (by rfl) (by rfl) ?_
  exact rclear_spec w hh.2.1.1 (by omega) (fun b hb => ⟨(hbl.2.2.1 b hb).1, (hbl.2.2.1 b hb).2.1⟩) (by omega) hn (fun u hu => (hok.2 u hu).1.1.2.2) id k hk q hq _ _ fun z hz => ret (h z hz)

theorem aplace_key (w : Wld) (hw : w.fits) (hn : ∀ u ∈ w.U, u.pos.ok) (id k : Int) (q : Vc) (hq : q.ok) : ACalls Tryz.prog 21 [.agg (wldC w), int id, int k, .agg (vecC q)] Store.empty fun r _ =>
    (¬ (mayP w ∧ kindP k) ∧ r = .tup [V.bool false, int 1]) ∨ ((mayP w ∧ kindP k) ∧ ∃ z : Bool, (z = true ↔ clearP w id k q) ∧ r = .tup [V.bool z, int 0]) := by
  refine ACalls.of_body (c := cfg 24) infoOK Tryz.func21 (by rfl) (by rfl) (by rfl) (by rfl) ?_
  refine may_spec w hw hn _ _ (yesno (fun hm => ?_) (fun hm => ret (.inl ⟨fun hh => hm hh.1, rfl⟩)))
  refine kindMay_spec k _ _ (yesno (fun hk => ?_) (fun hk => ret (.inl ⟨fun hh => hk hh.2, rfl⟩)))
  have hm2 := hm
  obtain ⟨⟨hh, hok⟩, _⟩ := hm2
  have hbl := hh.2.1.2.1
  have hBl : w.B.length ≤ 256 := hbl.1
  have hU : w.U.length ≤ 4096 := hh.2.1.2.2
  have hbb : ∀ b ∈ w.B, bldP b ∧ onP w.G b := fun b hb => ⟨(hbl.2.2.1 b hb).1, (hbl.2.2.1 b hb).2.1⟩
  refine ADraw.of_sched infoOK (by rfl) (by rfl) sch21_3 (by rfl) ?_
  refine ⟨open_spec w (by omega) hn _ (fun F s p L o0 o1 o2 hS hLl hL => ⟨(by repeat (first | exact trivial | refine ⟨rfl, ?_⟩ | refine ⟨optR (optR (optR (optK_intro _ (setObj_self _ _ _) rfl))), ?_⟩)), ?_⟩), trivial⟩
  refine ⟨splace_spec hS hh.2.1.1 (by omega) hbb hok.1 (by omega) hn hLl (hL hok.1) id k q hq _ (fun z F2 b0 b1 b2 hz hS2 => ⟨trivial, ?_⟩), trivial⟩
  refine ⟨⟨trivial, ?_⟩, trivial⟩
  refine ⟨⟨trivial, ?_⟩, trivial⟩
  exact ret (.inr ⟨⟨hm, hk⟩, z, hz, rfl⟩)

theorem aplace_spec (w : Wld) (hw : w.fits) (hn : ∀ u ∈ w.U, u.pos.ok) (id k : Int) (q : Vc) (hq : q.ok) (st : Store) (R : AV → Store → Prop)
    (h0 : ¬ (mayP w ∧ kindP k) → R (.tup [V.bool false, int 1]) st) (h1 : mayP w → kindP k → ∀ z : Bool, (z = true ↔ clearP w id k q) → R (.tup [V.bool z, int 0]) st) : ACalls Tryz.prog 21 [.agg (wldC w), int id, int k, .agg (vecC q)] st R :=
  lift0 (aplace_key w hw hn id k q hq) st R fun r hr => by
    rcases hr with ⟨g1, rfl⟩ | ⟨⟨g1, g2⟩, z, hz, rfl⟩
    · exact h0 g1
    · exact h1 g1 g2 z hz
end Go.Proofs
