/- The ground on which laws of thronglaw16 are proved: contracts of functions and plain lemmas; no condition beyond the row's own. -/
import Derived.Test.YtlhjkalolohipaaVF
import Derived.Test.YtlhjkalolohipaaSD
import Derived.Test.YtlhjkalolohipaaVC
namespace Go.Proofs
open Go Go.V
set_option linter.unusedVariables false

theorem copyNumbersA_spec (l : List Int) (hl : l.length ≤ 1000000000000) (st : Store) (R : AV → Store → Prop) (h : ∀ v st', App 1 st v (rws intC l) st' → R v st') : ACalls Try.prog 29 [lst 1 intC l] st R := by
  refine ACalls.of_body (c := cfg 19) infoOK Try.func29 (by rfl) (by rfl) (by rfl) (by rfl) ?_
  refine AWp.loop (σ := Nat × AV) ⟨fun s => [(0, .av (lst 1 intC l)), (3, .av s.2), (4, .av (int s.1))], fun _ => [], fun s st' => s.1 ≤ l.length ∧ App 1 st s.2 (rws intC (l.take s.1)) st', fun s => l.length - s.1⟩ infoOK ?_ ?_
  · exact ⟨(0, _), trivial, ⟨Nat.zero_le _, App.start 1 st⟩, ⟨LV.le_refl _, LV.le_refl _, LV.le_refl _, trivial⟩, trivial⟩
  · rintro ⟨i, v⟩ st' ⟨hi, ha⟩
    simp only at hi
    refine bcase_intro (fun h1 => ?_) (fun h1 => ?_)
    · have hlt : i < l.length := lt_len h1
      refine ⟨i, rfl, optK_intro _ (rws_get hlt) ?_⟩
      refine ⟨by decide, ?_⟩
      refine appendK_app (ie := ti3) (rows' := [intC l[i]]) ha ?_ ?_ ⟨?_, ?_⟩ (fun v2 st2 ha2 => ?_)
      · rfl
      · rfl
      · simp [rws_len, ti3]; omega
      · simp [rws_len]; omega
      · refine ⟨⟨by omega, by omega⟩, ?_⟩
        refine ⟨(i + 1, v2), ?_, ⟨hlt, ?_⟩, ⟨LV.le_refl _, LV.le_refl _, LV.le_refl _, trivial⟩, trivial⟩
        · show l.length - (i + 1) < l.length - i
          omega
        · rw [← rws_snoc hlt]; exact ha2
    · have hge : i = l.length := ge_len h1 hi
      subst hge
      rw [List.take_length] at ha
      exact ret (h v st' ha)

theorem copyVecsA_spec (l : List Vc) (hl : l.length ≤ 1000000000000) (st : Store) (R : AV → Store → Prop) (h : ∀ v st', App 2 st v (rws vecC l) st' → R v st') : ACalls Try.prog 30 [lst 2 vecC l] st R := by
  refine ACalls.of_body (c := cfg 19) infoOK Try.func30 (by rfl) (by rfl) (by rfl) (by rfl) ?_
  refine AWp.loop (σ := Nat × AV) ⟨fun s => [(0, .av (lst 2 vecC l)), (3, .av s.2), (4, .av (int s.1))], fun _ => [], fun s st' => s.1 ≤ l.length ∧ App 2 st s.2 (rws vecC (l.take s.1)) st', fun s => l.length - s.1⟩ infoOK ?_ ?_
  · exact ⟨(0, _), trivial, ⟨Nat.zero_le _, App.start 2 st⟩, ⟨LV.le_refl _, LV.le_refl _, LV.le_refl _, trivial⟩, trivial⟩
  · rintro ⟨i, v⟩ st' ⟨hi, ha⟩
    simp only at hi
    refine bcase_intro (fun h1 => ?_) (fun h1 => ?_)
    · have hlt : i < l.length := lt_len h1
      refine ⟨i, rfl, optK_intro _ (rws_get hlt) ?_⟩
      refine ⟨by decide, ?_⟩
      refine appendK_app (ie := ti27) (rows' := [vecC l[i]]) ha ?_ ?_ ⟨?_, ?_⟩ (fun v2 st2 ha2 => ?_)
      · rfl
      · rfl
      · simp [rws_len, ti27]; omega
      · simp [rws_len]; omega
      · refine ⟨⟨by omega, by omega⟩, ?_⟩
        refine ⟨(i + 1, v2), ?_, ⟨hlt, ?_⟩, ⟨LV.le_refl _, LV.le_refl _, LV.le_refl _, trivial⟩, trivial⟩
        · show l.length - (i + 1) < l.length - i
          omega
        · rw [← rws_snoc hlt]; exact ha2
    · have hge : i = l.length := ge_len h1 hi
      subst hge
      rw [List.take_length] at ha
      exact ret (h v st' ha)

theorem eqNumbers_spec (a b : List Int) (ha : a.length ≤ 1000000000000) (st : Store) (R : AV → Store → Prop) (h : R (bool (decide (a = b))) st) : ACalls Try.prog 15 [lst 1 intC a, lst 1 intC b] st R := by
  refine ACalls.of_body (c := cfg 26) infoOK Try.func15 (by rfl) (by rfl) (by rfl) (by rfl) ?_
  refine bcase_intro (fun h1 => ?_) (fun h1 => ?_)
  · have : a ≠ b := fun h2 => ne_len h1 (by rw [h2])
    rw [show decide (a = b) = false by simp [this]] at h
    exact ⟨_, st, AV.le_refl _, Store.Has.refl st, h⟩
  · have hl : a.length = b.length := eq_len h1
    refine AWp.loop (σ := Nat) ⟨fun i => [(0, .av (lst 1 intC a)), (1, .av (lst 1 intC b)), (5, .av (int i))], fun _ => [], fun i st' => i ≤ a.length ∧ a.take i = b.take i ∧ st' = st, fun i => a.length - i⟩ infoOK ?_ ?_
    · exact ⟨0, trivial, ⟨Nat.zero_le _, rfl, rfl⟩, ⟨LV.le_refl _, LV.le_refl _, LV.le_refl _, trivial⟩, trivial⟩
    · rintro i st' ⟨hi, heq, hst⟩
      refine bcase_intro (fun h2 => ?_) (fun h2 => ?_)
      · have hlt : i < a.length := lt_len h2
        have hltb : i < b.length := by omega
        refine ADraw.of_sched infoOK (by rfl) (by rfl) sch15_6 (by rfl) ?_
        refine ⟨i, rfl, optK_intro _ (rws_get hlt) ?_⟩
        refine ⟨i, rfl, optK_intro _ (rws_get hltb) ?_⟩
        refine bcase_intro (fun h3 => ?_) (fun h3 => ?_)
        · have hne : a[i] ≠ b[i] := by
            intro h4
            rw [h4] at h3
            simp at h3
          have : a ≠ b := by
            intro h4
            subst h4
            exact hne rfl
          rw [show decide (a = b) = false by simp [this]] at h
          subst hst
          exact ⟨_, st', AV.le_refl _, Store.Has.refl st', h⟩
        · refine ⟨⟨by omega, by omega⟩, ?_⟩
          refine ⟨i + 1, ?_, ⟨hlt, ?_, hst⟩, ⟨LV.le_refl _, LV.le_refl _, LV.le_refl _, trivial⟩, trivial⟩
          · show a.length - (i + 1) < a.length - i
            omega
          · rw [List.take_succ_eq_append_getElem hlt, List.take_succ_eq_append_getElem hltb, heq]
            have : a[i] = b[i] := by simpa using h3
            rw [this]
      · have hge : i = a.length := ge_len h2 hi
        subst hge hst
        have : a = b := by
          rw [List.take_length, hl, List.take_length] at heq
          exact heq
        rw [show decide (a = b) = true by simp [this]] at h
        exact ⟨_, st', AV.le_refl _, Store.Has.refl st', h⟩


theorem in_spec (l : List Int) (hl : l.length ≤ 1000000000000) (n : Int) (st : Store) (R : AV → Store → Prop) (h : R (int (idxI (l.findIdx? fun x => n == x))) st) : ACalls Try.prog 28 [ints l, int n] st R := by
  refine ACalls.of_body (c := cfg 19) infoOK Try.func28 (by rfl) (by rfl) (by rfl) (by rfl) ?_
  refine AWp.loop (σ := Nat) ⟨fun i => [(0, .av (ints l)), (1, .av (int n)), (5, .av (int (i : Nat)))], fun _ => [], fun i st' => st' = st ∧ i ≤ l.length ∧ ∀ j (hj : j < i) (hl : j < l.length), n ≠ l[j], fun i => l.length - i⟩ infoOK ?_ ?_
  · exact ⟨0, trivial, ⟨rfl, Nat.zero_le _, fun j hj => (by omega)⟩, ⟨LV.le_refl _, LV.le_refl _, LV.le_refl _, trivial⟩, trivial⟩
  rintro i st' ⟨rfl, hi, hno⟩
  refine bcase_intro (fun h1 => ?_) (fun h1 => ?_)
  · have hlt : i < l.length := lt_len h1
    refine ⟨i, rfl, optK_intro _ (rws_get hlt) ?_⟩
    refine bceq (fun h2 => ?_) (fun h2 => ?_)
    · refine ret ?_
      have : l.findIdx? (fun x => n == x) = some i := by
        rw [List.findIdx?_eq_some_iff_getElem]
        exact ⟨hlt, by simp [h2], fun j hj => by simpa using hno j hj (by omega)⟩
      rw [this] at h
      exact h
    · refine ⟨⟨by omega, by omega⟩, ?_⟩
      refine ⟨i + 1, ?_, ⟨rfl, hlt, fun j hj hl => ?_⟩, ⟨LV.le_refl _, LV.le_refl _, LV.le_refl _, trivial⟩, trivial⟩
      · show l.length - (i + 1) < l.length - i
        omega
      · by_cases hji : j = i
        · subst hji; exact fun e => h2 e.symm
        · exact hno j (by omega) hl
  · have hge : i = l.length := ge_len h1 hi
    subst hge
    have : l.findIdx? (fun x => n == x) = none := by
      rw [List.findIdx?_eq_none_iff]
      intro x hx
      obtain ⟨j, hj, rfl⟩ := List.getElem_of_mem hx
      simpa using hno j hj hj
    rw [this] at h
    exact ret h
end Go.Proofs
namespace Go.Proofs
open Go Go.V
set_option linter.unusedVariables false

theorem findIdx_lt {α : Type} {q : α → Bool} {l : List α} {i : Nat} (h : l.findIdx? q = some i) : i < l.length := by
  obtain ⟨e, h1, _⟩ := findIdx_get h
  exact (List.getElem?_eq_some_iff.1 h1).1

theorem find_isSome {α : Type} {q : α → Bool} {l : List α} {i : Nat} (h : l.findIdx? q = some i) : (l.find? q).isSome = true := by
  obtain ⟨e, _, _, h1⟩ := findIdx_get h
  rw [h1]; rfl

theorem take_drop0 {α : Type} {f : α → List AV} (l : List α) (i : Nat) : ((rws f l).take i).drop 0 = rws f (l.take i) := by rw [List.drop_zero, rws_take]
theorem take_all {α : Type} {f : α → List AV} (l : List α) (i : Nat) : ((rws f l).take (rws f l).length).drop i = rws f (l.drop i) := by rw [List.take_length, rws_drop]

set_option maxHeartbeats 1000000 in
theorem rRemove_spec (rb : Nat) (m : List Ent) (hm : Rises m) (hl : m.length ≤ 1000000000) (id : Int) (R : AV → Store → Prop) (h : R (bool (m.find? (atId id)).isSome) (refS rb (dropId m id))) :
    ACalls Try.prog 12 [ptr rb, int id] (refS rb m) R := by
  refine ACalls.post (R := fun r st' => r = bool (m.find? (atId id)).isSome ∧ st'.Le (refS rb (dropId m id))) ?_ (Store.Le.refl _) (fun r st' hh => ⟨r, _, AV.le_refl _, hh.2, hh.1 ▸ h⟩)
  have hil := idsOf_len m
  have hpl := psOf_len m
  refine ACalls.of_body (c := cfg 54) infoOK Try.func12 (by rfl) (by rfl) (by rfl) (by rfl) ?_
  refine optK_intro _ (refS_obj rb m) ?_
  refine in_spec (idsOf m) (by omega) id _ _ ?_
  rw [findIdx_ids]
  cases hf : m.findIdx? (atId id) with
  | none =>
    have hnone := find_of_none hf
    refine ret ⟨by rw [hnone]; rfl, ?_⟩
    rw [dropId_none hnone]
    exact Store.Le.refl _
  | some i =>
    dsimp only [idxI]
    have hlt := findIdx_lt hf
    obtain ⟨e, hei, heq, _⟩ := findIdx_get hf
    have hid : id = e.1 := by simpa [atId] using heq
    have hdrop : dropId m id = m.take i ++ m.drop (i + 1) := by rw [hid, ← eraseIdx_drop hm.nodup hei, List.eraseIdx_eq_take_drop_succ]
    refine ADraw.of_sched infoOK (by rfl) (by rfl) sch12_4 (by rfl) ?_
    refine optK_intro (o := (refS rb m).obj rb) _ (refS_obj rb m) ?_
    refine ⟨0, i, rfl, rfl, Nat.zero_le _, by rw [rws_len]; omega, ?_⟩
    refine optK_intro (o := (refS rb m).obj rb) _ (refS_obj rb m) ?_
    refine ⟨0, i, rfl, rfl, Nat.zero_le _, by rw [rws_len]; omega, ?_⟩
    rw [take_drop0, take_drop0]
    refine ⟨copyNumbersA_spec ((idsOf m).take i) (by simp; omega) _ _ (fun v1 st1 ha1 => ⟨?_, ?_⟩), trivial⟩
    · repeat (first | exact trivial | refine ⟨rfl, ?_⟩ | refine ⟨optK_intro (o := st1.obj rb) _ (by rw [ha1.obj]; exact refS_obj rb m) rfl, ?_⟩)
    refine ⟨copyVecsA_spec ((psOf m).take i) (by simp; omega) _ _ (fun v2 st2 ha2 => ⟨(by repeat (first | exact trivial | refine ⟨rfl, ?_⟩ | refine ⟨optR (optR (optR (optK_intro _ (setObj_self _ _ _) rfl))), ?_⟩)), ?_⟩), trivial⟩
    refine ⟨⟨(by repeat (first | exact trivial | refine ⟨rfl, ?_⟩ | refine ⟨optR (optR (optR (optK_intro _ (setObj_self _ _ _) rfl))), ?_⟩)), ?_⟩, trivial⟩
    refine ⟨⟨(by repeat (first | exact trivial | refine ⟨rfl, ?_⟩ | refine ⟨optR (optR (optR (optK_intro _ (setObj_self _ _ _) rfl))), ?_⟩)), ?_⟩, trivial⟩
    have o2 : st2.obj rb = some (.cells (refL m)) := by rw [ha2.obj, ha1.obj]; exact refS_obj rb m
    refine optK_intro (o := st2.obj rb) _ o2 ?_
    refine ⟨⟨by omega, by omega⟩, ?_⟩
    refine ⟨i + 1, (rws intC (idsOf m)).length, by simp, rfl, by rw [rws_len]; omega, Nat.le_refl _, ?_⟩
    obtain ⟨st3, ha2', ha1'⟩ := ha1.swap ha2
    refine appendK_app (ie := ti3) (rows' := rws intC ((idsOf m).drop (i + 1))) ha1' rfl (by rw [← take_all]; rfl) ⟨by simp [rws_len, ti3]; omega, by simp [rws_len]; omega⟩ (fun v3 st4 ha3 => ?_)
    have o4 : st4.obj rb = some (.cells (refL m)) := by rw [ha3.obj, ha2'.obj]; exact refS_obj rb m
    refine storeK_obj (i := ti28) (v := v3) (b := rb) (o := 0) (l := refL m) ha3.cells ha3.one rfl o4 (by show 0 + 1 ≤ 2; omega) ?_
    obtain ⟨st6, ha3', ha2''⟩ := ha2'.swap ha3
    have o6 : st6.obj rb ≠ none := by rw [ha3'.obj, refS_obj]; simp
    have ha2s := ha2''.setAny (y := .cells (splice (refL m) 0 [v3])) o6
    refine optK_intro (o := Store.obj (Store.setObj st4 rb _) rb) _ (setObj_self _ _ _) ?_
    refine ⟨⟨by omega, by omega⟩, ?_⟩
    refine ⟨i + 1, (rws vecC (psOf m)).length, by simp, rfl, by rw [rws_len]; omega, Nat.le_refl _, ?_⟩
    refine appendK_app (ie := ti27) (rows' := rws vecC ((psOf m).drop (i + 1))) ha2s rfl (by rw [← take_all]; rfl) ⟨by simp [rws_len, ti27]; omega, by simp [rws_len]; omega⟩ (fun v4 st7 ha4 => ?_)
    have o7 : st7.obj rb = some (.cells (splice (refL m) 0 [v3])) := by rw [ha4.obj]; exact setObj_self _ _ _
    refine storeK_obj (i := ti34) (v := v4) (b := rb) (o := 1) (l := splice (refL m) 0 [v3]) ha4.cells ha4.one rfl o7 (by show 1 + 1 ≤ 2; omega) ?_
    refine ret ⟨by rw [find_isSome hf]; rfl, ?_⟩
    refine refS_le (v1 := v3) (v2 := v4) (setObj_self _ _ _) ?_ ?_
    · have := ha3.le
      rw [rws_app] at this
      rw [hdrop, idsOf_app, ← idsOf_take, ← idsOf_drop]
      exact this
    · have := ha4.le
      rw [rws_app] at this
      rw [hdrop, psOf_app, ← psOf_take, ← psOf_drop]
      exact this

theorem rAt_spec (rb : Nat) (m : List Ent) (hl : m.length ≤ 1000000000) (id : Int) (R : AV → Store → Prop)
    (h : R (.tup [.agg (vecC ((m.find? (atId id)).elim (0, 0) (·.2))), bool (m.find? (atId id)).isSome]) (refS rb m)) : ACalls Try.prog 14 [ptr rb, int id] (refS rb m) R := by
  have hil := idsOf_len m
  refine ACalls.of_body (c := cfg 23) infoOK Try.func14 (by rfl) (by rfl) (by rfl) (by rfl) ?_
  refine optK_intro _ (refS_obj rb m) ?_
  refine in_spec (idsOf m) (by omega) id _ _ ?_
  rw [findIdx_ids]
  cases hf : m.findIdx? (atId id) with
  | none =>
    rw [find_of_none hf] at h
    exact ret h
  | some i =>
    dsimp only [idxI]
    have hlt := findIdx_lt hf
    obtain ⟨e, hei, heq, hfe⟩ := findIdx_get hf
    rw [hfe] at h
    refine optK_intro _ (refS_obj rb m) ?_
    have hpi : (psOf m)[i]'(by rw [psOf_len]; exact hlt) = e.2 := by
      have := (List.getElem?_eq_some_iff.1 hei).2
      simp [psOf, this]
    refine ⟨i, rfl, optK_intro _ (rws_get (by rw [psOf_len]; exact hlt)) ?_⟩
    rw [hpi]
    exact ret h

set_option maxHeartbeats 1000000 in
theorem rNear_spec (rb : Nat) (m : List Ent) (hl : m.length ≤ 1000000000) (hok : ∀ e ∈ m, e.2.ok) {q : Vc} (hq : q.ok) {r : Int} (hr : InI64 r) (R : AV → Store → Prop)
    (h : R (ints (idsOf (m.filter fun e => near q e.2 r))) (refS rb m)) : ACalls Try.prog 16 [ptr rb, .agg (vecC q), int r] (refS rb m) R := by
  have hil := idsOf_len m
  have hpl := psOf_len m
  refine ACalls.of_body (c := cfg 39) infoOK Try.func16 (by rfl) (by rfl) (by rfl) (by rfl) ?_
  refine AWp.loop (σ := Nat × AV) ⟨fun s => [(0, .av (ptr rb)), (2, .av (int r)), (4, .bx 4 0), (7, .av s.2), (8, .av (int (s.1 : Nat)))], fun _ => [(4, vecC q)],
    fun s st' => s.1 ≤ m.length ∧ App 1 (refS rb m) s.2 (rws intC (idsOf ((m.take s.1).filter fun e => near q e.2 r))) st', fun s => m.length - s.1⟩ infoOK ?_ ?_
  · exact ⟨(0, _), trivial, ⟨Nat.zero_le _, App.start 1 _⟩, ⟨LV.le_refl _, LV.le_refl _, LV.le_refl _, LV.le_refl _, LV.le_refl _, trivial⟩, ⟨rfl, trivial⟩⟩
  rintro ⟨i, v⟩ st' ⟨hi, ha⟩
  dsimp only at hi ha ⊢
  have o1 : st'.obj rb = some (.cells (refL m)) := by rw [ha.obj]; exact refS_obj rb m
  refine optK_intro _ o1 ?_
  refine bcase_intro (fun h1 => ?_) (fun h1 => ?_)
  · have hlt : i < m.length := by have := lt_len h1; omega
    refine ADraw.of_sched infoOK (by rfl) (by rfl) sch16_5 (by rfl) ?_
    refine optK_intro (o := st'.obj rb) _ o1 ?_
    refine ⟨i, rfl, optK_intro _ (rws_get (by rw [psOf_len]; exact hlt)) ?_⟩
    have hpi : (psOf m)[i]'(by rw [psOf_len]; exact hlt) = m[i].2 := by simp [psOf]
    have hii : (idsOf m)[i]'(by rw [idsOf_len]; exact hlt) = m[i].1 := by simp [idsOf]
    rw [hpi]
    refine ⟨rwithin_spec q m[i].2 r hq (hok _ (List.getElem_mem hlt)) hr _ _ ⟨trivial, ?_⟩, trivial⟩
    have hfl : ((m.take i).filter fun e => near q e.2 r).length ≤ m.length := Nat.le_trans (List.length_filter_le _ _) (by simp; omega)
    cases hn : near q m[i].2 r with
    | false =>
      refine ⟨⟨by omega, by omega⟩, ?_⟩
      refine ⟨(i + 1, v), ?_, ⟨hlt, ?_⟩, ⟨LV.le_refl _, LV.le_refl _, LV.le_refl _, LV.le_refl _, LV.le_refl _, trivial⟩, ⟨rfl, trivial⟩⟩
      · show m.length - (i + 1) < m.length - i
        omega
      · show App 1 _ v (rws intC (idsOf ((m.take (i + 1)).filter fun e => near q e.2 r))) st'
        rw [List.take_succ_eq_append_getElem hlt, List.filter_append, List.filter_cons_of_neg (by simp [hn]), List.filter_nil, List.append_nil]
        exact ha
    | true =>
      refine optK_intro (o := st'.obj rb) _ o1 ?_
      refine ⟨i, rfl, optK_intro _ (rws_get (by rw [idsOf_len]; exact hlt)) ?_⟩
      rw [hii]
      refine ⟨by decide, ?_⟩
      refine appendK_app (ie := ti3) (rows' := [[int m[i].1]]) ha rfl rfl ⟨by simp [rws_len, idsOf_len, ti3]; omega, by simp [rws_len, idsOf_len]; omega⟩ (fun v2 st2 ha2 => ?_)
      refine ⟨⟨by omega, by omega⟩, ?_⟩
      refine ⟨(i + 1, v2), ?_, ⟨hlt, ?_⟩, ⟨LV.le_refl _, LV.le_refl _, LV.le_refl _, LV.le_refl _, LV.le_refl _, trivial⟩, ⟨rfl, trivial⟩⟩
      · show m.length - (i + 1) < m.length - i
        omega
      · show App 1 _ v2 (rws intC (idsOf ((m.take (i + 1)).filter fun e => near q e.2 r))) st2
        rw [List.take_succ_eq_append_getElem hlt, List.filter_append, List.filter_cons_of_pos (by simp [hn]), List.filter_nil, idsOf_app, ← rws_app]
        exact ha2
  · have hge : i = m.length := by have := ge_len h1 (by omega); omega
    subst hge
    rw [List.take_length] at ha
    exact retHas ha.le ha.has h

set_option maxHeartbeats 1000000 in
theorem rPut_spec (rb : Nat) (m : List Ent) (hm : Rises m) (hl : m.length ≤ 1000000000) (id : Int) (pos : Vc) (R : AV → Store → Prop)
    (h : ∀ m', Rises m' → (∀ e, e ∈ m' ↔ e = (id, pos) ∨ e ∈ dropId m id) → R (.tup []) (refS rb m')) :
    ACalls Try.prog 18 [ptr rb, int id, .agg (vecC pos)] (refS rb m) R := by
  refine ACalls.post (R := fun r st' => r = .tup [] ∧ ∃ m', Rises m' ∧ (∀ e, e ∈ m' ↔ e = (id, pos) ∨ e ∈ dropId m id) ∧ st'.Le (refS rb m')) ?_ (Store.Le.refl _) (fun r st' ⟨h1, m', h2, h3, h4⟩ => ⟨r, _, AV.le_refl _, h4, h1 ▸ h m' h2 h3⟩)
  refine ACalls.of_awp (c := cfg 74) infoOK Try.func18 (by rfl) (by rfl) (by rfl) (by rfl) ?_
  refine AWp.seq (AWp.of_vc infoOK ?_)
  refine AWp.seq (AWp.of_vc infoOK ?_)
  refine rRemove_spec rb m hm hl id _ ?_
  have hdl : (dropId m id).length ≤ m.length := dropId_len m id
  have hmr := rises_drop hm id
  have hdn := @dropId_no m id
  generalize dropId m id = m1 at *
  have hil := idsOf_len m1
  have hpl := psOf_len m1
  refine AWp.seq (AWp.of_vc infoOK ?_)
  refine AWp.meet (σ := Nat) ⟨fun i => [(0, .av (ptr rb)), (1, .av (int id)), (5, .bx 5 0), (6, .av (int (i : Nat)))], fun _ => [(5, vecC pos)],
    fun i st' => st' = refS rb m1 ∧ i ≤ m1.length ∧ (∀ j (hj : j < i) (hl : j < m1.length), m1[j].1 < id) ∧ ∀ hl : i < m1.length, ¬ m1[i].1 < id⟩ infoOK ?_ ?_
  · refine AWp.loop (σ := Nat) ⟨fun i => [(0, .av (ptr rb)), (1, .av (int id)), (5, .bx 5 0), (6, .av (int (i : Nat)))], fun _ => [(5, vecC pos)],
      fun i st' => st' = refS rb m1 ∧ i ≤ m1.length ∧ ∀ j (hj : j < i) (hl : j < m1.length), m1[j].1 < id, fun i => m1.length - i⟩ infoOK ?_ ?_
    · exact ⟨0, trivial, ⟨rfl, Nat.zero_le _, fun j hj => (by omega)⟩, ⟨LV.le_refl _, LV.le_refl _, LV.le_refl _, LV.le_refl _, trivial⟩, ⟨rfl, trivial⟩⟩
    rintro i st' ⟨rfl, hi, hlow⟩
    refine optK_intro _ (refS_obj rb m1) ?_
    refine bcase_intro (fun h1 => ?_) (fun h1 => ?_)
    · have hlt : i < m1.length := by have := lt_len h1; omega
      have hii : (idsOf m1)[i]'(by rw [idsOf_len]; exact hlt) = m1[i].1 := by simp [idsOf]
      refine optK_intro _ (refS_obj rb m1) ?_
      refine ⟨i, rfl, optK_intro _ (rws_get (by rw [idsOf_len]; exact hlt)) ?_⟩
      rw [hii]
      refine bcd (fun c1 => ?_) (fun c1 => ?_)
      · refine ⟨⟨by omega, by omega⟩, ?_⟩
        refine ⟨i + 1, ?_, ⟨rfl, hlt, fun j hj hl => ?_⟩, ⟨LV.le_refl _, LV.le_refl _, LV.le_refl _, LV.le_refl _, trivial⟩, ⟨rfl, trivial⟩⟩
        · show m1.length - (i + 1) < m1.length - i
          omega
        · by_cases hji : j = i
          · subst hji; exact c1
          · exact hlow j (by omega) hl
      · exact ⟨i, ⟨rfl, hi, hlow, fun _ => c1⟩, ⟨LV.le_refl _, LV.le_refl _, LV.le_refl _, LV.le_refl _, trivial⟩, ⟨rfl, trivial⟩⟩
    · have hge : i = m1.length := by have := ge_len h1 (by omega); omega
      exact ⟨i, ⟨rfl, hi, hlow, fun hl => (by omega)⟩, ⟨LV.le_refl _, LV.le_refl _, LV.le_refl _, LV.le_refl _, trivial⟩, ⟨rfl, trivial⟩⟩
  rintro i st' ⟨rfl, hi, hlow, hhigh⟩
  refine AWp.of_vc infoOK ?_
  refine ADraw.of_sched infoOK (by rfl) (by rfl) sch18_5 (by rfl) ?_
  refine optK_intro (o := (refS rb m1).obj rb) _ (refS_obj rb m1) ?_
  refine ⟨0, i, rfl, rfl, Nat.zero_le _, by rw [rws_len]; omega, ?_⟩
  refine ⟨by decide, ?_⟩
  refine optK_intro (o := (refS rb m1).obj rb) _ (refS_obj rb m1) ?_
  refine ⟨0, i, rfl, rfl, Nat.zero_le _, by rw [rws_len]; omega, ?_⟩
  refine ⟨by decide, ?_⟩
  rw [take_drop0, take_drop0]
  refine ⟨copyNumbersA_spec ((idsOf m1).take i) (by simp; omega) _ _ (fun v1 st1 ha1 => ⟨?_, ?_⟩), trivial⟩
  · repeat (first | exact trivial | refine ⟨rfl, ?_⟩ | refine ⟨optK_intro (o := st1.obj rb) _ (by rw [ha1.obj]; exact refS_obj rb m1) rfl, ?_⟩)
  refine ⟨appendK_app (ie := ti3) (rows' := [[int id]]) ha1 rfl rfl ⟨by simp [rws_len, ti3]; omega, by simp [rws_len]; omega⟩ (fun v2 st2 ha2 => ⟨?_, ?_⟩), trivial⟩
  · repeat (first | exact trivial | refine ⟨rfl, ?_⟩ | refine ⟨optK_intro (o := st2.obj rb) _ (by rw [ha2.obj]; exact refS_obj rb m1) rfl, ?_⟩)
  have o2 : st2.obj rb = some (.cells (refL m1)) := by rw [ha2.obj]; exact refS_obj rb m1
  refine ⟨copyVecsA_spec ((psOf m1).take i) (by simp; omega) _ _ (fun v3 st3 ha3 => ⟨?_, ?_⟩), trivial⟩
  · repeat (first | exact trivial | refine ⟨rfl, ?_⟩)
  refine ⟨appendK_app (ie := ti27) (rows' := [vecC pos]) ha3 rfl rfl ⟨by simp [rws_len, ti27]; omega, by simp [rws_len]; omega⟩ (fun v4 st4 ha4 => ⟨?_, ?_⟩), trivial⟩
  · repeat (first | exact trivial | refine ⟨rfl, ?_⟩)
  refine ⟨⟨(by repeat (first | exact trivial | refine ⟨rfl, ?_⟩ | refine ⟨optR (optR (optR (optK_intro _ (setObj_self _ _ _) rfl))), ?_⟩)), ?_⟩, trivial⟩
  refine ⟨⟨(by repeat (first | exact trivial | refine ⟨rfl, ?_⟩ | refine ⟨optR (optR (optR (optK_intro _ (setObj_self _ _ _) rfl))), ?_⟩)), ?_⟩, trivial⟩
  have o4 : st4.obj rb = some (.cells (refL m1)) := by rw [ha4.obj]; exact o2
  obtain ⟨st5, ha4', ha2'⟩ := ha2.swap ha4
  refine optK_intro (o := st4.obj rb) _ o4 ?_
  refine ⟨i, (rws intC (idsOf m1)).length, rfl, rfl, by rw [rws_len]; omega, Nat.le_refl _, ?_⟩
  refine appendK_app (ie := ti3) (rows' := rws intC ((idsOf m1).drop i)) ha2' rfl (by rw [← take_all]; rfl) ⟨by simp [rws_len, ti3]; omega, by simp [rws_len]; omega⟩ (fun v5 st6 ha5 => ?_)
  have o6 : st6.obj rb = some (.cells (refL m1)) := by rw [ha5.obj, ha4'.obj]; exact refS_obj rb m1
  refine storeK_obj (i := ti28) (v := v5) (b := rb) (o := 0) (l := refL m1) ha5.cells ha5.one rfl o6 (by show 0 + 1 ≤ 2; omega) ?_
  obtain ⟨st7, ha5', ha4''⟩ := ha4'.swap ha5
  have o7 : st7.obj rb ≠ none := by rw [ha5'.obj, refS_obj]; simp
  have ha4s := ha4''.setAny (y := .cells (splice (refL m1) 0 [v5])) o7
  refine optK_intro (o := Store.obj (Store.setObj st6 rb _) rb) _ (setObj_self _ _ _) ?_
  refine ⟨i, (rws vecC (psOf m1)).length, rfl, rfl, by rw [rws_len]; omega, Nat.le_refl _, ?_⟩
  refine appendK_app (ie := ti27) (rows' := rws vecC ((psOf m1).drop i)) ha4s rfl (by rw [← take_all]; rfl) ⟨by simp [rws_len, ti27]; omega, by simp [rws_len]; omega⟩ (fun v6 st8 ha6 => ?_)
  have o8 : st8.obj rb = some (.cells (splice (refL m1) 0 [v5])) := by rw [ha6.obj]; exact setObj_self _ _ _
  refine storeK_obj (i := ti34) (v := v6) (b := rb) (o := 1) (l := splice (refL m1) 0 [v5]) ha6.cells ha6.one rfl o8 (by show 1 + 1 ≤ 2; omega) ?_
  refine ret ⟨rfl, m1.take i ++ (id, pos) :: m1.drop i, ?_, fun e => mem_ins i, ?_⟩
  · refine rises_ins hmr hi (fun j hj => hlow j hj (by omega)) (fun hl => ?_)
    have h1 := hhigh hl
    have h2 := hdn m1[i] (List.getElem_mem hl)
    dsimp only
    omega
  refine refS_le (v1 := v5) (v2 := v6) (setObj_self _ _ _) ?_ ?_
  · have := ha5.le
    rw [show (rws intC ((idsOf m1).take i) ++ [[int id]]) = rws intC ((idsOf m1).take i ++ [id]) from by rw [← rws_app]; rfl, rws_app, List.append_assoc] at this
    rw [idsOf_app, ← idsOf_take, show (id, pos) :: m1.drop i = [(id, pos)] ++ m1.drop i from rfl, idsOf_app, ← idsOf_drop]
    exact this
  · have := ha6.le
    rw [show (rws vecC ((psOf m1).take i) ++ [vecC pos]) = rws vecC ((psOf m1).take i ++ [pos]) from by rw [← rws_app]; rfl, rws_app, List.append_assoc] at this
    rw [psOf_app, ← psOf_take, show (id, pos) :: m1.drop i = [(id, pos)] ++ m1.drop i from rfl, psOf_app, ← psOf_drop]
    exact this
end Go.Proofs
namespace Go.Proofs
open Go Go.V
set_option linter.unusedVariables false

structure Act where
  D : Int
  I : Int
  P : Vc
  R : Int
def actC (a : Act) : List AV := [int a.D, int a.I, int a.P.1, int a.P.2, int a.R]
def Act.ok (a : Act) : Prop := InI64 a.D ∧ InI64 a.I ∧ a.P.ok ∧ InI64 a.R

theorem within0_spec (i n : Int) (hn : 0 < n) (hn2 : n ≤ 1000) (st : Store) (R : AV → Store → Prop) (h : ∀ k : Int, R (int k) st) : ACalls Try.prog 10 [int i, int n] st R := by
  refine ACalls.of_body (c := cfg 11) infoOK Try.func10 (by rfl) (by rfl) (by rfl) (by rfl) ?_
  have e1 : IntKind.u64.wrap n = n := wrap_u64 (by omega) (by omega)
  have h0 : 0 ≤ IntKind.u64.wrap i := by rw [wrap_u64']; omega
  refine ⟨by rw [e1]; omega, ?_⟩
  have h1 : (IntKind.u64.wrap i).tmod n = (IntKind.u64.wrap i) % n := Int.tmod_eq_emod_of_nonneg h0
  have h2 := Int.emod_nonneg (IntKind.u64.wrap i) (show n ≠ 0 by omega)
  have h3 := Int.emod_lt_of_pos (IntKind.u64.wrap i) hn
  refine ⟨by rw [e1, h1]; exact ⟨by omega, by omega⟩, ?_⟩
  exact ret (h _)

theorem numbers_spec {N : Store} {v : AV} {ns : List Int} (hv : Ints N v ns) (hl : ns.length ≤ 1000000000) (R : AV → Store → Prop) (h : R (.tup []) Store.empty) : ACalls Try.prog 17 [v] N R := by
  refine ACalls.of_body (c := cfg 15) infoOK Try.func17 (by rfl) (by rfl) (by rfl) (by rfl) ?_
  have hemp : ∀ st : Store, st.Has Store.empty := fun st => ⟨fun b x h => (by cases h), fun b x h => (by cases h)⟩
  refine AWp.loop (σ := Nat × List Int) ⟨fun s => [(0, .av v), (2, .av (int (s.1 : Nat)))], fun _ => [], fun s st' => Ints st' v s.2 ∧ s.2.length = ns.length ∧ s.1 ≤ ns.length, fun s => ns.length - s.1⟩ infoOK ?_ ?_
  · exact ⟨(0, ns), trivial, ⟨hv, rfl, Nat.zero_le _⟩, ⟨LV.le_refl _, LV.le_refl _, trivial⟩, trivial⟩
  rintro ⟨i, ms⟩ st' ⟨hm, hml, hi⟩
  dsimp only at hm hml hi ⊢
  rcases ints_cellsR hm with ⟨rfl, rfl⟩ | ⟨b, cap, L, rfl, ho, h1, h2, h3⟩
  · have hi0 : i = 0 := by simp at hml; omega
    subst hi0
    refine ⟨by decide, ?_⟩
    exact appInts (ie := ti3) rfl rfl rfl hm 5 (by simp) (fun b cap L q1 q2 q3 q4 => retHas (AV.le_refl _) (hemp _) h)
  refine bcd (fun c1 => ?_) (fun c1 => ?_)
  · have hlt : i < ms.length := by omega
    refine ⟨i, rfl, hlt, ?_⟩
    refine storeK_obj (i := ti3) (v := int (-99)) (b := b) (o := 0 + i * ti3.size) (l := ms.map aI ++ L) rfl rfl rfl ho (by show 0 + i * 1 + 1 ≤ _; simp; omega) ?_
    refine ⟨⟨by omega, by omega⟩, ?_⟩
    refine ⟨(i + 1, ms.set i (-99)), ?_, ⟨.inr ⟨b, cap, L, by rw [List.length_set], ?_, by rw [List.length_set]; exact h1, by rw [List.length_set]; exact h2, h3⟩, by dsimp only; rw [List.length_set]; exact hml, by dsimp only; omega⟩, ⟨LV.le_refl _, LV.le_refl _, trivial⟩, trivial⟩
    · show ns.length - (i + 1) < ns.length - i
      omega
    · rw [setObj_self]
      congr 2
      unfold splice
      rw [show 0 + i * ti3.size = i from by show 0 + i * 1 = i; omega]
      rw [List.set_eq_take_append_cons_drop, if_pos hlt, List.map_append, List.map_cons, List.take_append_of_le_length (by simp; omega), List.drop_append_of_le_length (by simp; omega), ← List.map_take, ← List.map_drop]
      simp [aI, int]
      rfl
  · refine ⟨by decide, ?_⟩
    exact appInts (ie := ti3) rfl rfl rfl hm 5 (by omega) (fun b cap L q1 q2 q3 q4 => retHas (AV.le_refl _) (hemp _) h)

/-- The cells beside something else. -/
theorem cRemoveF {F S : Store} {p : Nat} {l : List Ent} (hc : CellsOf F p l) (hd : Disj F S) (hl : l.length ≤ 1000000000) (hok : ∀ e ∈ l, e.2.ok) (id : Int) (R : AV → Store → Prop)
    (h : ∀ F', CellsOf F' p (dropId l id) → Disj F' S → R (bool (l.find? (atId id)).isSome) (F'.un S)) : ACalls Try.prog 11 [ptr p, int id] (F.un S) R :=
  ACalls.frame (R := fun r a' => r = bool (l.find? (atId id)).isSome ∧ CellsOf a' p (dropId l id)) hd (cellsRemove_spec hc hl hok id _ fun a' ha' => ⟨rfl, ha'⟩) fun r a' ⟨h1, h2⟩ hd' => h1 ▸ h a' h2 hd'
theorem cPutF {F S : Store} {p : Nat} {l : List Ent} (hc : CellsOf F p l) (hd : Disj F S) (hl : l.length ≤ 1000000000) (hok : ∀ e ∈ l, e.2.ok) (id : Int) (pos : Vc) (hpos : pos.ok) (R : AV → Store → Prop)
    (h : ∀ F', CellsOf F' p (dropId l id ++ [(id, pos)]) → Disj F' S → R (.tup []) (F'.un S)) : ACalls Try.prog 6 [ptr p, int id, .agg (vecC pos)] (F.un S) R :=
  ACalls.frame (R := fun r a' => r = .tup [] ∧ CellsOf a' p (dropId l id ++ [(id, pos)])) hd (cellsPut_spec hc hl hok id pos hpos _ fun a' ha' => ⟨rfl, ha'⟩) fun r a' ⟨h1, h2⟩ hd' => h1 ▸ h a' h2 hd'
theorem cAtF {F S : Store} {p : Nat} {l : List Ent} (hc : CellsOf F p l) (hd : Disj F S) (id : Int) (R : AV → Store → Prop)
    (h : R (.tup [.agg (vecC ((l.find? (atId id)).elim (0, 0) (·.2))), bool (l.find? (atId id)).isSome]) (F.un S)) : ACalls Try.prog 13 [ptr p, int id] (F.un S) R :=
  ACalls.frame (R := fun r a' => r = .tup [.agg (vecC ((l.find? (atId id)).elim (0, 0) (·.2))), bool (l.find? (atId id)).isSome] ∧ a' = F) hd (cellsAt_spec hc id _ ⟨rfl, rfl⟩) fun r a' ⟨h1, h2⟩ hd' => by subst h1 h2; exact h
theorem cCountF {F S : Store} {p : Nat} {l : List Ent} (hc : CellsOf F p l) (hd : Disj F S) (R : AV → Store → Prop)
    (h : R (int (l.length : Nat)) (F.un S)) : ACalls Try.prog 8 [ptr p] (F.un S) R :=
  ACalls.frame (R := fun r a' => r = int (l.length : Nat) ∧ a' = F) hd (cellsCount_spec hc _ ⟨rfl, rfl⟩) fun r a' ⟨h1, h2⟩ hd' => by subst h1 h2; exact h
theorem cNearF {F S : Store} {p : Nat} {l : List Ent} (hc : CellsOf F p l) (hd : Disj F S) (hl : l.length ≤ 1000000000) (hok : ∀ e ∈ l, e.2.ok) {q : Vc} (hq : q.ok) {r : Int} (hr : InI64 r) (R : AV → Store → Prop)
    (h : ∀ F' N v ns, CellsOf F' p l → Disj F' N → Disj F' S → Disj N S → Ints N v ns → IsNear l q r ns → R v ((F'.un N).un S)) : ACalls Try.prog 7 [ptr p, .agg (vecC q), int r] (F.un S) R :=
  ACalls.frame (R := fun v a' => ∃ F' N ns, a' = F'.un N ∧ CellsOf F' p l ∧ Disj F' N ∧ Ints N v ns ∧ IsNear l q r ns) hd (cellsNear_spec hc hl hok hq hr _ fun F' N v ns h1 h2 h3 h4 => ⟨F', N, ns, rfl, h1, h2, h3, h4⟩)
    fun v a' ⟨F', N, ns, h1, h2, h3, h4, h5⟩ hd' => by subst h1; exact h F' N v ns h2 h3 (disj_un.1 hd').1 (disj_un.1 hd').2 h4 h5

/-- The reference's beside something else. -/
theorem rF {F : Store} {rb : Nat} {m : List Ent} (hd : Disj F (refS rb m)) {f : FuncId} {xs : List AV} {R R' : AV → Store → Prop} (h : ACalls Try.prog f xs (refS rb m) R) (hR : ∀ r a', R r a' → Disj F a' → R' r (F.un a')) : ACalls Try.prog f xs (F.un (refS rb m)) R' := by
  rw [un_comm hd]
  exact ACalls.frame (disj_symm hd) h fun r a' h1 h2 => by rw [un_comm h2]; exact hR r a' h1 (disj_symm h2)

theorem rRemoveF {F : Store} {rb : Nat} {m : List Ent} (hd : Disj F (refS rb m)) (hm : Rises m) (hl : m.length ≤ 1000000000) (id : Int) (R : AV → Store → Prop) (h : R (bool (m.find? (atId id)).isSome) (F.un (refS rb (dropId m id)))) :
    ACalls Try.prog 12 [ptr rb, int id] (F.un (refS rb m)) R :=
  rF (R := fun r a' => r = bool (m.find? (atId id)).isSome ∧ a' = refS rb (dropId m id)) hd (rRemove_spec rb m hm hl id _ ⟨rfl, rfl⟩) fun r a' ⟨h1, h2⟩ _ => by subst h1 h2; exact h
theorem rPutF {F : Store} {rb : Nat} {m : List Ent} (hd : Disj F (refS rb m)) (hm : Rises m) (hl : m.length ≤ 1000000000) (id : Int) (pos : Vc) (R : AV → Store → Prop)
    (h : ∀ m', Rises m' → (∀ e, e ∈ m' ↔ e = (id, pos) ∨ e ∈ dropId m id) → R (.tup []) (F.un (refS rb m'))) : ACalls Try.prog 18 [ptr rb, int id, .agg (vecC pos)] (F.un (refS rb m)) R :=
  rF (R := fun r a' => r = .tup [] ∧ ∃ m', a' = refS rb m' ∧ Rises m' ∧ ∀ e, e ∈ m' ↔ e = (id, pos) ∨ e ∈ dropId m id) hd (rPut_spec rb m hm hl id pos _ fun m' h1 h2 => ⟨rfl, m', rfl, h1, h2⟩) fun r a' ⟨h1, m', h2, h3, h4⟩ _ => by subst h1 h2; exact h m' h3 h4
theorem rAtF {F : Store} {rb : Nat} {m : List Ent} (hd : Disj F (refS rb m)) (hl : m.length ≤ 1000000000) (id : Int) (R : AV → Store → Prop)
    (h : R (.tup [.agg (vecC ((m.find? (atId id)).elim (0, 0) (·.2))), bool (m.find? (atId id)).isSome]) (F.un (refS rb m))) : ACalls Try.prog 14 [ptr rb, int id] (F.un (refS rb m)) R :=
  rF (R := fun r a' => r = .tup [.agg (vecC ((m.find? (atId id)).elim (0, 0) (·.2))), bool (m.find? (atId id)).isSome] ∧ a' = refS rb m) hd (rAt_spec rb m hl id _ ⟨rfl, rfl⟩) fun r a' ⟨h1, h2⟩ _ => by subst h1 h2; exact h
theorem rNearF {F : Store} {rb : Nat} {m : List Ent} (hd : Disj F (refS rb m)) (hl : m.length ≤ 1000000000) (hok : ∀ e ∈ m, e.2.ok) {q : Vc} (hq : q.ok) {r : Int} (hr : InI64 r) (R : AV → Store → Prop)
    (h : R (ints (idsOf (m.filter fun e => near q e.2 r))) (F.un (refS rb m))) : ACalls Try.prog 16 [ptr rb, .agg (vecC q), int r] (F.un (refS rb m)) R :=
  rF (R := fun r' a' => r' = ints (idsOf (m.filter fun e => near q e.2 r)) ∧ a' = refS rb m) hd (rNear_spec rb m hl hok hq hr _ ⟨rfl, rfl⟩) fun r' a' ⟨h1, h2⟩ _ => by subst h1 h2; exact h

/-- EqNumbers, where the first stand in an object. -/
theorem eqBorrow {st : Store} {v : AV} {ns : List Int} (hv : Ints st v ns) (hl : ns.length ≤ 1000000000) (ms : List Int) (R : AV → Store → Prop) (h : R (bool (decide (ns = ms))) st) : ACalls Try.prog 15 [v, ints ms] st R := by
  refine ACalls.read (ys := [ints ns, ints ms]) (Q := fun r => r = bool (decide (ns = ms))) (fun Oth M w vs sto hr => ?_) (eqNumbers_spec ns ms (by omega) _ _ rfl) (fun r hr => by subst hr; exact flat_s _) (fun r hr => by subst hr; exact h)
  obtain ⟨x, y, rfl, h1, h2⟩ := reads2 hr
  exact Reads.cons (ints_borrow hv sto h1) (Reads.cons (mono_borrow h2) Reads.nil)

theorem Ints.unL {a g : Store} {v : AV} {ns : List Int} (h : Ints a v ns) (hd : Disj a g) : Ints (a.un g) v ns := by
  rcases h with h | ⟨b1, cap, L, h1, h2, h3⟩
  · exact .inl h
  · exact .inr ⟨b1, cap, L, h1, un_l hd h2, h3⟩

theorem cwakes_spec (st : Store) (R : AV → Store → Prop) (h : R (bool true) st) : ACalls Try.prog 9 [] st R := by
  have key : ACalls Try.prog 9 [] Store.empty fun r _ => r = bool true := by
    refine ACalls.of_body (c := cfg 18) infoOK Try.func9 (by rfl) (by rfl) (by rfl) (by rfl) ?_
    refine cellsNew_spec _ (fun a p hc => ?_)
    have z0 : Vc.ok (0, 0) := ⟨⟨by decide, by decide⟩, ⟨by decide, by decide⟩⟩
    refine cellsPut_spec hc (by simp) (fun e he => by cases he) 1 (0, 0) z0 _ (fun a1 hc1 => ?_)
    have e1 : dropId [] 1 ++ [((1 : Int), ((0, 0) : Vc))] = [(1, (0, 0))] := rfl
    rw [e1] at hc1
    refine cellsNear_spec hc1 (by simp) (fun e he => by simp at he; subst he; exact z0) z0 (r := 1) ⟨by decide, by decide⟩ _ (fun F' N v ns h1 h2 h3 h4 => ?_)
    have hns : ns = [1] := sorted_eq h4.1 (by simp) (fun id => by
      rw [h4.2 id]
      constructor
      · rintro ⟨e, he, hid, _⟩
        simp at he
        subst he
        simp at hid
        simp [hid]
      · intro hid
        simp at hid
        subst hid
        exact ⟨(1, (0, 0)), by simp, rfl, by decide⟩)
    refine ⟨by decide, ?_⟩
    refine eqBorrow (h3.un) (by rw [hns]; simp) [1] _ ?_
    rw [hns]
    refine cCountF h1 h2 _ ?_
    exact ret rfl
  rw [← empty_un st]
  refine ACalls.post (ACalls.frame (R' := fun r st' => r = V.bool true ∧ ∃ a', st' = a'.un st) (fun b hb => ?_) key fun r a' h1 _ => ⟨h1, a', rfl⟩) (Store.Le.refl _) fun r st' ⟨h1, a', h2⟩ => ⟨r, st, AV.le_refl _, h2 ▸ un_le_r, h1 ▸ ?_⟩
  · exact (hb.elim (fun h => h rfl) (fun h => h rfl) : False).elim
  · exact h
end Go.Proofs
namespace Go.Proofs
open Go Go.V
set_option linter.unusedVariables false

/-- The cells and the reference's hold the same. -/
structure Both (p rb : Nat) (n : Nat) (st : Store) (F : Store) (L m : List Ent) : Prop where
  st : st = F.un (refS rb m)
  d : Disj F (refS rb m)
  c : CellsOf F p L
  r : Rises m
  s : ∀ e, e ∈ L ↔ e ∈ m
  n : L.length ≤ n
  ok : ∀ e ∈ L, e.2.ok

theorem Both.nodup {p rb n : Nat} {st F : Store} {L m : List Ent} (h : Both p rb n st F L m) : (L.map (·.1)).Nodup := by
  obtain ⟨_, _, _, _, _, _, _, _, hi⟩ := h.c
  exact hi.n1
theorem Both.len {p rb n : Nat} {st F : Store} {L m : List Ent} (h : Both p rb n st F L m) : L.length = m.length := same_lenE h.nodup h.r.nodup h.s

theorem dropId_ok {L : List Ent} {id : Int} (h : ∀ e ∈ L, e.2.ok) : ∀ e ∈ dropId L id, e.2.ok := fun e he => h e (mem_dropId.1 he).1

set_option maxHeartbeats 4000000 in
theorem cellsExact_law (l : List Act) (hl : l.length ≤ 140737488355328) (hs : ∀ a ∈ l, a.ok) (R : AV → Store → Prop) (h : ∀ st, R (bool true) st) : ACalls Try.prog 4 [lst 5 actC l] Store.empty R := by
  refine ACalls.of_awp (c := cfg 111 [16] []) infoOK Try.func4 (by rfl) (by rfl) (by rfl) (by rfl) ?_
  refine AWp.seq (AWp.of_vc infoOK ?_)
  refine AWp.seq (AWp.of_vc infoOK ?_)
  refine cellsNew_spec _ (fun F p hc => ?_)
  refine AWp.seq (AWp.of_vc infoOK ?_)
  refine AWp.seq (AWp.of_vc infoOK ?_)
  intro rb hrb
  have hd0 : Disj F (refS rb []) := fun i h1 h2 => (fresh_iff.1 hrb) (refS_has.1 h2 ▸ h1)
  refine AWp.leS (st' := F.un (refS rb [])) ?_ ?_
  · refine ⟨fun i y hy => ?_, fun i x hx => ?_⟩
    · rcases un_obj hy with hy | ⟨h1, hy⟩
      · have hi := refS_has.1 (has_obj hy)
        subst hi
        rw [refS_obj] at hy
        cases hy
        refine ⟨_, setObj_self _ _ _, AObj.le_cells rfl fun j x y hx hy => ?_⟩
        match j with
        | 0 => simp [refL] at hx hy; subst hx hy; exact AV.le_nil 1
        | 1 => simp [refL] at hx hy; subst hx hy; exact AV.le_nil 2
        | j + 2 => simp at hx
      · have hi : i ≠ rb := fun e => by subst e; rw [refS_obj] at h1; cases h1
        exact ⟨y, by rw [setObj_ne hi]; exact hy, AObj.le_refl _⟩
    · rcases un_tok hx with hx | ⟨_, hx⟩
      · cases hx
      · exact hx
  refine AWp.seq ?_
  refine AWp.seq (AWp.of_vc infoOK ?_)
  refine AWp.block ?_
  refine AWp.loopA (σ := Nat × Store × List Ent × List Ent) ⟨fun s => [(0, .av (lst 5 actC l)), (3, .av (ptr p)), (4, .av (ptr rb)), (5, .av (int (s.1 : Nat)))], fun _ => [],
    fun s st' => Both p rb s.1 st' s.2.1 s.2.2.1 s.2.2.2 ∧ s.1 ≤ 60 ∧ s.1 ≤ l.length, fun s => 60 - s.1⟩ ?_ ?_
  · exact ⟨(0, F, [], []), trivial, ⟨⟨rfl, hd0, hc, List.Pairwise.nil, fun e => Iff.rfl, Nat.le_refl _, fun e he => (by cases he)⟩, by omega, by omega⟩, ⟨LV.le_refl _, LV.le_refl _, LV.le_refl _, LV.le_refl _, trivial⟩, trivial⟩
  clear hc hd0 hrb F
  rintro ⟨i, F, L, m⟩ st' ⟨hB, hi60, hil⟩
  dsimp only at hB hi60 hil ⊢
  refine AWp.seq (AWp.of_vc infoOK ?_)
  refine bcase_intro (fun h1 => ?_) (fun h1 => ?_)
  rotate_left
  · refine AWp.of_vc infoOK ?_
    exact cwakes_spec _ _ (ret (h _))
  have hlt : i < l.length := by have := lt_len h1; omega
  refine bcd (fun c1 => ?_) (fun c1 => ?_)
  rotate_left
  · refine AWp.of_vc infoOK ?_
    exact cwakes_spec _ _ (ret (h _))
  have hi : i < 60 := by omega
  have ha := hs _ (List.getElem_mem hlt)
  refine AWp.seq (AWp.block (AWp.seq (AWp.of_vc infoOK ?_)))
  refine ⟨i, rfl, optK_intro _ (rws_get hlt) ?_⟩
  generalize l[i] = a at *
  refine AWp.meetA (σ := Store × List Ent × List Ent) ⟨fun s => [(0, .av (lst 5 actC l)), (3, .av (ptr p)), (4, .av (ptr rb)), (5, .av (int (i : Nat)))], fun _ => [],
    fun s st' => Both p rb (i + 1) st' s.1 s.2.1 s.2.2⟩ ?_ ?_
  rotate_left
  · rintro ⟨F2, L2, m2⟩ st2 hB2
    dsimp only at hB2 ⊢
    obtain rfl := hB2.st
    have hlen := hB2.len
    have hro : (F2.un (refS rb m2)).obj rb = some (.cells (refL m2)) := un_r (refS_obj rb m2)
    refine AWp.of_vc infoOK ?_
    refine ADraw.of_sched infoOK (by rfl) (by rfl) sch4_27 (by rfl) ?_
    refine optK_intro (o := (F2.un (refS rb m2)).obj rb) _ hro ?_
    refine ⟨cCountF hB2.c hB2.d _ ⟨?_, ?_⟩, trivial⟩
    · repeat (first | exact trivial | refine ⟨rfl, ?_⟩ | refine ⟨optK_intro (o := (F2.un (refS rb m2)).obj rb) _ hro rfl, ?_⟩)
    refine bcne (fun c2 => ?_) (fun c2 => ?_)
    · exact absurd (by rw [rws_len, idsOf_len]; omega) c2
    refine AWp.of_vc infoOK ?_
    refine ⟨⟨by omega, by omega⟩, ?_⟩
    refine ⟨(i + 1, F2, L2, m2), ?_, ⟨hB2, hi, hlt⟩, ⟨LV.le_refl _, LV.le_refl _, LV.le_refl _, LV.le_refl _, trivial⟩, trivial⟩
    show 60 - (i + 1) < 60 - i
    omega
  obtain rfl := hB.st
  have hlen := hB.len
  have hn := hB.n
  have hmok : ∀ e ∈ m, e.2.ok := fun e he => hB.ok e ((hB.s e).2 he)
  have fits : ∀ {F' : Store} {L' m' : List Ent} {A : Fr} {st' : Store}, Both p rb (i + 1) st' F' L' m' → fitsT A [(0, .av (lst 5 actC l)), (3, .av (ptr p)), (4, .av (ptr rb)), (5, .av (int (i : Nat)))] →
      Meet.at (σ := Store × List Ent × List Ent) ⟨fun s => [(0, .av (lst 5 actC l)), (3, .av (ptr p)), (4, .av (ptr rb)), (5, .av (int (i : Nat)))], fun _ => [], fun s st' => Both p rb (i + 1) st' s.1 s.2.1 s.2.2⟩ A st' :=
    fun h1 h2 => ⟨(_, _, _), h1, h2, trivial⟩
  refine AWp.seq (AWp.of_vc infoOK ?_)
  refine within0_spec a.D 10 (by decide) (by decide) _ _ (fun k => ?_)
  refine AWp.block (AWp.seq (AWp.of_vc infoOK ?_))
  refine AWp.cond _ rfl ?_
  refine bceq (fun k5 => ?_) (fun k5 => ?_)
  · refine AWp.of_vc infoOK ?_
    refine ADraw.of_sched infoOK (by rfl) (by rfl) sch4_13 (by rfl) ?_
    refine ⟨cRemoveF hB.c hB.d (by omega) hB.ok a.I _ (fun F1 hc1 hd1 => ⟨(by repeat (first | exact trivial | refine ⟨rfl, ?_⟩ | refine ⟨optR (optR (optR (optK_intro _ (setObj_self _ _ _) rfl))), ?_⟩)), ?_⟩), trivial⟩
    refine ⟨rRemoveF hd1 hB.r (by omega) a.I _ ⟨trivial, ?_⟩, trivial⟩
    rw [same_find hB.nodup hB.r.nodup hB.s a.I]
    refine bcnot (bcase_intro (fun _ => ?_) (fun hh => ?_))
    · exact fits ⟨rfl, disj_refS hd1, hc1, rises_drop hB.r _, same_drop hB.s _, by have := dropId_len L a.I; omega, dropId_ok hB.ok⟩ ⟨LV.le_refl _, LV.le_refl _, LV.le_refl _, LV.le_refl _, trivial⟩
    · simp at hh
  refine AWp.seq (AWp.of_vc infoOK ?_)
  refine AWp.cond _ rfl ?_
  refine bceq (fun k6 => ?_) (fun k6 => ?_)
  · refine AWp.of_vc infoOK ?_
    refine cAtF hB.c hB.d a.I _ ?_
    refine rAtF hB.d (by omega) a.I _ ?_
    rw [same_find hB.nodup hB.r.nodup hB.s a.I]
    generalize (m.find? (atId a.I)).elim ((0 : Int), (0 : Int)) (fun e => e.2) = vv
    generalize (m.find? (atId a.I)).isSome = bb
    refine bcnot (bcase_intro (fun _ => ?_) (fun hv => ?_))
    · refine bcnot (bcase_intro (fun _ => ?_) (fun hh => ?_))
      · exact fits ⟨rfl, hB.d, hB.c, hB.r, hB.s, by omega, hB.ok⟩ ⟨LV.le_refl _, LV.le_refl _, LV.le_refl _, LV.le_refl _, trivial⟩
      · simp at hh
    · simp at hv
  refine AWp.meetA (σ := Bool) ⟨fun b => [(0, .av (lst 5 actC l)), (3, .av (ptr p)), (4, .av (ptr rb)), (5, .av (int (i : Nat))), (6, .bx 6 0), (81, .av (bool b))], fun _ => [(6, actC a)], fun _ st' => st' = F.un (refS rb m)⟩ ?_ ?_
  · refine AWp.of_vc infoOK ?_
    refine bceq (fun k7 => ?_) (fun k7 => ?_)
    · exact ⟨_, rfl, ⟨LV.le_refl _, LV.le_refl _, LV.le_refl _, LV.le_refl _, LV.le_refl _, LV.le_refl _, trivial⟩, ⟨rfl, trivial⟩⟩
    refine bceq (fun k8 => ?_) (fun k8 => ?_)
    · exact ⟨_, rfl, ⟨LV.le_refl _, LV.le_refl _, LV.le_refl _, LV.le_refl _, LV.le_refl _, LV.le_refl _, trivial⟩, ⟨rfl, trivial⟩⟩
    exact ⟨_, rfl, ⟨LV.le_refl _, LV.le_refl _, LV.le_refl _, LV.le_refl _, LV.le_refl _, LV.le_refl _, trivial⟩, ⟨rfl, trivial⟩⟩
  rintro b _ rfl
  refine AWp.of_vc infoOK ?_
  cases b with
  | true =>
    refine cNearF hB.c hB.d (by omega) hB.ok ha.2.2.1 ha.2.2.2 _ (fun F1 N v ns q1 q2 q3 q4 q5 q6 => ?_)
    have e := near_ref hB.r hB.s q6
    have hd2 : Disj (F1.un N) (refS rb m) := disj_un.2 ⟨q3, q4⟩
    have hnl : ns.length ≤ 1000000000 := by
      rw [e, idsOf_len]
      exact Nat.le_trans (List.length_filter_le _ _) (by omega)
    refine rNearF hd2 (by omega) hmok ha.2.2.1 ha.2.2.2 _ ?_
    refine eqBorrow (Ints.unL (Ints.un q5) hd2) hnl _ _ ?_
    rw [show decide (ns = idsOf (m.filter fun e => near a.P e.2 a.R)) = true from decide_eq_true e]
    have e2 : (F1.un N).un (refS rb m) = N.un (F1.un (refS rb m)) := by rw [un_comm q2, un_assoc]
    rw [e2]
    refine ACalls.frame (disj_symm (disj_un.2 ⟨q2, disj_symm q4⟩)) (numbers_spec q5 hnl (fun r st => r = .tup [] ∧ st = Store.empty) ⟨rfl, rfl⟩) (fun r a' hh _ => ?_)
    obtain ⟨rfl, rfl⟩ := hh
    rw [empty_un]
    exact fits ⟨rfl, q3, q1, hB.r, hB.s, by omega, hB.ok⟩ ⟨LV.le_refl _, LV.le_refl _, LV.le_refl _, LV.le_refl _, trivial⟩
  | false =>
    refine cPutF hB.c hB.d (by omega) hB.ok a.I a.P ha.2.2.1 _ (fun F1 q1 q2 => ?_)
    refine rPutF q2 hB.r (by omega) a.I a.P _ (fun m' r1 r2 => ?_)
    refine fits ⟨rfl, disj_refS q2, q1, r1, fun e => ?_, ?_, fun e he => ?_⟩ ⟨LV.le_refl _, LV.le_refl _, LV.le_refl _, LV.le_refl _, trivial⟩
    · rw [r2, List.mem_append, same_drop hB.s a.I e]
      simp
      exact or_comm
    · have := dropId_len L a.I
      rw [List.length_append]
      simp
      omega
    · rcases List.mem_append.1 he with he | he
      · exact dropId_ok hB.ok e he
      · simp at he
        subst he
        exact ha.2.2.1
end Go.Proofs
namespace Go.Proofs
open Go Go.V
set_option linter.unusedVariables false

theorem bounds_i64 {n : Int} (h : (Lit.int .i64 n).wf = true) : InI64 n := by
  simp [Lit.wf, IntKind.min, IntKind.max, IntKind.signed, IntKind.bits] at h
  unfold InI64
  omega

theorem i64_codec : Codec Try.prog 2 Int intC InI64 := (Codec.int Try.underlying2).weaken fun _ h => bounds_i64 h
theorem int_codec : Codec Try.prog 3 Int intC InI64 := (Codec.int Try.underlying3).weaken fun _ h => bounds_i64 h

theorem vec_codec : Codec Try.prog 27 Vc vecC Vc.ok := by
  refine ⟨fun {H} enc w base held fuel cs x hx hw => ?_⟩
  have hu := Try.underlying27
  have hl : cs.length = 2 := (struct_len hu hx).trans (by kernel_rfl)
  obtain ⟨a0, q0, h0⟩ := struct_field hu hx hw 0 0 1 rfl rfl (by kernel_rfl) i64_codec
  obtain ⟨a1, q1, h1⟩ := struct_field hu hx hw 1 1 1 rfl rfl (by kernel_rfl) i64_codec
  refine ⟨(a0, a1), ⟨q0, q1⟩, ?_⟩
  have := h0.cons rfl (h1.cons rfl (CellsOK.stop hl))
  rw [List.drop_zero] at this
  exact this

theorem act_codec : Codec Try.prog 38 Act actC Act.ok := by
  refine ⟨fun {H} enc w base held fuel cs x hx hw => ?_⟩
  have hu := Try.underlying38
  have hl : cs.length = 5 := (struct_len hu hx).trans (by kernel_rfl)
  obtain ⟨a0, q0, h0⟩ := struct_field hu hx hw 0 0 1 rfl rfl (by kernel_rfl) int_codec
  obtain ⟨a1, q1, h1⟩ := struct_field hu hx hw 1 1 1 rfl rfl (by kernel_rfl) int_codec
  obtain ⟨a2, q2, h2⟩ := struct_field hu hx hw 2 2 2 rfl rfl (by kernel_rfl) vec_codec
  obtain ⟨a3, q3, h3⟩ := struct_field hu hx hw 3 4 1 rfl rfl (by kernel_rfl) i64_codec
  refine ⟨⟨a0, a1, a2, a3⟩, ⟨q0, q1, q2, q3⟩, ?_⟩
  have := h0.cons rfl (h1.cons rfl (h2.cons rfl (h3.cons rfl (CellsOK.stop hl))))
  rw [List.drop_zero] at this
  exact this

theorem acts_codec : Codec Try.prog 22 (List Act) (fun l => [lst 5 actC l]) (fun l => l.length ≤ 140737488355328 ∧ ∀ a ∈ l, a.ok) :=
  (Codec.slice Try.underlying22 (k := 5) (by kernel_rfl) (by decide) (of_decide_eq_true (by kernel_rfl)) act_codec).weaken fun _ h => ⟨h.2, h.1⟩
end Go.Proofs
