/- The ground on which laws of thronglaw23 are proved: contracts of functions and plain lemmas; no condition beyond the row's own. -/
import Derived.Test.YtlmechfgnfepoaaGreatSK
import Derived.Test.YtlmechfgnfepoaaGreatSL
import Derived.Test.YtlmechfgnfepoaaGreatSI
import Derived.Test.YtlmechfgnfepoaaGreatSJ
set_option linter.unusedSimpArgs false
set_option linter.unusedVariables false
namespace Go.Proofs
open Go Go.V
set_option linter.unusedVariables false
set_option linter.unusedSimpArgs false

theorem copyBldsR_key (l : List Bld) (hl : l.length ≤ 1000000) (R : AV → Store → Prop) (h : ∀ v N, RowsO 6 bldC N v l → R v N) : ACalls Tryz.prog 31 [lst 6 bldC l] Store.empty R := by
  refine ACalls.of_body (c := cfg 19) infoOK Tryz.func31 (by rfl) (by rfl) (by rfl) (by rfl) ?_
  refine AWp.loop (σ := Nat × AV × Store) ⟨fun s => [(0, .av (lst 6 bldC l)), (3, .av s.2.1), (4, .av (int s.1))], fun _ => [], fun s st' => s.1 ≤ l.length ∧ st' = s.2.2 ∧ RowsO 6 bldC s.2.2 s.2.1 (l.take s.1), fun s => l.length - s.1⟩ infoOK ?_ ?_
  · exact ⟨(0, _, Store.empty), trivial, ⟨Nat.zero_le _, rfl, .inl ⟨rfl, rfl⟩⟩, ⟨LV.le_refl _, LV.le_refl _, LV.le_refl _, trivial⟩, trivial⟩
  · rintro ⟨i, v, N⟩ st' ⟨hi, rfl, ha⟩
    dsimp only at hi ha ⊢
    refine bcase_intro (fun h1 => ?_) (fun h1 => ?_)
    · have hlt : i < l.length := lt_len h1
      refine ⟨i, rfl, optK_intro _ (rws_get hlt) ?_⟩
      refine ⟨by decide, ?_⟩
      refine appRows (ie := ti59) rfl (fun _ => rfl) (by decide) ha l[i] rfl (by rw [List.length_take]; omega) (fun b cap L q1 q2 q3 q4 => ?_)
      refine ⟨⟨by omega, by omega⟩, ?_⟩
      refine ⟨(i + 1, _, _), ?_, ⟨hlt, rfl, ?_⟩, ⟨LV.le_refl _, LV.le_refl _, LV.le_refl _, trivial⟩, trivial⟩
      · show l.length - (i + 1) < l.length - i
        omega
      · dsimp only
        rw [List.take_succ_eq_append_getElem hlt]
        exact .inr ⟨b, cap, L, rfl, setObj_self _ _ _, q2, q3, q4⟩
    · have hge : i = l.length := ge_len h1 hi
      subst hge
      rw [List.take_length] at ha
      exact ret (h _ _ ha)

theorem copyBldsR (l : List Bld) (hl : l.length ≤ 1000000) (st : Store) (R : AV → Store → Prop) (h : ∀ v N, RowsO 6 bldC N v l → Disj N st → R v (N.un st)) : ACalls Tryz.prog 31 [lst 6 bldC l] st R := by
  rw [← empty_un st]
  exact ACalls.frame (disj_emptyL st) (copyBldsR_key l hl (fun v N => RowsO 6 bldC N v l) fun v N hv => hv) fun v N hv hd => h v N hv hd


/-- A list that a call has made is plain from then on. -/
theorem madeB {f : FuncId} {xs : List AV} {q : Prop} {a b : Value} {l2 : List Bld} (h0 : ACalls Tryz.prog f xs Store.empty fun r S => (¬ q ∧ r = .tup [.s (.slice none 0 0), .s a]) ∨ (q ∧ ∃ v, RowsQ 6 bldC S v l2 ∧ r = .tup [v, .s b])) (st : Store) (R : AV → Store → Prop)
    (h : ¬ q → R (.tup [.s (.slice none 0 0), .s a]) st) (hq : q → R (.tup [lst 6 bldC l2, .s b]) st) : ACalls Tryz.prog f xs st R := by
  have h1 := h0.frozen (R := fun r => (¬ q ∧ r = .tup [.s (.slice none 0 0), .s a]) ∨ (q ∧ r = .tup [lst 6 bldC l2, .s b])) (by
    rintro r S (⟨h1, rfl⟩ | ⟨h1, v, hv, rfl⟩)
    · exact ⟨_, .inl ⟨h1, rfl⟩, fun Oth M w' v' sto hx => mono_borrow hx⟩
    · refine ⟨_, .inr ⟨h1, rfl⟩, fun Oth M w' v' sto hx => ?_⟩
      cases hx with
      | tup _ c2 hl hc2 =>
        refine .tup _ c2 hl fun i x y hx hy => ?_
        match i with
        | 0 => simp only [List.getElem?_cons_zero, Option.some.injEq] at hx; subst hx; exact lstQ_borrow hv sto (hc2 0 _ y rfl hy)
        | 1 => simp only [List.getElem?_cons_succ, List.getElem?_cons_zero, Option.some.injEq] at hx; subst hx; exact mono_borrow (hc2 1 _ y rfl hy)
        | i + 2 => simp at hx)
  have h2 : ACalls Tryz.prog f xs Store.empty fun r S => ((¬ q ∧ r = .tup [.s (.slice none 0 0), .s a]) ∨ (q ∧ r = .tup [lst 6 bldC l2, .s b])) ∧ S = Store.empty :=
    h1.post (Store.Le.refl _) fun r st' hr => ⟨r, Store.empty, AV.le_refl r, (hasE st').toLe, hr, rfl⟩
  rw [← empty_un st]
  exact ACalls.frame (disj_emptyL st) h2 fun r S ⟨e, e2⟩ hd => by
    subst e2
    rw [empty_un]
    rcases e with ⟨q, rfl⟩ | ⟨q, rfl⟩
    · exact h q
    · exact hq q

set_option maxHeartbeats 1000000 in
theorem radd_key (g : Gnd) (hg : gndP g) (l : List Bld) (hl : l.length ≤ 256) (hlb : ∀ b ∈ l, bldP b ∧ onP g b) (b : Bld) (hb : bldP b) (hid : ∀ x ∈ l, x.id < b.id) :
    ACalls Tryz.prog 87 [.agg (gndC g), lst 6 bldC l, .agg (bldC b)] Store.empty fun r S => (¬ putE g l b = 0 ∧ r = .tup [.s (.slice none 0 0), .s (.int .i64 (putE g l b))]) ∨ (putE g l b = 0 ∧ ∃ v, RowsQ 6 bldC S v (l ++ [b]) ∧ r = .tup [v, .s (.int .i64 0)]) := by
  have bad : ∀ n : Int, n ≠ 0 → putE g l b = n → ∀ st, ∃ r st', AV.le (.tup [.s (.slice none 0 0), int n]) r ∧ Store.Has st st' ∧ ((¬ putE g l b = 0 ∧ r = .tup [.s (.slice none 0 0), .s (.int .i64 (putE g l b))]) ∨ (putE g l b = 0 ∧ ∃ v, RowsQ 6 bldC st' v (l ++ [b]) ∧ r = .tup [v, .s (.int .i64 0)])) := fun n hn e st =>
    ret (.inl ⟨by rw [e]; exact hn, by rw [e]; rfl⟩)
  refine ACalls.of_body (c := cfg 75) infoOK Tryz.func87 (by rfl) (by rfl) (by rfl) (by rfl) ?_
  refine sides_spec b _ _ (fun z hz => ?_)
  refine bcnot ?_
  refine bcase_intro (fun c1 => ?_) (fun c1 => by have := hz.2 hb; rw [this] at c1; cases c1)
  refine ron_spec g b hg hb _ _ (fun z hz => ?_)
  refine bcnot ?_
  refine bcase_intro (fun c2 => ?_) (fun c2 => ?_)
  rotate_left
  · have hno : ¬ onP g b := fun hh => by have := hz.2 hh; rw [this] at c2; cases c2
    exact bad 3 (by decide) (by unfold putE; rw [if_pos hno]) _
  have hon := hz.1 c2
  refine AWp.loop (σ := Nat) ⟨fun i => [(1, .av (lst 6 bldC l)), (3, .bx 3 0), (5, .bx 5 0), (8, .av (int (i : Nat)))], fun _ => [(3, gndC g), (5, bldC b)],
    fun i st' => i ≤ l.length ∧ st' = Store.empty ∧ ∀ j, (hj : j < l.length) → j < i → ¬ meetP l[j] b, fun i => l.length - i⟩ infoOK ?_ ?_
  · exact ⟨0, trivial, ⟨Nat.zero_le _, rfl, fun j _ hj => by omega⟩, ⟨LV.le_refl _, LV.le_refl _, LV.le_refl _, LV.le_refl _, trivial⟩, ⟨rfl, rfl, trivial⟩⟩
  rintro i st' ⟨hi, rfl, hno⟩
  refine bcase_intro (fun h1 => ?_) (fun h1 => ?_)
  · have hlt := lt_len h1
    have hbi := hlb l[i] (List.getElem_mem hlt)
    have hidi := hid l[i] (List.getElem_mem hlt)
    refine ADraw.of_sched infoOK (by rfl) (by rfl) sch87_8 (by rfl) ?_
    refine ⟨i, rfl, optK_intro _ (rws_get hlt) ?_⟩
    refine bceq (fun c3 => absurd c3 (by omega)) (fun c3 => ?_)
    refine ⟨i, rfl, optK_intro _ (rws_get hlt) ?_⟩
    refine ⟨meet_spec g hg l[i] b hbi ⟨hb, hon⟩ _ _ (fun z hz => ⟨trivial, ?_⟩), trivial⟩
    refine bcase_intro (fun c4 => ?_) (fun c4 => ?_)
    · have hex : ∃ x ∈ l, meetP x b := ⟨l[i], List.getElem_mem hlt, hz.1 c4⟩
      exact bad 12 (by decide) (by unfold putE; rw [if_neg (fun h => h hon), if_pos hex]) _
    refine in64 (by omega) ?_
    refine ⟨i + 1, ?_, ⟨by omega, rfl, fun j hj hji => ?_⟩, ⟨LV.le_refl _, LV.le_refl _, LV.le_refl _, LV.le_refl _, trivial⟩, ⟨rfl, rfl, trivial⟩⟩
    · show l.length - (i + 1) < l.length - i
      omega
    · by_cases e : j = i
      · subst e
        exact fun hh => by have := hz.2 hh; rw [this] at c4; cases c4
      · exact hno j hj (by omega)
  have hil : i = l.length := ge_len h1 hi
  subst hil
  have hnex : ¬ ∃ x ∈ l, meetP x b := fun ⟨x, hx, h2⟩ => by
    obtain ⟨j, hj, rfl⟩ := List.getElem_of_mem hx
    exact hno j hj hj h2
  refine rfirm_spec g hg b ⟨hb, hon⟩ _ _ (fun z hz => ?_)
  refine bcnot ?_
  refine bcase_intro (fun c4 => ?_) (fun c4 => ?_)
  rotate_left
  · have hno : ¬ firmP g b := fun hh => by have := hz.2 hh; rw [this] at c4; cases c4
    exact bad 5 (by decide) (by unfold putE; rw [if_neg (fun h => h hon), if_neg hnex, if_pos hno]) _
  have hfi := hz.1 c4
  have hlen : ((rws bldC l).length : Int) = (l.length : Int) := by rw [rws_len]
  refine bcd (fun c5 => ?_) (fun c5 => ?_)
  · exact bad 4 (by decide) (by unfold putE; rw [if_neg (fun h => h hon), if_neg hnex, if_neg (fun h => h hfi), if_pos (by omega)]) _
  have h0 : putE g l b = 0 := by unfold putE; rw [if_neg (fun h => h hon), if_neg hnex, if_neg (fun h => h hfi), if_neg (by omega)]
  refine AWp.loop (σ := Nat) ⟨fun i => [(1, .av (lst 6 bldC l)), (5, .bx 5 0), (9, .av (int (i : Nat)))], fun _ => [(5, bldC b)],
    fun i st' => i ≤ l.length ∧ st' = Store.empty, fun i => l.length - i⟩ infoOK ?_ ?_
  · exact ⟨0, trivial, ⟨Nat.zero_le _, rfl⟩, ⟨LV.le_refl _, LV.le_refl _, LV.le_refl _, trivial⟩, ⟨rfl, trivial⟩⟩
  rintro i st' ⟨hi, rfl⟩
  refine ADraw.of_sched infoOK (by rfl) (by rfl) sch87_15 (by rfl) ?_
  refine bcase_intro (fun h1 => ?_) (fun h1 => ?_)
  · have hlt := lt_len h1
    have hidi := hid l[i] (List.getElem_mem hlt)
    refine ⟨i, rfl, optK_intro _ (rws_get hlt) ?_⟩
    refine bcd (fun c6 => ?_) (fun c6 => absurd hidi c6)
    refine in64 (by omega) ?_
    refine ⟨i + 1, ?_, ⟨by omega, rfl⟩, ⟨LV.le_refl _, LV.le_refl _, LV.le_refl _, trivial⟩, ⟨rfl, trivial⟩⟩
    show l.length - (i + 1) < l.length - i
    omega
  have hil : i = l.length := ge_len h1 hi
  subst hil
  refine ADraw.of_sched infoOK (by rfl) (by rfl) sch87_17 (by rfl) ?_
  refine ⟨0, l.length, rfl, rfl, Nat.zero_le _, by rw [rws_len]; exact Nat.le_refl _, ?_⟩
  refine ⟨by decide, ?_⟩
  refine ⟨ACalls.le (ys := [lst 6 bldC l]) ⟨by rw [List.drop_zero, ← rws_len (f := bldC) l, List.take_length]; exact AV.le_refl _, trivial⟩ (copyBldsR l (by omega) _ _ (fun v N hv hd => ⟨(by repeat (first | exact trivial | refine ⟨rfl, ?_⟩ | refine ⟨optR (optR (optR (optK_intro _ (setObj_self _ _ _) rfl))), ?_⟩)), ?_⟩)), trivial⟩
  have hvQ : RowsQ 6 bldC (N.un Store.empty) v l := hv.q.unL hd
  refine ⟨appRowsQ (ie := ti59) rfl bldC_lenQ (by decide) hvQ b rfl (by omega) (fun b2 cap2 L2 q1 q2 q3 q4 => ⟨trivial, ?_⟩), trivial⟩
  have hv2 : RowsQ 6 bldC ((N.un Store.empty).setObj b2 (.cells ((rws bldC (l ++ [b])).flatten ++ L2))) (.s (.slice (some ⟨b2, 0, none⟩) (l ++ [b]).length cap2)) (l ++ [b]) := .inl (.inr ⟨b2, cap2, L2, rfl, setObj_self _ _ _, q2, q3, q4⟩)
  refine ⟨⟨trivial, ?_⟩, trivial⟩
  refine ⟨l.length, l.length, rfl, by rw [rws_len]; rfl, Nat.le_refl _, by rw [rws_len]; exact Nat.le_refl _, ?_⟩
  refine app0Q (ie := ti59) rfl bldC_lenQ (by decide) hv2 (by simp) ?_ (by rw [List.length_append, List.length_singleton]; omega) (fun v' st' hv' => ?_)
  · rw [List.drop_of_length_le (by rw [List.length_take, rws_len]; omega)]; rfl
  exact ret (.inr ⟨h0, _, hv', rfl⟩)

theorem rbadd_spec (g : Gnd) (hg : gndP g) (l : List Bld) (hl : l.length ≤ 256) (hlb : ∀ b ∈ l, bldP b ∧ onP g b) (b : Bld) (hb : bldP b) (hid : ∀ x ∈ l, x.id < b.id) (st : Store) (R : AV → Store → Prop)
    (h : ¬ putE g l b = 0 → R (.tup [.s (.slice none 0 0), int (putE g l b)]) st) (h0 : putE g l b = 0 → R (.tup [lst 6 bldC (l ++ [b]), int 0]) st) : ACalls Tryz.prog 87 [.agg (gndC g), lst 6 bldC l, .agg (bldC b)] st R :=
  madeB (radd_key g hg l hl hlb b hb hid) st R h h0
end Go.Proofs
namespace Go.Proofs
open Go Go.V
set_option linter.unusedVariables false
set_option linter.unusedSimpArgs false

def zerB : List AV := [int 0, int 0, int 0, int 0, int 0, int 0]
theorem bldC_one (b : Bld) : ∀ y ∈ bldC b, y.one = true := by
  intro y hy
  obtain ⟨x, rfl, h⟩ := bldC_sQ b y hy
  exact h
theorem rwsB_one (l : List Bld) : ∀ y ∈ (rws bldC l).flatten, y.one = true := by
  intro y hy
  obtain ⟨r, hr, hy⟩ := List.mem_flatten.1 hy
  obtain ⟨b, _, rfl⟩ := List.mem_map.1 hr
  exact bldC_one b y hy

set_option maxHeartbeats 1000000 in
theorem dltB_spec {N : Store} {v : AV} {l : List Bld} (hv : RowsQ 6 bldC N v l) (hl : l.length ≤ 256) {i : Nat} (hi : i < l.length) (R : AV → Store → Prop) (h : ∀ v' N', RowsQ 6 bldC N' v' (l.eraseIdx i) → R v' N') : ACalls Tryz.prog 169 [v, int (i : Nat), int ((i : Int) + 1)] N R := by
  rcases hv with (⟨_, hl0⟩ | ⟨b, cap, L, rfl, ho, hc1, hc2, hc3⟩) | ⟨_, _, _, hl0⟩
  · subst hl0; exact absurd hi (Nat.not_lt_zero _)
  rotate_left
  · subst hl0; exact absurd hi (Nat.not_lt_zero _)
  refine ACalls.of_body (c := cfg 33) infoOK Tryz.func169 (by rfl) (by rfl) (by rfl) (by rfl) ?_
  refine aeff_slice3 (i := i) (j := i + 1) (m := l.length) rfl rfl rfl rfl (by omega) (by omega) hc1 (by omega) ?_
  refine bceq (fun hh => absurd hh (by omega)) (fun _ => ?_)
  refine ADraw.of_sched infoOK (by rfl) (by rfl) sch169_5 (by rfl) ?_
  refine ⟨0, i, rfl, rfl, Nat.zero_le _, by omega, .inl ⟨by omega, ?_⟩⟩
  by_cases hc : i + 1 < cap
  · refine ⟨i + 1, l.length, rfl, rfl, by omega, hc1, .inl ⟨hc, ?_⟩⟩
    refine ⟨⟨.inr ⟨_, _, rfl, rfl, appX_rawS (ie := ti59) (n := i) (m := l.length - (i + 1)) (xs := (rws bldC (l.drop (i + 1))).flatten) rfl ho (by rw [List.length_append, rws_flat_len bldC_lenQ]; exact hc2) (by omega) (by have := SrcOK.obj (P := Tryz.prog) (k := 6) (m := l.length - (i + 1)) (o := 0 + (i + 1) * 6) (cp := cap - (i + 1)) ho (by rw [List.length_append, rws_flat_len bldC_lenQ]; omega) (by rw [Nat.zero_add, drop_cells bldC_lenQ (by omega)]; exact rwsB_one _); rw [Nat.zero_add, drop_cells bldC_lenQ (by omega)] at this; rw [Nat.zero_add]; exact this) ⟨by show (i + (l.length - (i + 1))) * 48 ≤ _; omega, by omega⟩ (fun _ => ⟨trivial, ?_⟩) (fun hh => by omega)⟩⟩, trivial⟩
    rw [show splice ((rws bldC l).flatten ++ L) (i * ti59.size) (rws bldC (l.drop (i + 1))).flatten = (rws bldC (l.eraseIdx i)).flatten ++ (bldC l[l.length - 1] ++ L) from erase_splice bldC_lenQ hi L]
    have hel := erase_len hi
    have ho2 : (N.setObj b (.cells ((rws bldC (l.eraseIdx i)).flatten ++ (bldC l[l.length - 1] ++ L)))).obj b = some (.cells ((rws bldC (l.eraseIdx i)).flatten ++ (bldC l[l.length - 1] ++ L))) := setObj_self _ _ _
    generalize N.setObj b _ = N2 at ho2 ⊢
    refine ⟨⟨trivial, ?_⟩, trivial⟩
    refine ⟨i + (l.length - (i + 1)), l.length, rfl, rfl, by omega, hc1, .inl ⟨by omega, ?_⟩⟩
    refine aeff_clear1 (ie := ti59) (b := b) (off := 0 + (i + (l.length - (i + 1))) * ti59.size) (l := (rws bldC (l.eraseIdx i)).flatten ++ (bldC l[l.length - 1] ++ L)) rfl rfl rfl rfl rfl rfl rfl (by omega) ho2 (by rw [List.length_append, rws_flat_len bldC_lenQ, hel, List.length_append, bldC_lenQ]; show 0 + (i + (l.length - (i + 1))) * 6 + 6 ≤ _; omega) (by decide) ?_
    have e3 : splice ((rws bldC (l.eraseIdx i)).flatten ++ (bldC l[l.length - 1] ++ L)) (0 + (i + (l.length - (i + 1))) * ti59.size) (ti59.zero.map AV.s) = (rws bldC (l.eraseIdx i)).flatten ++ (zerB ++ L) := by
      have h1 : (rws bldC (l.eraseIdx i)).flatten.length = 0 + (i + (l.length - (i + 1))) * ti59.size := by
        rw [rws_flat_len bldC_lenQ, hel]
        show _ = 0 + (i + (l.length - (i + 1))) * 6
        omega
      rw [splice_at h1, List.append_assoc]
      rfl
    rw [e3]
    have e4 : i + (l.length - (i + 1)) = (l.eraseIdx i).length := by omega
    refine ret (h _ _ (.inl (.inr ⟨b, cap, zerB ++ L, by rw [← e4]; rfl, setObj_self _ _ _, by omega, by rw [List.length_append]; show cap * 6 ≤ _ * 6 + (6 + L.length); omega, hc3⟩)))
  · refine ⟨i + 1, l.length, rfl, rfl, by omega, hc1, .inr ⟨by omega, ?_⟩⟩
    have e1 : l.drop (i + 1) = [] := List.drop_of_length_le (by omega)
    have hsp := erase_splice bldC_lenQ hi L
    rw [e1] at hsp
    have hsp : splice ((rws bldC l).flatten ++ L) (i * 6) [] = (rws bldC (l.eraseIdx i)).flatten ++ (bldC l[l.length - 1] ++ L) := hsp
    have hsrc : SrcOK Tryz.prog N 6 0 (.s (.slice (some ⟨b, 0, none⟩) 0 0)) [] := by
      have := SrcOK.obj (P := Tryz.prog) (k := 6) (m := 0) (o := 0) (cp := 0) ho (by omega) (fun y hy => by simp at hy)
      simpa using this
    refine ⟨⟨.inr ⟨_, _, rfl, rfl, appX_rawS (ie := ti59) (n := i) (m := 0) (xs := []) rfl ho (by rw [List.length_append, rws_flat_len bldC_lenQ]; exact hc2) (by omega) hsrc ⟨by show (i + (0)) * 48 ≤ _; omega, by omega⟩ (fun _ => ⟨trivial, ?_⟩) (fun hh => by omega)⟩⟩, trivial⟩
    rw [show splice ((rws bldC l).flatten ++ L) (i * ti59.size) [] = (rws bldC (l.eraseIdx i)).flatten ++ (bldC l[l.length - 1] ++ L) from hsp]
    have hel := erase_len hi
    have ho2 : (N.setObj b (.cells ((rws bldC (l.eraseIdx i)).flatten ++ (bldC l[l.length - 1] ++ L)))).obj b = some (.cells ((rws bldC (l.eraseIdx i)).flatten ++ (bldC l[l.length - 1] ++ L))) := setObj_self _ _ _
    generalize N.setObj b _ = N2 at ho2 ⊢
    refine ⟨⟨trivial, ?_⟩, trivial⟩
    refine ⟨i + (0), l.length, rfl, rfl, by omega, hc1, .inl ⟨by omega, ?_⟩⟩
    refine aeff_clear1 (ie := ti59) (b := b) (off := 0 + (i + (0)) * ti59.size) (l := (rws bldC (l.eraseIdx i)).flatten ++ (bldC l[l.length - 1] ++ L)) rfl rfl rfl rfl rfl rfl rfl (by omega) ho2 (by rw [List.length_append, rws_flat_len bldC_lenQ, hel, List.length_append, bldC_lenQ]; show 0 + (i + (0)) * 6 + 6 ≤ _; omega) (by decide) ?_
    have e3 : splice ((rws bldC (l.eraseIdx i)).flatten ++ (bldC l[l.length - 1] ++ L)) (0 + (i + (0)) * ti59.size) (ti59.zero.map AV.s) = (rws bldC (l.eraseIdx i)).flatten ++ (zerB ++ L) := by
      have h1 : (rws bldC (l.eraseIdx i)).flatten.length = 0 + (i + (0)) * ti59.size := by
        rw [rws_flat_len bldC_lenQ, hel]
        show _ = 0 + (i + (0)) * 6
        omega
      rw [splice_at h1, List.append_assoc]
      rfl
    rw [e3]
    have e4 : i + (0) = (l.eraseIdx i).length := by omega
    refine ret (h _ _ (.inl (.inr ⟨b, cap, zerB ++ L, by rw [← e4]; rfl, setObj_self _ _ _, by omega, by rw [List.length_append]; show cap * 6 ≤ _ * 6 + (6 + L.length); omega, hc3⟩)))
end Go.Proofs
namespace Go.Proofs
open Go Go.V
set_option linter.unusedVariables false
set_option linter.unusedSimpArgs false

/-- Delete, of a list that the caller alone has: plain from then on. -/
theorem dltF_spec {N S : Store} (hd : Disj N S) {v : AV} {l : List Bld} (hv : RowsQ 6 bldC N v l) (hl : l.length ≤ 256) {i : Nat} (hi : i < l.length) (R : AV → Store → Prop) (h : R (lst 6 bldC (l.eraseIdx i)) S) : ACalls Tryz.prog 169 [v, int (i : Nat), int ((i : Int) + 1)] (N.un S) R := by
  have h1 : ACalls Tryz.prog 169 [v, int (i : Nat), int ((i : Int) + 1)] N fun r S2 => r = lst 6 bldC (l.eraseIdx i) ∧ S2 = Store.empty :=
    ACalls.frozenTo (dltB_spec hv hl hi (fun r N' => RowsQ 6 bldC N' r (l.eraseIdx i)) fun v' N' h => h) fun r N' hr =>
      ⟨_, Store.empty, ⟨rfl, rfl⟩, (fun b x hx => by cases hx), (fun b x hx => by cases hx), fun Oth M w v' sto hx => by
        refine (lstQ_borrow hr sto hx).mono fun b o hT => ?_
        exact ⟨hT.1, hT.2.resolve_right fun hh => hh rfl⟩⟩
  exact ACalls.frame hd h1 fun r S2 ⟨e, e2⟩ hd2 => by subst e e2; rw [empty_un]; exact h

theorem dropFn_spec (b : Bld) (pb xw s : Nat) (c : Cmd) (fv : AV) (st : Store) (hb : st.obj pb = some (.cells [ptr xw])) (hx : st.obj xw = some (.cells (wkC s c fv))) (R : AV → Store → Prop) (h : R (V.bool (decide (b.id = c.N))) st) : ACalls Tryz.prog 168 ([.agg (bldC b)] ++ [ptr pb]) st R := by
  rw [← beqD] at h
  refine ACalls.of_body (c := cfg 12) infoOK Tryz.func168 (by rfl) (by rfl) (by rfl) (by rfl) ?_
  refine ADraw.of_sched infoOK (by rfl) (by rfl) sch168_1 (by rfl) ?_
  refine optK_intro (o := st.obj pb) _ hb ?_
  refine optK_intro (o := st.obj xw) _ hx ?_
  refine ⟨⟨?_, ?_⟩, trivial⟩
  · repeat (first | exact trivial | refine ⟨rfl, ?_⟩ | refine ⟨optK_intro (o := st.obj pb) _ hb rfl, ?_⟩ | refine ⟨optK_intro (o := st.obj xw) _ hx rfl, ?_⟩)
  exact ret h

theorem drE_some {w : Wld} {c : Cmd} {i : Nat} (h : findB w.B c.N = some i) (hi : i < w.B.length) : drE w c = if w.B[i].owner = c.P then 0 else 6 := by
  unfold drE
  rw [h]
  simp [List.getD_eq_getElem?_getD, hi]
theorem findB_some {l : List Bld} {id : Int} {i : Nat} (h : findB l id = some i) : ∃ hi : i < l.length, l[i].id = id := by
  unfold findB at h
  rw [List.findIdx?_eq_some_iff_getElem] at h
  obtain ⟨h1, h2, _⟩ := h
  exact ⟨h1, of_decide_eq_true h2⟩

set_option maxHeartbeats 2000000 in
set_option maxRecDepth 20000 in
theorem wdrop_spec {F G : Store} {xw s p : Nat} {w : Wld} {v : AV} {L : List Ent} {o0 o1 o2 : AV} {c : Cmd} {fv : AV} (hW : Work F G xw s p w v L o0 o1 o2 c fv) (hm : MayF w) (R : AV → Store → Prop)
    (h : ∀ S', drE w c ≠ 0 → R (int (drE w c)) S') (h0 : drE w c = 0 → ∀ S', Done S' xw s c fv (drW w c) → R (int 0) S') : ACalls Tryz.prog 122 [ptr xw] (F.un (svS G s w v o0 o1 o2 p)) R := by
  have hx := hW.x (F' := F) (q0 := o0) (q1 := o1) (q2 := o2)
  have hs := hW.s (F' := F) (q0 := o0) (q1 := o1) (q2 := o2)
  have hr := hW.r (F' := F) (q0 := o0) (q1 := o1) (q2 := o2)
  have hxs := hW.ne
  have hos := hW.os
  have hB := hm.hB
  obtain ⟨oa, cap, e, hget⟩ := hW.S.hu.form
  subst e
  generalize F.un (svS G s w _ o0 o1 o2 p) = S at hx hs hr ⊢
  refine ACalls.of_body (c := cfg 56 [1] []) infoOK Tryz.func122 (by rfl) (by rfl) (by rfl) (by rfl) ?_
  intro pb hpb
  have hbx : xw ≠ pb := fun e => by
    subst e
    have := hpb.1
    rw [hx] at this
    cases this
  have hbs : s ≠ pb := fun e => by
    subst e
    have := hpb.1
    rw [hs] at this
    cases this
  have hb : (S.setObj pb (.cells [ptr xw])).obj pb = some (.cells [ptr xw]) := setObj_self _ _ _
  have hx := (setObj_ne (st := S) (x := .cells [ptr xw]) hbx).trans hx
  have hs := (setObj_ne (st := S) (x := .cells [ptr xw]) hbs).trans hs
  have hr := hr.set (offB_fresh hr hpb.1) (.cells [ptr xw])
  refine optK_intro (o := (S.setObj pb (.cells [ptr xw])).obj pb) _ hb ?_
  refine optK_intro (o := (S.setObj pb (.cells [ptr xw])).obj xw) _ hx ?_
  refine optK_intro (o := (S.setObj pb (.cells [ptr xw])).obj s) _ hs ?_
  refine bldIndex_spec w.B (by omega) _ _ (fun b => decide (b.id = c.N)) _ (fun b _ R h => dropFn_spec b pb xw s c fv _ hb hx R h) _ ?_
  have hfb : (w.B.findIdx? fun b => decide (b.id = c.N)) = findB w.B c.N := rfl
  rw [hfb]
  refine bcd (fun c1 => ?_) (fun c1 => ?_)
  · cases hf : findB w.B c.N with
    | some i => rw [hf] at c1; exact absurd c1 (by show ¬ ((i : Int) < 0); omega)
    | none =>
      have he : drE w c = 3 := by unfold drE; rw [hf]
      have := h (S.setObj pb (.cells [ptr xw])) (by rw [he]; decide)
      rw [he] at this
      exact ret this
  cases hf : findB w.B c.N with
  | none => rw [hf] at c1; exact absurd (show (-1 : Int) < 0 by decide) c1
  | some i =>
  obtain ⟨hi, hid⟩ := findB_some hf
  have he := drE_some hf hi
  refine ADraw.of_sched infoOK (by rfl) (by rfl) sch122_4 (by rfl) ?_
  refine optK_intro (o := (S.setObj pb (.cells [ptr xw])).obj pb) _ hb ?_
  refine optK_intro (o := (S.setObj pb (.cells [ptr xw])).obj xw) _ hx ?_
  refine optK_intro (o := (S.setObj pb (.cells [ptr xw])).obj s) _ hs ?_
  refine ⟨i, rfl, optK_intro _ (rws_get hi) ?_⟩
  refine optK_intro (o := (S.setObj pb (.cells [ptr xw])).obj pb) _ hb ?_
  refine optK_intro (o := (S.setObj pb (.cells [ptr xw])).obj xw) _ hx ?_
  refine ⟨⟨?_, ?_⟩, trivial⟩
  · repeat (first | exact trivial | refine ⟨rfl, ?_⟩ | refine ⟨optK_intro (o := (S.setObj pb (.cells [ptr xw])).obj pb) _ hb rfl, ?_⟩ | refine ⟨optK_intro (o := (S.setObj pb (.cells [ptr xw])).obj xw) _ hx rfl, ?_⟩ | refine ⟨optK_intro (o := (S.setObj pb (.cells [ptr xw])).obj s) _ hs rfl, ?_⟩ | refine ⟨⟨i, rfl, optK_intro _ (rws_get hi) rfl⟩, ?_⟩)
  refine bcne (fun c2 => ?_) (fun c2 => ?_)
  · rw [if_neg c2] at he
    have := h (S.setObj pb (.cells [ptr xw])) (by rw [he]; decide)
    rw [he] at this
    exact ret this
  rw [if_pos c2] at he
  have hW2 : drW w c = { w with B := w.B.eraseIdx i } := by unfold drW; rw [hf]
  refine ADraw.of_sched infoOK (by rfl) (by rfl) sch122_6 (by rfl) ?_
  refine optK_intro (o := (S.setObj pb (.cells [ptr xw])).obj pb) _ hb ?_
  refine optK_intro (o := (S.setObj pb (.cells [ptr xw])).obj xw) _ hx ?_
  refine optK_intro (o := (S.setObj pb (.cells [ptr xw])).obj pb) _ hb ?_
  refine optK_intro (o := (S.setObj pb (.cells [ptr xw])).obj xw) _ hx ?_
  refine optK_intro (o := (S.setObj pb (.cells [ptr xw])).obj s) _ hs ?_
  refine in64 (by show -9223372036854775808 ≤ ((i : Nat) : Int) + 1 ∧ ((i : Nat) : Int) + 1 ≤ 9223372036854775807; omega) ?_
  refine ⟨cloneB_spec w.B (by omega) _ _ (fun v2 N hv2 hd => ⟨?_, ?_⟩), trivial⟩
  · have hb2 : (N.un (S.setObj pb (.cells [ptr xw]))).obj pb = _ := un_r hb
    have hx2 : (N.un (S.setObj pb (.cells [ptr xw]))).obj xw = _ := un_r hx
    have hs2 : (N.un (S.setObj pb (.cells [ptr xw]))).obj s = _ := un_r hs
    repeat (first | exact trivial | refine ⟨rfl, ?_⟩ | refine ⟨optK_intro (o := (N.un (S.setObj pb (.cells [ptr xw]))).obj pb) _ hb2 rfl, ?_⟩ | refine ⟨optK_intro (o := (N.un (S.setObj pb (.cells [ptr xw]))).obj xw) _ hx2 rfl, ?_⟩ | refine ⟨optK_intro (o := (N.un (S.setObj pb (.cells [ptr xw]))).obj s) _ hs2 rfl, ?_⟩)
  refine ⟨dltF_spec hd hv2 (by omega) hi _ ⟨?_, ?_⟩, trivial⟩
  · repeat (first | exact trivial | refine ⟨rfl, ?_⟩ | refine ⟨optK_intro (o := (S.setObj pb (.cells [ptr xw])).obj pb) _ hb rfl, ?_⟩ | refine ⟨optK_intro (o := (S.setObj pb (.cells [ptr xw])).obj xw) _ hx rfl, ?_⟩ | refine ⟨optK_intro (o := (S.setObj pb (.cells [ptr xw])).obj s) _ hs rfl, ?_⟩)
  refine ⟨?_, trivial⟩
  refine optK_intro _ rfl (guardK_none rfl (vcOp_store (v := lst 6 bldC (w.B.eraseIdx i)) rfl rfl rfl rfl ?_))
  refine storeK_obj (i := ti25) (v := lst 6 bldC (w.B.eraseIdx i)) (b := s) (o := 6) (l := svC w (.s (.slice oa w.U.length cap)) o0 o1 o2 p) rfl rfl rfl hs (show 6 + 1 ≤ 12 by decide) ?_
  have hs3 : ((S.setObj pb (.cells [ptr xw])).setObj s (.cells (splice (svC w (.s (.slice oa w.U.length cap)) o0 o1 o2 p) 6 [lst 6 bldC (w.B.eraseIdx i)]))).obj s = some (.cells (svC { w with B := w.B.eraseIdx i } (.s (.slice oa w.U.length cap)) o0 o1 o2 p)) := setObj_self _ _ _
  have hx3 := (setObj_ne (st := S.setObj pb (.cells [ptr xw])) (x := .cells (splice (svC w (.s (.slice oa w.U.length cap)) o0 o1 o2 p) 6 [lst 6 bldC (w.B.eraseIdx i)])) hxs).trans hx
  have hr3 := hr.set hos (.cells (splice (svC w (.s (.slice oa w.U.length cap)) o0 o1 o2 p) 6 [lst 6 bldC (w.B.eraseIdx i)]))
  have hb3 := (setObj_ne (st := S.setObj pb (.cells [ptr xw])) (x := .cells (splice (svC w (.s (.slice oa w.U.length cap)) o0 o1 o2 p) 6 [lst 6 bldC (w.B.eraseIdx i)])) (Ne.symm hbs)).trans hb
  refine ⟨trivial, ?_⟩
  exact ret (h0 he _ (by rw [hW2]; exact ⟨_, o0, o1, o2, p, hx3, hs3, hr3⟩))

theorem does5 : DoesOK 5 drE drW := by
  intro F G xw s p w v L o0 o1 o2 c hW hm hn hc hp hk R h h0
  have hx := hW.x (F' := F) (q0 := o0) (q1 := o1) (q2 := o2)
  refine ACalls.of_body (c := cfg 34) infoOK Tryz.func79 (by rfl) (by rfl) (by rfl) (by rfl) ?_
  refine optK_intro (o := (F.un (svS G s w v o0 o1 o2 p)).obj xw) _ hx ?_
  refine bceq (fun c1 => absurd (hk.symm.trans c1) (by decide)) (fun _ => ?_)
  refine bceq (fun c1 => absurd (hk.symm.trans c1) (by decide)) (fun _ => ?_)
  refine bceq (fun c1 => absurd (hk.symm.trans c1) (by decide)) (fun _ => ?_)
  refine bceq (fun c1 => absurd (hk.symm.trans c1) (by decide)) (fun _ => ?_)
  refine bceq (fun _ => ?_) (fun c1 => absurd hk c1)
  refine wdrop_spec hW (mayF hm) _ (fun S' he => ret (h S' he)) (fun he S' hd => ret (h0 he S' hd))
end Go.Proofs
namespace Go.Proofs
open Go Go.V
set_option linter.unusedVariables false
set_option linter.unusedSimpArgs false

theorem rdropL_key (l : List Bld) (hl : l.length ≤ 256) (id : Int) (i : Nat) (hf : findB l id = some i) : ACalls Tryz.prog 90 [lst 6 bldC l, int id] Store.empty fun r S => ∃ v, RowsQ 6 bldC S v (l.eraseIdx i) ∧ r = .tup [v, .s (.bool true)] := by
  have hf0 := hf
  unfold findB at hf0
  rw [List.findIdx?_eq_some_iff_getElem] at hf0
  obtain ⟨hil, hid, hbefore⟩ := hf0
  refine ACalls.of_body (c := cfg 31) infoOK Tryz.func90 (by rfl) (by rfl) (by rfl) (by rfl) ?_
  refine AWp.loop (σ := Nat) ⟨fun k => [(0, .av (lst 6 bldC l)), (1, .av (int id)), (6, .av (int (k : Nat)))], fun _ => [],
    fun k st' => k ≤ i ∧ st' = Store.empty, fun k => l.length - k⟩ infoOK ?_ ?_
  · exact ⟨0, trivial, ⟨Nat.zero_le _, rfl⟩, ⟨LV.le_refl _, LV.le_refl _, LV.le_refl _, trivial⟩, trivial⟩
  rintro k st' ⟨hk, rfl⟩
  have hlt : k < l.length := by omega
  refine bcase_intro (fun h1 => ?_) (fun h1 => ?_)
  rotate_left
  · have h1 := of_decide_eq_false h1
    rw [rws_len] at h1
    omega
  refine ⟨k, rfl, optK_intro _ (rws_get hlt) ?_⟩
  refine bceq (fun c1 => ?_) (fun c1 => ?_)
  · have hki : k = i := by
      by_cases e : k = i
      · exact e
      · exact absurd (decide_eq_true c1) (hbefore k (by omega))
    subst hki
    refine ⟨0, k, rfl, rfl, Nat.zero_le _, by rw [rws_len]; omega, ?_⟩
    refine ACalls.le (ys := [lst 6 bldC (l.take k)]) ⟨by unfold lst rws; rw [List.drop_zero, List.map_take]; exact AV.le_refl _, trivial⟩ (copyBldsR (l.take k) (by rw [List.length_take]; omega) _ _ (fun v N hv hd => ?_))
    have hvQ : RowsQ 6 bldC (N.un Store.empty) v (l.take k) := hv.q.unL hd
    refine in64 (by omega) ?_
    refine ⟨k + 1, l.length, rfl, by rw [rws_len]; rfl, by omega, by rw [rws_len]; exact Nat.le_refl _, ?_⟩
    refine appListQ (ie := ti59) rfl bldC_lenQ (by decide) hvQ (l.drop (k + 1)) ?_ (by rw [List.length_take, List.length_drop]; omega) (fun v' st' hv' => ?_)
    · rw [List.take_of_length_le (by rw [rws_len]; exact Nat.le_refl _)]
      unfold rws
      rw [List.map_drop]
      rfl
    rw [← List.eraseIdx_eq_take_drop_succ] at hv'
    exact ret ⟨_, hv', rfl⟩
  · have hki : k ≠ i := fun e => by
      subst e
      exact c1 (of_decide_eq_true hid)
    refine in64 (by omega) ?_
    refine ⟨k + 1, ?_, ⟨by omega, rfl⟩, ⟨LV.le_refl _, LV.le_refl _, LV.le_refl _, trivial⟩, trivial⟩
    show l.length - (k + 1) < l.length - k
    omega

theorem rdropL_spec (l : List Bld) (hl : l.length ≤ 256) (id : Int) (i : Nat) (hf : findB l id = some i) (st : Store) (R : AV → Store → Prop) (h : R (.tup [lst 6 bldC (l.eraseIdx i), V.bool true]) st) : ACalls Tryz.prog 90 [lst 6 bldC l, int id] st R :=
  madeB (q := True) (a := .bool false) (b := .bool true) ((rdropL_key l hl id i hf).imp fun r S hr => .inr ⟨trivial, hr⟩) st R (fun hh => absurd trivial hh) (fun _ => h)

set_option maxHeartbeats 1000000 in
theorem rdrop_spec {S : Store} {p : Nat} {w : Wld} {v : AV} (hp : S.obj p = some (.cells (wldV w v))) (hv : RowsQ 10 untC S v w.U) (hoff : offB v p) (hm : MayF w) (c : Cmd) (R : AV → Store → Prop)
    (h : ∀ S', drE w c ≠ 0 → R (int (drE w c)) S') (h0 : drE w c = 0 → ∀ S' v', S'.obj p = some (.cells (wldV (drW w c) v')) → RowsQ 10 untC S' v' (drW w c).U → R (int 0) S') : ACalls Tryz.prog 56 [ptr p, .agg (cmdC c)] S R := by
  have hB := hm.hB
  obtain ⟨oa, cap, e, hget⟩ := hv.form
  subst e
  refine ACalls.of_body (c := cfg 50) infoOK Tryz.func56 (by rfl) (by rfl) (by rfl) (by rfl) ?_
  refine AWp.loop (σ := Nat) ⟨fun i => [(0, .av (ptr p)), (3, .bx 3 0), (5, .av (int (i : Nat)))], fun _ => [(3, cmdC c)],
    fun i st' => i ≤ w.B.length ∧ st' = S ∧ ∀ j, (hj : j < w.B.length) → j < i → w.B[j].id ≠ c.N, fun i => w.B.length - i⟩ infoOK ?_ ?_
  · exact ⟨0, trivial, ⟨Nat.zero_le _, rfl, fun j _ hj => by omega⟩, ⟨LV.le_refl _, LV.le_refl _, LV.le_refl _, trivial⟩, ⟨rfl, trivial⟩⟩
  rintro i st' ⟨hi, rfl, hno⟩
  refine optK_intro (o := st'.obj p) _ hp ?_
  refine bcase_intro (fun h1 => ?_) (fun h1 => ?_)
  rotate_left
  · have hil : i = w.B.length := ge_len h1 hi
    subst hil
    have hf : findB w.B c.N = none := by
      unfold findB
      rw [List.findIdx?_eq_none_iff]
      intro x hx
      obtain ⟨j, hj, rfl⟩ := List.getElem_of_mem hx
      exact decide_eq_false (hno j hj hj)
    have he : drE w c = 3 := by unfold drE; rw [hf]
    have := h st' (by rw [he]; decide)
    rw [he] at this
    exact ret this
  have hlt := lt_len h1
  refine ADraw.of_sched infoOK (by rfl) (by rfl) sch56_4 (by rfl) ?_
  refine optK_intro (o := st'.obj p) _ hp ?_
  refine ⟨i, rfl, optK_intro _ (rws_get hlt) ?_⟩
  refine bcne (fun c1 => ?_) (fun c1 => ?_)
  · refine in64 (by omega) ?_
    refine ⟨i + 1, ?_, ⟨by omega, rfl, fun j hj hji => ?_⟩, ⟨LV.le_refl _, LV.le_refl _, LV.le_refl _, trivial⟩, ⟨rfl, trivial⟩⟩
    · show w.B.length - (i + 1) < w.B.length - i
      omega
    · by_cases e : j = i
      · subst e; exact c1
      · exact hno j hj (by omega)
  have hf : findB w.B c.N = some i := by
    unfold findB
    rw [List.findIdx?_eq_some_iff_getElem]
    exact ⟨hlt, decide_eq_true c1, fun j hj => by simpa using hno j (by omega) hj⟩
  have he := drE_some hf hlt
  refine ADraw.of_sched infoOK (by rfl) (by rfl) sch56_5 (by rfl) ?_
  refine optK_intro (o := st'.obj p) _ hp ?_
  refine ⟨i, rfl, optK_intro _ (rws_get hlt) ?_⟩
  refine bcne (fun c2 => ?_) (fun c2 => ?_)
  · rw [if_neg c2] at he
    have := h st' (by rw [he]; decide)
    rw [he] at this
    exact ret this
  rw [if_pos c2] at he
  have hW2 : drW w c = { w with B := w.B.eraseIdx i } := by unfold drW; rw [hf]
  refine ADraw.of_sched infoOK (by rfl) (by rfl) sch56_7 (by rfl) ?_
  refine optK_intro (o := st'.obj p) _ hp ?_
  refine ⟨rdropL_spec w.B hB c.N i hf _ _ ⟨?_, ?_⟩, trivial⟩
  · repeat (first | exact trivial | refine ⟨rfl, ?_⟩ | refine ⟨optK_intro (o := st'.obj p) _ hp rfl, ?_⟩)
  refine ⟨?_, trivial⟩
  refine optK_intro _ rfl (guardK_none rfl (vcOp_store (v := lst 6 bldC (w.B.eraseIdx i)) rfl rfl rfl rfl ?_))
  refine storeK_obj (i := ti25) (v := lst 6 bldC (w.B.eraseIdx i)) (b := p) (o := 6) (l := wldV w (.s (.slice oa w.U.length cap))) rfl rfl rfl hp (show 6 + 1 ≤ 8 by decide) ?_
  have hp3 : (st'.setObj p (.cells (splice (wldV w (.s (.slice oa w.U.length cap))) 6 [lst 6 bldC (w.B.eraseIdx i)]))).obj p = some (.cells (wldV { w with B := w.B.eraseIdx i } (.s (.slice oa w.U.length cap)))) := setObj_self _ _ _
  have hr3 := hv.set hoff (.cells (splice (wldV w (.s (.slice oa w.U.length cap))) 6 [lst 6 bldC (w.B.eraseIdx i)]))
  refine ⟨trivial, ?_⟩
  exact ret (h0 he _ _ (by rw [hW2]; exact hp3) (by rw [hW2]; exact hr3))

theorem rapply5_raw (w : Wld) (hw : w.fits) (hn : ∀ u ∈ w.U, u.pos.ok) (hU : w.U.length ≤ 1000000) (c : Cmd) (hc : c.fits) (hK : c.K = 5) : ACalls Tryz.prog 34 [.agg (wldC w), .agg (cmdC c)] Store.empty (DoQ drE drW w c) := by
  refine ACalls.of_body (c := cfg 97 [6] []) infoOK Tryz.func34 (by rfl) (by rfl) (by rfl) (by rfl) ?_
  have bad : (¬ mayP w ∨ ¬ cmdP c ∨ w.players < c.P) → DoQ drE drW w c (.tup [.agg (wldC w), int 1]) Store.empty := fun hb => by
    have he := doE_bad (E := drE) (w := w) (c := c) hb
    exact .inl ⟨by rw [he]; decide, by rw [he]⟩
  refine rmay_spec w hw hn _ _ (fun z hz => ?_)
  refine bcnot ?_
  refine bcase_intro (fun c1 => ?_) (fun c1 => ?_)
  rotate_left
  · exact ret (bad (.inl fun hh => by have := hz.2 hh; rw [this] at c1; cases c1))
  refine command21_specC c hc _ _ (fun zc hzc => ?_)
  refine bcnot ?_
  refine bcase_intro (fun c2 => ?_) (fun c2 => ?_)
  rotate_left
  · exact ret (bad (.inr (.inl fun hh => by have := hzc.2 hh; rw [this] at c2; cases c2)))
  refine bcd (fun c3 => ?_) (fun c3 => ?_)
  · exact ret (bad (.inr (.inr (by omega))))
  have hm := hz.1 c1
  have hcp := hzc.1 c2
  have he := doE_ok (E := drE) hm hcp (show c.P ≤ w.players by omega)
  refine copyWorldR_spec w hw hU _ _ (fun v N hv _ => ?_)
  rw [un_empty]
  have hv := hv.q
  have hoff := fun (p : Nat) (hp : Fresh N p) => offB_fresh hv (not_has (fresh_iff.1 hp)).1
  obtain ⟨oa, cap, e, _⟩ := hv.form
  subst e
  refine fun p hp => ?_
  refine storeK_objL (i := ti28) (v := .agg (wldV w (.s (.slice oa w.U.length cap)))) (xs := wldV w (.s (.slice oa w.U.length cap))) (b := p) (o := 0) (l := _) rfl rfl rfl (setObj_self _ _ _) (show 0 + 8 ≤ 8 by decide) ?_
  generalize hS : (N.setObj p _).setObj p _ = S
  have hp2 : S.obj p = some (.cells (wldV w (.s (.slice oa w.U.length cap)))) := by rw [← hS]; exact setObj_self _ _ _
  have hr2 : RowsQ 10 untC S (.s (.slice oa w.U.length cap)) w.U := by rw [← hS]; exact (hv.set (hoff p hp) _).set (hoff p hp) _
  refine bceq (fun h => absurd (hK.symm.trans h) (by decide)) (fun _ => ?_)
  refine bceq (fun h => absurd (hK.symm.trans h) (by decide)) (fun _ => ?_)
  refine bceq (fun h => absurd (hK.symm.trans h) (by decide)) (fun _ => ?_)
  refine bceq (fun h => absurd (hK.symm.trans h) (by decide)) (fun _ => ?_)
  refine bceq (fun _ => ?_) (fun h => absurd hK h)
  refine rdrop_spec hp2 hr2 (hoff p hp) (mayF hm) c _ (fun S' hE => ?_) (fun hE S' v' g1 g2 => ?_)
  · refine bcne (fun _ => ?_) (fun h => absurd h hE)
    exact ret (.inl ⟨by rw [he]; exact hE, by rw [he]; rfl⟩)
  · obtain ⟨oa2, cap2, e2, _⟩ := g2.form
    subst e2
    refine optK_intro (o := S'.obj p) _ g1 ?_
    exact ret (.inr ⟨he.trans hE, _, g2, rfl⟩)


theorem ref5 : RefOK 5 drE drW := fun w hw hn hU c hc hK R h => doQ_froz (rapply5_raw w hw hn hU c hc hK) R h

theorem drW_len (w : Wld) (c : Cmd) (hm : mayP w) (hg : ¬ greatP w) : (drW w c).G.T.length ≤ 1000000 ∧ (drW w c).B.length ≤ 1000000 ∧ (drW w c).U.length ≤ 1000000 := by
  unfold greatP at hg
  unfold drW
  split
  · omega
  · dsimp only
    have := List.length_eraseIdx_le w.B ‹Nat›
    omega

theorem applyDrops_law (s : Scr) (hn : ∀ u ∈ s.W.U, u.pos.ok) (hf : ∀ c ∈ s.L, c.sized) (st : Store) (R : AV → Store → Prop) (h : R (V.bool true) st) : ACalls Tryz.prog 8 [.agg (scrC s)] st R := by
  refine ACalls.of_body (c := cfg 5) infoOK Tryz.func8 (by rfl) (by rfl) (by rfl) (by rfl) ?_
  refine only23_spec does5 ref5 drW_len wakes23_spec s hn hf _ _ ?_
  exact ret h
end Go.Proofs
