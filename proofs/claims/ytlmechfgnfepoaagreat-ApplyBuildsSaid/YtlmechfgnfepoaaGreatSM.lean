/- The ground on which laws of thronglaw23 are proved: contracts of functions and plain lemmas; no condition beyond the row's own. -/
import Derived.Test.YtlmechfgnfepoaaGreatSK
import Derived.Test.YtlmechfgnfepoaaGreatSL
import Derived.Test.YtlmechfgnfepoaaGreatSI
import Derived.Test.YtlmechfgnfepoaaGreatSJ
set_option linter.unusedSimpArgs false
set_option linter.unusedVariables false
namespace Go.Proofs
open Go Go.V
set_option linter.unusedVariables false
set_option linter.unusedSimpArgs false

theorem copyBldsR_key (l : List Bld) (hl : l.length ≤ 1000000) (R : AV → Store → Prop) (h : ∀ v N, RowsO 6 bldC N v l → R v N) : ACalls Tryz.prog 31 [lst 6 bldC l] Store.empty R := by
  refine ACalls.of_body (c := cfg 19) infoOK Tryz.func31 (by rfl) (by rfl) (by rfl) (by rfl) ?_
  refine AWp.loop (σ := Nat × AV × Store) ⟨fun s => [(0, .av (lst 6 bldC l)), (3, .av s.2.1), (4, .av (int s.1))], fun _ => [], fun s st' => s.1 ≤ l.length ∧ st' = s.2.2 ∧ RowsO 6 bldC s.2.2 s.2.1 (l.take s.1), fun s => l.length - s.1⟩ infoOK ?_ ?_
  · exact ⟨(0, _, Store.empty), trivial, ⟨Nat.zero_le _, rfl, .inl ⟨rfl, rfl⟩⟩, ⟨LV.le_refl _, LV.le_refl _, LV.le_refl _, trivial⟩, trivial⟩
  · rintro ⟨i, v, N⟩ st' ⟨hi, rfl, ha⟩
    dsimp only at hi ha ⊢
    refine bcase_intro (fun h1 => ?_) (fun h1 => ?_)
    · have hlt : i < l.length := lt_len h1
      refine ⟨i, rfl, optK_intro _ (rws_get hlt) ?_⟩
      refine ⟨by decide, ?_⟩
      refine appRows (ie := ti59) rfl (fun _ => rfl) (by decide) ha l[i] rfl (by rw [List.length_take]; omega) (fun b cap L q1 q2 q3 q4 => ?_)
      refine ⟨⟨by omega, by omega⟩, ?_⟩
      refine ⟨(i + 1, _, _), ?_, ⟨hlt, rfl, ?_⟩, ⟨LV.le_refl _, LV.le_refl _, LV.le_refl _, trivial⟩, trivial⟩
      · show l.length - (i + 1) < l.length - i
        omega
      · dsimp only
        rw [List.take_succ_eq_append_getElem hlt]
        exact .inr ⟨b, cap, L, rfl, setObj_self _ _ _, q2, q3, q4⟩
    · have hge : i = l.length := ge_len h1 hi
      subst hge
      rw [List.take_length] at ha
      exact ret (h _ _ ha)

theorem copyBldsR (l : List Bld) (hl : l.length ≤ 1000000) (st : Store) (R : AV → Store → Prop) (h : ∀ v N, RowsO 6 bldC N v l → Disj N st → R v (N.un st)) : ACalls Tryz.prog 31 [lst 6 bldC l] st R := by
  rw [← empty_un st]
  exact ACalls.frame (disj_emptyL st) (copyBldsR_key l hl (fun v N => RowsO 6 bldC N v l) fun v N hv => hv) fun v N hv hd => h v N hv hd


/-- A list that a call has made is plain from then on. -/
theorem madeB {f : FuncId} {xs : List AV} {q : Prop} {a b : Value} {l2 : List Bld} (h0 : ACalls Tryz.prog f xs Store.empty fun r S => (¬ q ∧ r = .tup [.s (.slice none 0 0), .s a]) ∨ (q ∧ ∃ v, RowsQ 6 bldC S v l2 ∧ r = .tup [v, .s b])) (st : Store) (R : AV → Store → Prop)
    (h : ¬ q → R (.tup [.s (.slice none 0 0), .s a]) st) (hq : q → R (.tup [lst 6 bldC l2, .s b]) st) : ACalls Tryz.prog f xs st R := by
  have h1 := h0.frozen (R := fun r => (¬ q ∧ r = .tup [.s (.slice none 0 0), .s a]) ∨ (q ∧ r = .tup [lst 6 bldC l2, .s b])) (by
    rintro r S (⟨h1, rfl⟩ | ⟨h1, v, hv, rfl⟩)
    · exact ⟨_, .inl ⟨h1, rfl⟩, fun Oth M w' v' sto hx => mono_borrow hx⟩
    · refine ⟨_, .inr ⟨h1, rfl⟩, fun Oth M w' v' sto hx => ?_⟩
      cases hx with
      | tup _ c2 hl hc2 =>
        refine .tup _ c2 hl fun i x y hx hy => ?_
        match i with
        | 0 => simp only [List.getElem?_cons_zero, Option.some.injEq] at hx; subst hx; exact lstQ_borrow hv sto (hc2 0 _ y rfl hy)
        | 1 => simp only [List.getElem?_cons_succ, List.getElem?_cons_zero, Option.some.injEq] at hx; subst hx; exact mono_borrow (hc2 1 _ y rfl hy)
        | i + 2 => simp at hx)
  have h2 : ACalls Tryz.prog f xs Store.empty fun r S => ((¬ q ∧ r = .tup [.s (.slice none 0 0), .s a]) ∨ (q ∧ r = .tup [lst 6 bldC l2, .s b])) ∧ S = Store.empty :=
    h1.post (Store.Le.refl _) fun r st' hr => ⟨r, Store.empty, AV.le_refl r, (hasE st').toLe, hr, rfl⟩
  rw [← empty_un st]
  exact ACalls.frame (disj_emptyL st) h2 fun r S ⟨e, e2⟩ hd => by
    subst e2
    rw [empty_un]
    rcases e with ⟨q, rfl⟩ | ⟨q, rfl⟩
    · exact h q
    · exact hq q

set_option maxHeartbeats 1000000 in
theorem radd_key (g : Gnd) (hg : gndP g) (l : List Bld) (hl : l.length ≤ 256) (hlb : ∀ b ∈ l, bldP b ∧ onP g b) (b : Bld) (hb : bldP b) (hid : ∀ x ∈ l, x.id < b.id) :
    ACalls Tryz.prog 87 [.agg (gndC g), lst 6 bldC l, .agg (bldC b)] Store.empty fun r S => (¬ putE g l b = 0 ∧ r = .tup [.s (.slice none 0 0), .s (.int .i64 (putE g l b))]) ∨ (putE g l b = 0 ∧ ∃ v, RowsQ 6 bldC S v (l ++ [b]) ∧ r = .tup [v, .s (.int .i64 0)]) := by
  have bad : ∀ n : Int, n ≠ 0 → putE g l b = n → ∀ st, ∃ r st', AV.le (.tup [.s (.slice none 0 0), int n]) r ∧ Store.Has st st' ∧ ((¬ putE g l b = 0 ∧ r = .tup [.s (.slice none 0 0), .s (.int .i64 (putE g l b))]) ∨ (putE g l b = 0 ∧ ∃ v, RowsQ 6 bldC st' v (l ++ [b]) ∧ r = .tup [v, .s (.int .i64 0)])) := fun n hn e st =>
    ret (.inl ⟨by rw [e]; exact hn, by rw [e]; rfl⟩)
  refine ACalls.of_body (c := cfg 75) infoOK Tryz.func87 (by rfl) (by rfl) (by rfl) (by rfl) ?_
  refine sides_spec b _ _ (fun z hz => ?_)
  refine bcnot ?_
  refine bcase_intro (fun c1 => ?_) (fun c1 => by have := hz.2 hb; rw [this] at c1; cases c1)
  refine ron_spec g b hg hb _ _ (fun z hz => ?_)
  refine bcnot ?_
  refine bcase_intro (fun c2 => ?_) (fun c2 => ?_)
  rotate_left
  · have hno : ¬ onP g b := fun hh => by have := hz.2 hh; rw [this] at c2; cases c2
    exact bad 3 (by decide) (by unfold putE; rw [if_pos hno]) _
  have hon := hz.1 c2
  refine AWp.loop (σ := Nat) ⟨fun i => [(1, .av (lst 6 bldC l)), (3, .bx 3 0), (5, .bx 5 0), (8, .av (int (i : Nat)))], fun _ => [(3, gndC g), (5, bldC b)],
    fun i st' => i ≤ l.length ∧ st' = Store.empty ∧ ∀ j, (hj : j < l.length) → j < i → ¬ meetP l[j] b, fun i => l.length - i⟩ infoOK ?_ ?_
  · exact ⟨0, trivial, ⟨Nat.zero_le _, rfl, fun j _ hj => by omega⟩, ⟨LV.le_refl _, LV.le_refl _, LV.le_refl _, LV.le_refl _, trivial⟩, ⟨rfl, rfl, trivial⟩⟩
  rintro i st' ⟨hi, rfl, hno⟩
  refine bcase_intro (fun h1 => ?_) (fun h1 => ?_)
  · have hlt := lt_len h1
    have hbi := hlb l[i] (List.getElem_mem hlt)
    have hidi := hid l[i] (List.getElem_mem hlt)
    refine ADraw.of_sched infoOK (by rfl) (by rfl) sch87_8 (by rfl) ?_
    refine ⟨i, rfl, optK_intro _ (rws_get hlt) ?_⟩
    refine bceq (fun c3 => absurd c3 (by omega)) (fun c3 => ?_)
    refine ⟨i, rfl, optK_intro _ (rws_get hlt) ?_⟩
    refine ⟨meet_spec g hg l[i] b hbi ⟨hb, hon⟩ _ _ (fun z hz => ⟨trivial, ?_⟩), trivial⟩
    refine bcase_intro (fun c4 => ?_) (fun c4 => ?_)
    · have hex : ∃ x ∈ l, meetP x b := ⟨l[i], List.getElem_mem hlt, hz.1 c4⟩
      exact bad 12 (by decide) (by unfold putE; rw [if_neg (fun h => h hon), if_pos hex]) _
    refine in64 (by omega) ?_
    refine ⟨i + 1, ?_, ⟨by omega, rfl, fun j hj hji => ?_⟩, ⟨LV.le_refl _, LV.le_refl _, LV.le_refl _, LV.le_refl _, trivial⟩, ⟨rfl, rfl, trivial⟩⟩
    · show l.length - (i + 1) < l.length - i
      omega
    · by_cases e : j = i
      · subst e
        exact fun hh => by have := hz.2 hh; rw [this] at c4; cases c4
      · exact hno j hj (by omega)
  have hil : i = l.length := ge_len h1 hi
  subst hil
  have hnex : ¬ ∃ x ∈ l, meetP x b := fun ⟨x, hx, h2⟩ => by
    obtain ⟨j, hj, rfl⟩ := List.getElem_of_mem hx
    exact hno j hj hj h2
  refine rfirm_spec g hg b ⟨hb, hon⟩ _ _ (fun z hz => ?_)
  refine bcnot ?_
  refine bcase_intro (fun c4 => ?_) (fun c4 => ?_)
  rotate_left
  · have hno : ¬ firmP g b := fun hh => by have := hz.2 hh; rw [this] at c4; cases c4
    exact bad 5 (by decide) (by unfold putE; rw [if_neg (fun h => h hon), if_neg hnex, if_pos hno]) _
  have hfi := hz.1 c4
  have hlen : ((rws bldC l).length : Int) = (l.length : Int) := by rw [rws_len]
  refine bcd (fun c5 => ?_) (fun c5 => ?_)
  · exact bad 4 (by decide) (by unfold putE; rw [if_neg (fun h => h hon), if_neg hnex, if_neg (fun h => h hfi), if_pos (by omega)]) _
  have h0 : putE g l b = 0 := by unfold putE; rw [if_neg (fun h => h hon), if_neg hnex, if_neg (fun h => h hfi), if_neg (by omega)]
  refine AWp.loop (σ := Nat) ⟨fun i => [(1, .av (lst 6 bldC l)), (5, .bx 5 0), (9, .av (int (i : Nat)))], fun _ => [(5, bldC b)],
    fun i st' => i ≤ l.length ∧ st' = Store.empty, fun i => l.length - i⟩ infoOK ?_ ?_
  · exact ⟨0, trivial, ⟨Nat.zero_le _, rfl⟩, ⟨LV.le_refl _, LV.le_refl _, LV.le_refl _, trivial⟩, ⟨rfl, trivial⟩⟩
  rintro i st' ⟨hi, rfl⟩
  refine ADraw.of_sched infoOK (by rfl) (by rfl) sch87_15 (by rfl) ?_
  refine bcase_intro (fun h1 => ?_) (fun h1 => ?_)
  · have hlt := lt_len h1
    have hidi := hid l[i] (List.getElem_mem hlt)
    refine ⟨i, rfl, optK_intro _ (rws_get hlt) ?_⟩
    refine bcd (fun c6 => ?_) (fun c6 => absurd hidi c6)
    refine in64 (by omega) ?_
    refine ⟨i + 1, ?_, ⟨by omega, rfl⟩, ⟨LV.le_refl _, LV.le_refl _, LV.le_refl _, trivial⟩, ⟨rfl, trivial⟩⟩
    show l.length - (i + 1) < l.length - i
    omega
  have hil : i = l.length := ge_len h1 hi
  subst hil
  refine ADraw.of_sched infoOK (by rfl) (by rfl) sch87_17 (by rfl) ?_
  refine ⟨0, l.length, rfl, rfl, Nat.zero_le _, by rw [rws_len]; exact Nat.le_refl _, ?_⟩
  refine ⟨by decide, ?_⟩
  refine ⟨ACalls.le (ys := [lst 6 bldC l]) ⟨by rw [List.drop_zero, ← rws_len (f := bldC) l, List.take_length]; exact AV.le_refl _, trivial⟩ (copyBldsR l (by omega) _ _ (fun v N hv hd => ⟨(by repeat (first | exact trivial | refine ⟨rfl, ?_⟩ | refine ⟨optR (optR (optR (optK_intro _ (setObj_self _ _ _) rfl))), ?_⟩)), ?_⟩)), trivial⟩
  have hvQ : RowsQ 6 bldC (N.un Store.empty) v l := hv.q.unL hd
  refine ⟨appRowsQ (ie := ti59) rfl bldC_lenQ (by decide) hvQ b rfl (by omega) (fun b2 cap2 L2 q1 q2 q3 q4 => ⟨trivial, ?_⟩), trivial⟩
  have hv2 : RowsQ 6 bldC ((N.un Store.empty).setObj b2 (.cells ((rws bldC (l ++ [b])).flatten ++ L2))) (.s (.slice (some ⟨b2, 0, none⟩) (l ++ [b]).length cap2)) (l ++ [b]) := .inl (.inr ⟨b2, cap2, L2, rfl, setObj_self _ _ _, q2, q3, q4⟩)
  refine ⟨⟨trivial, ?_⟩, trivial⟩
  refine ⟨l.length, l.length, rfl, by rw [rws_len]; rfl, Nat.le_refl _, by rw [rws_len]; exact Nat.le_refl _, ?_⟩
  refine app0Q (ie := ti59) rfl bldC_lenQ (by decide) hv2 (by simp) ?_ (by rw [List.length_append, List.length_singleton]; omega) (fun v' st' hv' => ?_)
  · rw [List.drop_of_length_le (by rw [List.length_take, rws_len]; omega)]; rfl
  exact ret (.inr ⟨h0, _, hv', rfl⟩)

theorem rbadd_spec (g : Gnd) (hg : gndP g) (l : List Bld) (hl : l.length ≤ 256) (hlb : ∀ b ∈ l, bldP b ∧ onP g b) (b : Bld) (hb : bldP b) (hid : ∀ x ∈ l, x.id < b.id) (st : Store) (R : AV → Store → Prop)
    (h : ¬ putE g l b = 0 → R (.tup [.s (.slice none 0 0), int (putE g l b)]) st) (h0 : putE g l b = 0 → R (.tup [lst 6 bldC (l ++ [b]), int 0]) st) : ACalls Tryz.prog 87 [.agg (gndC g), lst 6 bldC l, .agg (bldC b)] st R :=
  madeB (radd_key g hg l hl hlb b hb hid) st R h h0
end Go.Proofs
namespace Go.Proofs
open Go Go.V
set_option linter.unusedVariables false
set_option linter.unusedSimpArgs false

set_option maxHeartbeats 2000000 in
set_option maxRecDepth 20000 in
theorem rbuild_spec {S : Store} {p : Nat} {w : Wld} {v : AV} (hp : S.obj p = some (.cells (wldV w v))) (hv : RowsQ 10 untC S v w.U) (hoff : offB v p) (hm : mayP w) (hn : ∀ u ∈ w.U, u.pos.ok) (c : Cmd) (hc : cmdP c) (hk : c.K = 4) (R : AV → Store → Prop)
    (h : ∀ S', bdE w c ≠ 0 → R (int (bdE w c)) S') (h0 : bdE w c = 0 → ∀ S' v', S'.obj p = some (.cells (wldV (bdW w c) v')) → RowsQ 10 untC S' v' (bdW w c).U → R (int 0) S') : ACalls Tryz.prog 55 [ptr p, .agg (cmdC c)] S R := by
  have mf := mayF hm
  have hg := mf.hg
  have hg1 := hg.1
  have hg2 := hg.2.1
  have hn2 := mf.hn2
  have hn1 := mf.hn1
  have hU := mf.hU
  have hpl := onG_place hm
  have hok := (Cmd.ok4 hk).1 hc.1
  have hT := hok.1
  unfold tileP at hT
  have ha := gnd_area hg
  obtain ⟨oa, cap, e, hget⟩ := hv.form
  subst e
  have hq2 : c.T.tdiv w.G.W = c.T / w.G.W := Int.tdiv_eq_ediv_of_nonneg hT.1
  have hq3 : 0 ≤ c.T / w.G.W ∧ c.T / w.G.W ≤ c.T := ⟨Int.ediv_nonneg hT.1 (by omega), Int.ediv_le_self _ hT.1⟩
  have bad : ∀ n : Int, n ≠ 0 → bdE w c = n → ∀ S, R (int n) S := fun n hn e S => by
    have := h S (by rw [e]; exact hn)
    rw [e] at this
    exact this
  refine ACalls.of_body (c := cfg 116) infoOK Tryz.func55 (by rfl) (by rfl) (by rfl) (by rfl) ?_
  refine optK_intro (o := S.obj p) _ hp ?_
  refine tile5_spec w.G c.T hg _ _ (fun z hz => ?_)
  refine bcnot ?_
  refine bcase_intro (fun c1 => ?_) (fun c1 => ?_)
  rotate_left
  · have hno : ¬ (0 ≤ c.T ∧ c.T < w.G.W * w.G.H) := fun hh => by have := hz.2 hh; rw [this] at c1; cases c1
    exact ret (bad 3 (by decide) (by unfold bdE; rw [if_pos hno]) _)
  have ht := hz.1 c1
  refine optK_intro (o := S.obj p) _ hp ?_
  refine bcd (fun c2 => ?_) (fun c2 => ?_)
  · exact ret (bad 4 (by decide) (by unfold bdE; rw [if_neg (fun hh => hh ht), if_pos (by omega)]) _)
  have hnx : ¬ 1099511627776 ≤ w.next := by omega
  obtain ⟨hbp, hid⟩ := bdB_ok hm hc hk hnx
  refine ADraw.of_sched infoOK (by rfl) (by rfl) sch55_6 (by rfl) ?_
  refine optK_intro (o := S.obj p) _ hp ?_
  refine ⟨by omega, ?_⟩
  refine ⟨by omega, ?_⟩
  refine in64 (by rw [hq2]; omega) ?_
  refine ⟨⟨?_, ?_⟩, trivial⟩
  · repeat (first | exact trivial | refine ⟨rfl, ?_⟩ | refine ⟨optK_intro (o := S.obj p) _ hp rfl, ?_⟩ | refine ⟨⟨by omega, rfl⟩, ?_⟩ | refine ⟨⟨by omega, in64 (by rw [hq2]; omega) rfl⟩, ?_⟩)
  refine ⟨⟨trivial, ?_⟩, trivial⟩
  refine ADraw.of_sched infoOK (by rfl) (by rfl) sch55_7 (by rfl) ?_
  refine optK_intro (o := S.obj p) _ hp ?_
  refine ⟨rbadd_spec w.G hg w.B mf.hB mf.hb (bdB w c) hbp hid _ _ (fun he => ⟨?_, ?_⟩) (fun he => ⟨?_, ?_⟩), trivial⟩
  · repeat (first | exact trivial | refine ⟨rfl, ?_⟩ | refine ⟨optK_intro (o := S.obj p) _ hp rfl, ?_⟩)
  · refine ⟨⟨trivial, ?_⟩, trivial⟩
    refine ⟨⟨trivial, ?_⟩, trivial⟩
    refine bcne (fun _ => ?_) (fun hh => absurd hh he)
    have e1 : bdE w c = putE w.G w.B (bdB w c) := by unfold bdE; rw [if_neg (fun hh => hh ht), if_neg hnx, if_neg he]
    have := h S (by rw [e1]; exact he)
    rw [e1] at this
    exact ret this
  · repeat (first | exact trivial | refine ⟨rfl, ?_⟩ | refine ⟨optK_intro (o := S.obj p) _ hp rfl, ?_⟩)
  refine ⟨⟨trivial, ?_⟩, trivial⟩
  refine ⟨⟨trivial, ?_⟩, trivial⟩
  have hon : onP w.G (bdB w c) := Classical.byContradiction fun hh => by
    unfold putE at he
    rw [if_pos hh] at he
    cases he
  have e1 : bdE w c = (by classical exact if meetsW w (bdB w c) then 5 else 0) := by
    unfold bdE
    rw [if_neg (fun hh => hh ht), if_neg hnx, if_pos he]
  obtain ⟨b, hB⟩ : ∃ b, bdB w c = b := ⟨_, rfl⟩
  rw [hB] at hbp hid hon he e1
  have yes : meetsW w b → R (int 5) S := fun hh => bad 5 (by decide) (by rw [e1, if_pos hh]) _
  refine AWp.loop (σ := Nat) ⟨fun t => [(0, .av (ptr p)), (5, .bx 5 0), (6, .bx 6 0), (7, .av (lst 6 bldC (w.B ++ [b]))), (9, .av (int (t : Nat)))], fun _ => [(5, gndC w.G), (6, bldC b)],
    fun t st' => (t : Int) ≤ w.G.W * w.G.H ∧ st' = S ∧ ∀ t', t' < t → hasP w.G b t' → ∀ u ∈ w.U, u.inn = 0 → ¬ hitP w.G t' u.pos (kRad u.kind), fun t => w.G.T.length - t⟩ infoOK ?_ ?_
  · exact ⟨0, trivial, ⟨by omega, rfl, fun t' ht' => absurd ht' (Nat.not_lt_zero _)⟩, ⟨LV.le_refl _, LV.le_refl _, LV.le_refl _, by rw [← hB]; exact LV.le_refl _, LV.le_refl _, trivial⟩, ⟨rfl, by rw [← hB]; rfl, trivial⟩⟩
  rintro t st' ⟨htl, rfl, hno⟩
  refine in64 (by omega) ?_
  refine bcd (fun h1 => ?_) (fun h1 => ?_)
  rotate_left
  · have hnm : ¬ meetsW w b := by
      rintro ⟨t', ⟨h2, h3⟩, u, hu, h4, h5⟩
      exact hno t' (by omega) h3 u hu h4 h5
    have hz0 : bdE w c = 0 := by rw [e1, if_neg hnm]
    refine storeK_obj (i := ti25) (v := lst 6 bldC (w.B ++ [b])) (b := p) (o := 6) (l := wldV w (.s (.slice oa w.U.length cap))) rfl rfl rfl hp (show 6 + 1 ≤ 8 by decide) ?_
    have hp2 : (st'.setObj p (.cells (splice (wldV w (.s (.slice oa w.U.length cap))) 6 [lst 6 bldC (w.B ++ [b])]))).obj p = some (.cells (wldV { w with B := w.B ++ [b] } (.s (.slice oa w.U.length cap)))) := setObj_self _ _ _
    have hr2 := hv.set hoff (.cells (splice (wldV w (.s (.slice oa w.U.length cap))) 6 [lst 6 bldC (w.B ++ [b])]))
    generalize st'.setObj p _ = S2 at hp2 hr2 ⊢
    refine optK_intro (o := S2.obj p) _ hp2 ?_
    refine in64 (by dsimp only; omega) ?_
    refine storeK_obj (i := ti3) (v := int (w.next + 1)) (b := p) (o := 2) (l := wldV { w with B := w.B ++ [b] } (.s (.slice oa w.U.length cap))) rfl rfl rfl hp2 (show 2 + 1 ≤ 8 by decide) ?_
    subst hB
    exact ret (h0 hz0 _ _ (setObj_self _ _ _) (hr2.set hoff _))
  have htW : (t : Int) < w.G.W * w.G.H := h1
  refine AWp.loop (σ := Nat) ⟨fun i => [(0, .av (ptr p)), (5, .bx 5 0), (6, .bx 6 0), (7, .av (lst 6 bldC (w.B ++ [b]))), (9, .av (int (t : Nat))), (10, .av (int (i : Nat)))], fun _ => [(5, gndC w.G), (6, bldC b)],
    fun i st2 => i ≤ w.U.length ∧ st2 = st' ∧ (0 < i → hasP w.G b t) ∧ ∀ j, (hj : j < w.U.length) → j < i → w.U[j].inn = 0 → ¬ hitP w.G t w.U[j].pos (kRad w.U[j].kind), fun i => w.U.length - i⟩ infoOK ?_ ?_
  · exact ⟨0, trivial, ⟨Nat.zero_le _, rfl, fun hh => absurd hh (Nat.lt_irrefl _), fun j _ hj => absurd hj (Nat.not_lt_zero _)⟩, ⟨LV.le_refl _, LV.le_refl _, LV.le_refl _, LV.le_refl _, LV.le_refl _, LV.le_refl _, trivial⟩, ⟨rfl, rfl, trivial⟩⟩
  rintro i st2 ⟨hi, rfl, hhas, hnk⟩
  have next : (hasP w.G b t → ∀ u ∈ w.U, u.inn = 0 → ¬ hitP w.G t u.pos (kRad u.kind)) → ∀ t', t' < t + 1 → hasP w.G b t' → ∀ u ∈ w.U, u.inn = 0 → ¬ hitP w.G t' u.pos (kRad u.kind) := fun hh t' ht' => by
    by_cases e : t' = t
    · subst e; exact hh
    · exact hno t' (by omega)
  refine optK_intro (o := st2.obj p) _ hp ?_
  refine bcd (fun h2 => ?_) (fun h2 => ?_)
  rotate_left
  · have hil : i = w.U.length := by omega
    subst hil
    refine in64 (by omega) ?_
    refine ⟨t + 1, ?_, ⟨by omega, rfl, next fun _ u hu h3 h4 => ?_⟩, ⟨LV.le_refl _, LV.le_refl _, LV.le_refl _, LV.le_refl _, LV.le_refl _, trivial⟩, ⟨rfl, rfl, trivial⟩⟩
    · show w.G.T.length - (t + 1) < w.G.T.length - t
      omega
    · obtain ⟨j, hj, rfl⟩ := List.getElem_of_mem hu
      exact hnk j hj hj h3 h4
  have hlt : i < w.U.length := by omega
  refine has_spec w.G hg b ⟨hbp, hon⟩ t htW _ _ (fun z hz => ?_)
  refine bcase_intro (fun c4 => ?_) (fun c4 => ?_)
  rotate_left
  · have hnh : ¬ hasP w.G b t := fun hh => by have := hz.2 hh; rw [this] at c4; cases c4
    refine in64 (by omega) ?_
    refine ⟨t + 1, ?_, ⟨by omega, rfl, next fun hh => absurd hh hnh⟩, ⟨LV.le_refl _, LV.le_refl _, LV.le_refl _, LV.le_refl _, LV.le_refl _, trivial⟩, ⟨rfl, rfl, trivial⟩⟩
    show w.G.T.length - (t + 1) < w.G.T.length - t
    omega
  have hh := hz.1 c4
  obtain ⟨bb, J, rfl, hob⟩ := hget i hlt
  refine optK_intro (o := st2.obj p) _ hp ?_
  refine ⟨i, rfl, hlt, ?_⟩
  refine optK_intro (o := st2.obj bb) _ hob ?_
  refine partK_row (i := ti50) (row := untC w.U[i]) rfl rfl (rows_drop untC_len hlt) ?_
  have step : (w.U[i].inn = 0 → ¬ hitP w.G t w.U[i].pos (kRad w.U[i].kind)) → ∀ j, (hj : j < w.U.length) → j < i + 1 → w.U[j].inn = 0 → ¬ hitP w.G t w.U[j].pos (kRad w.U[j].kind) := fun q j hj hji => by
    by_cases e : j = i
    · subst e; exact q
    · exact hnk j hj (by omega)
  have hui := List.getElem_mem hlt
  have hkr := kRad_b w.U[i].kind
  refine ADraw.of_sched infoOK (by rfl) (by rfl) sch55_17 (by rfl) ?_
  refine bceq (fun c5 => ?_) (fun c5 => ?_)
  · refine ⟨rkind_spec w.U[i].kind (mf.hk _ hui) _ _ ⟨(by repeat (first | exact trivial | refine ⟨rfl, ?_⟩ | refine ⟨optR (optR (optR (optK_intro _ (setObj_self _ _ _) rfl))), ?_⟩)), ?_⟩, trivial⟩
    refine ⟨meets_spec w.G hg t htW w.U[i].pos (hpl _ hui c5) (kRad w.U[i].kind) ⟨hkr.1, by omega⟩ _ _ ⟨trivial, ?_⟩, trivial⟩
    refine bcd (fun c6 => ?_) (fun c6 => ?_)
    · exact ret (yes ⟨t, ⟨htW, hh⟩, w.U[i], hui, c5, c6⟩)
    refine in64 (by omega) ?_
    refine ⟨i + 1, ?_, ⟨by omega, rfl, fun _ => hh, step fun _ => c6⟩, ⟨LV.le_refl _, LV.le_refl _, LV.le_refl _, LV.le_refl _, LV.le_refl _, LV.le_refl _, trivial⟩, ⟨rfl, rfl, trivial⟩⟩
    show w.U.length - (i + 1) < w.U.length - i
    omega
  · refine ⟨⟨(by repeat (first | exact trivial | refine ⟨rfl, ?_⟩ | refine ⟨optR (optR (optR (optK_intro _ (setObj_self _ _ _) rfl))), ?_⟩)), ?_⟩, trivial⟩
    refine ⟨⟨trivial, ?_⟩, trivial⟩
    refine in64 (by omega) ?_
    refine ⟨i + 1, ?_, ⟨by omega, rfl, fun _ => hh, step fun q => absurd q c5⟩, ⟨LV.le_refl _, LV.le_refl _, LV.le_refl _, LV.le_refl _, LV.le_refl _, LV.le_refl _, trivial⟩, ⟨rfl, rfl, trivial⟩⟩
    show w.U.length - (i + 1) < w.U.length - i
    omega
end Go.Proofs
namespace Go.Proofs
open Go Go.V
set_option linter.unusedVariables false
set_option linter.unusedSimpArgs false

theorem rapply4_raw (w : Wld) (hw : w.fits) (hn : ∀ u ∈ w.U, u.pos.ok) (hU : w.U.length ≤ 1000000) (c : Cmd) (hc : c.fits) (hK : c.K = 4) : ACalls Tryz.prog 34 [.agg (wldC w), .agg (cmdC c)] Store.empty (DoQ bdE bdW w c) := by
  refine ACalls.of_body (c := cfg 97 [6] []) infoOK Tryz.func34 (by rfl) (by rfl) (by rfl) (by rfl) ?_
  have bad : (¬ mayP w ∨ ¬ cmdP c ∨ w.players < c.P) → DoQ bdE bdW w c (.tup [.agg (wldC w), int 1]) Store.empty := fun hb => by
    have he := doE_bad (E := bdE) (w := w) (c := c) hb
    exact .inl ⟨by rw [he]; decide, by rw [he]⟩
  refine rmay_spec w hw hn _ _ (fun z hz => ?_)
  refine bcnot ?_
  refine bcase_intro (fun c1 => ?_) (fun c1 => ?_)
  rotate_left
  · exact ret (bad (.inl fun hh => by have := hz.2 hh; rw [this] at c1; cases c1))
  refine command21_specC c hc _ _ (fun zc hzc => ?_)
  refine bcnot ?_
  refine bcase_intro (fun c2 => ?_) (fun c2 => ?_)
  rotate_left
  · exact ret (bad (.inr (.inl fun hh => by have := hzc.2 hh; rw [this] at c2; cases c2)))
  refine bcd (fun c3 => ?_) (fun c3 => ?_)
  · exact ret (bad (.inr (.inr (by omega))))
  have hm := hz.1 c1
  have hcp := hzc.1 c2
  have he := doE_ok (E := bdE) hm hcp (show c.P ≤ w.players by omega)
  refine copyWorldR_spec w hw hU _ _ (fun v N hv _ => ?_)
  rw [un_empty]
  have hv := hv.q
  have hoff := fun (p : Nat) (hp : Fresh N p) => offB_fresh hv (not_has (fresh_iff.1 hp)).1
  obtain ⟨oa, cap, e, _⟩ := hv.form
  subst e
  refine fun p hp => ?_
  refine storeK_objL (i := ti28) (v := .agg (wldV w (.s (.slice oa w.U.length cap)))) (xs := wldV w (.s (.slice oa w.U.length cap))) (b := p) (o := 0) (l := _) rfl rfl rfl (setObj_self _ _ _) (show 0 + 8 ≤ 8 by decide) ?_
  generalize hS : (N.setObj p _).setObj p _ = S
  have hp2 : S.obj p = some (.cells (wldV w (.s (.slice oa w.U.length cap)))) := by rw [← hS]; exact setObj_self _ _ _
  have hr2 : RowsQ 10 untC S (.s (.slice oa w.U.length cap)) w.U := by rw [← hS]; exact (hv.set (hoff p hp) _).set (hoff p hp) _
  refine bceq (fun h => absurd (hK.symm.trans h) (by decide)) (fun _ => ?_)
  refine bceq (fun h => absurd (hK.symm.trans h) (by decide)) (fun _ => ?_)
  refine bceq (fun h => absurd (hK.symm.trans h) (by decide)) (fun _ => ?_)
  refine bceq (fun _ => ?_) (fun h => absurd hK h)
  refine rbuild_spec hp2 hr2 (hoff p hp) hm hn c hcp hK _ (fun S' hE => ?_) (fun hE S' v' g1 g2 => ?_)
  · refine bcne (fun _ => ?_) (fun h => absurd h hE)
    exact ret (.inl ⟨by rw [he]; exact hE, by rw [he]; rfl⟩)
  · obtain ⟨oa2, cap2, e2, _⟩ := g2.form
    subst e2
    refine optK_intro (o := S'.obj p) _ g1 ?_
    exact ret (.inr ⟨he.trans hE, _, g2, rfl⟩)


theorem ref4 : RefOK 4 bdE bdW := fun w hw hn hU c hc hK R h => doQ_froz (rapply4_raw w hw hn hU c hc hK) R h

theorem bdW_len (w : Wld) (c : Cmd) (hm : mayP w) (hg : ¬ greatP w) : (bdW w c).G.T.length ≤ 1000000 ∧ (bdW w c).B.length ≤ 1000000 ∧ (bdW w c).U.length ≤ 1000000 := by
  unfold greatP at hg
  unfold bdW
  dsimp only
  rw [List.length_append, List.length_singleton]
  omega

theorem applyBuilds_law (s : Scr) (hn : ∀ u ∈ s.W.U, u.pos.ok) (hf : ∀ c ∈ s.L, c.sized) (st : Store) (R : AV → Store → Prop) (h : R (V.bool true) st) : ACalls Tryz.prog 7 [.agg (scrC s)] st R := by
  refine ACalls.of_body (c := cfg 5) infoOK Tryz.func7 (by rfl) (by rfl) (by rfl) (by rfl) ?_
  refine only23_spec does4 ref4 bdW_len wakes23_spec s hn hf _ _ ?_
  exact ret h
end Go.Proofs
