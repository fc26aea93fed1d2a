/- The ground on which laws of thronglaw23 are proved: contracts of functions and plain lemmas; no condition beyond the row's own. -/
import Derived.Test.YtlmechfgnfepoaaGreatSL
import Derived.Test.YtlmechfgnfepoaaGreatSM
import Derived.Test.YtlmechfgnfepoaaGreatSK
import Derived.Test.YtlmechfgnfepoaaGreatSI
import Derived.Test.YtlmechfgnfepoaaGreatSG
set_option linter.unusedSimpArgs false
set_option linter.unusedVariables false
namespace Go.Proofs
open Go Go.V
set_option linter.unusedVariables false
set_option linter.unusedSimpArgs false
theorem max2_eq (a b : Int) : max2 a b = max a b := by
  unfold max2
  by_cases h : b > a
  · rw [decide_eq_true h]; show b = _; omega
  · rw [decide_eq_false h]; show a = _; omega
/-- What is handed back as numbers in memory of its own is a plain list from then on. -/
theorem ints_own {f : FuncId} {xs : List AV} {l : List Int} (h0 : ACalls Tryz.prog f xs Store.empty fun r S => RowsQ 1 intC S r l) (st : Store) (R : AV → Store → Prop) (h : R (ints l) st) : ACalls Tryz.prog f xs st R := by
  have h1 := h0.frozen (R := fun r => r = ints l) (by
    rintro r S hv
    exact ⟨_, rfl, fun Oth M w' v' sto hx => RowsQ.borrow (f := intC) (k := 1) (fun _ => rfl) (fun x y hy => by simp [intC] at hy; exact ⟨_, hy, rfl⟩) hv sto hx⟩)
  have h2 : ACalls Tryz.prog f xs Store.empty fun r S => r = ints l ∧ S = Store.empty :=
    h1.post (Store.Le.refl _) fun r st' hr => ⟨r, Store.empty, AV.le_refl r, (hasE st').toLe, hr, rfl⟩
  rw [← empty_un st]
  exact ACalls.frame (disj_emptyL st) h2 fun r S ⟨e, e2⟩ hd => by subst e e2; rw [empty_un]; exact h
theorem rowsQ_nil {α : Type} {k : Nat} {f : α → List AV} (S : Store) : RowsQ k f S (.s (.slice none 0 0)) ([] : List α) := .inl (.inl ⟨rfl, rfl⟩)
set_option maxHeartbeats 1000000 in
theorem about_raw (g : Gnd) (hg : gndP g) (f : Nat → Bool) (size : Int) (hs : 0 ≤ size ∧ size ≤ 3) (t : Nat) (ht : t < g.T.length) (n : Nat) (hn : n ≤ 1000) :
    ACalls Tryz.prog 202 [.agg (gndC g), lst 1 boolC (blL g.T.length f), int size, int t, int n] Store.empty fun r S => RowsQ 1 intC S r (natI (slotsL g f size (t : Int) n)) := by
  have hm := gnd_area hg
  have hg1 := hg.1
  have hg2 := hg.2.1
  have hdone := fun (d : Nat) hh => slots_done hg (f := f) (size := size) (goal := (t : Int)) (d := d) (n := n) ⟨by omega, by omega⟩ hh
  have hstep := fun (x y : Int) (k d : Nat) hk hd => slotsTo_step (g := g) (f := f) (x := x) (y := y) (k := k) (d := d) hk hd
  obtain ⟨k, hk⟩ : ∃ k : Nat, 2 * size + 1 = (k : Int) := ⟨(2 * size + 1).toNat, by omega⟩
  rw [hk] at hdone
  have ring := ring_spec g hg t ht
  generalize hx : (t : Int) % g.W = x at *
  generalize hy : (t : Int) / g.W = y at *
  refine ACalls.of_body (c := cfg 60) infoOK Tryz.func202 (by rfl) (by rfl) (by rfl) (by rfl) ?_
  refine in64 (by omega) ?_
  refine in64 (by omega) ?_
  refine AWp.loop (σ := Nat × AV) ⟨fun s => [(1, .av (lst 1 boolC (blL g.T.length f))), (3, .av (int (t : Nat))), (4, .av (int (n : Nat))), (5, .bx 5 0), (10, .av s.2), (11, .av (int (k : Nat))), (12, .av (int ((s.1 * k : Nat))))], fun _ => [(5, gndC g)],
    fun s st' => s.1 * k ≤ 200 ∧ RowsQ 1 intC st' s.2 (natI ((slotsTo g f x y k (s.1 * k)).take n)), fun s => 300 - s.1 * k⟩ infoOK ?_ ?_
  · refine ⟨(0, _), trivial, ⟨by dsimp only; omega, ?_⟩, ⟨LV.le_refl _, LV.le_refl _, LV.le_refl _, LV.le_refl _, LV.le_refl _, ?_, ?_, trivial⟩, ⟨rfl, trivial⟩⟩
    · dsimp only
      rw [Nat.zero_mul]
      show RowsQ 1 intC _ _ (natI (([] : List Nat).take n))
      rw [List.take_nil]
      exact rowsQ_nil _
    · rw [← hk]; exact LV.le_refl _
    · dsimp only
      rw [Nat.zero_mul]; exact LV.le_refl _
  rintro ⟨m, v⟩ st' ⟨hm2, hap⟩
  dsimp only at hm2 hap ⊢
  obtain ⟨d, hd⟩ : ∃ d : Nat, m * k = d := ⟨_, rfl⟩
  have hdv : k ∣ d := ⟨m, by rw [Nat.mul_comm]; exact hd.symm⟩
  have hm1 : (m + 1) * k = d + k := by rw [Nat.add_mul, Nat.one_mul, hd]
  rw [hd] at hm2 hap ⊢
  obtain ⟨oa, cap, e, _⟩ := hap.form
  subst e
  have hlenT : (natI ((slotsTo g f x y k d).take n)).length = ((slotsTo g f x y k d).take n).length := natI_len _
  refine bcd (fun h1 => ?_) (fun h1 => ?_)
  rotate_left
  · rw [max2_eq] at h1
    have e := hdone d (.inr (by omega))
    exact ret (by rw [← e]; exact hap)
  refine bcd (fun h2 => ?_) (fun h2 => ?_)
  rotate_left
  · rw [hlenT, List.length_take] at h2
    have e := hdone d (.inl (by omega))
    exact ret (by rw [← e]; exact hap)
  have h1 : (d : Int) ≤ max g.W g.H := by rw [max2_eq] at h1; exact h1
  refine ring d k ⟨by omega, by omega⟩ ⟨by omega, by omega⟩ _ _ ?_
  have hstep := hstep x y k d (by omega) hdv
  have hL : ∀ u ∈ ringL g x y k d, u < g.T.length := fun u hu => List.mem_range.1 (List.mem_filter.1 hu).1
  have hLl : (ringL g x y k d).length ≤ g.T.length := by
    have := List.length_filter_le (ringB g x y k d) (List.range g.T.length)
    rw [List.length_range] at this
    exact this
  have hslot : slotL g f x y k d = (ringL g x y k d).filter f := rfl
  rw [hslot] at hstep
  generalize ringL g x y k d = L at *
  generalize hA : slotsTo g f x y k d = A at *
  refine AWp.loop (σ := Nat × AV) ⟨fun s => [(1, .av (lst 1 boolC (blL g.T.length f))), (3, .av (int (t : Nat))), (4, .av (int (n : Nat))), (5, .bx 5 0), (10, .av s.2), (11, .av (int (k : Nat))), (12, .av (int (d : Nat))), (38, .av (ints (natI L))), (39, .av (int (L.length : Nat))), (40, .av (int (s.1 : Nat)))], fun _ => [(5, gndC g)],
    fun s st' => s.1 ≤ L.length ∧ RowsQ 1 intC st' s.2 (natI ((A ++ (L.take s.1).filter f).take n)), fun s => L.length - s.1⟩ infoOK ?_ ?_
  · refine ⟨(0, _), trivial, ⟨Nat.zero_le _, ?_⟩, ⟨LV.le_refl _, LV.le_refl _, LV.le_refl _, LV.le_refl _, LV.le_refl _, LV.le_refl _, LV.le_refl _, LV.le_refl _, ?_, LV.le_refl _, trivial⟩, ⟨rfl, trivial⟩⟩
    · dsimp only
      rw [List.take_zero, List.filter_nil, List.append_nil]
      exact hap
    · show LV.le (.av (int ((rws intC (natI L)).length : Nat))) (.av (int (L.length : Nat)))
      rw [rws_len, natI_len]; exact LV.le_refl _
  rintro ⟨i, v2⟩ st2 ⟨hi, hap2⟩
  dsimp only at hi hap2 ⊢
  refine bcd (fun h3 => ?_) (fun h3 => ?_)
  rotate_left
  · have : i = L.length := by omega
    subst this
    rw [List.take_length, ← hstep] at hap2
    refine in64 (by omega) ?_
    refine ⟨(m + 1, v2), ?_, ⟨by dsimp only; omega, ?_⟩, ⟨LV.le_refl _, LV.le_refl _, LV.le_refl _, LV.le_refl _, LV.le_refl _, LV.le_refl _, ?_, trivial⟩, ⟨rfl, trivial⟩⟩
    · show 300 - (m + 1) * k < 300 - m * k
      omega
    · dsimp only
      rw [hm1]; exact hap2
    · dsimp only
      rw [hm1, Int.natCast_add]; exact LV.le_refl _
  have hlt : i < L.length := by omega
  have hlt2 : i < (natI L).length := by rw [natI_len]; exact hlt
  have hu := hL _ (List.getElem_mem hlt)
  have hnat : (natI L)[i]'hlt2 = ((L[i]'hlt : Nat) : Int) := List.getElem_map ..
  have hu2 : L[i] < (blL g.T.length f).length := by rw [blL_len]; exact hu
  have htk : (L.take (i + 1)).filter f = (L.take i).filter f ++ [L[i]].filter f := by rw [List.take_succ_eq_append_getElem hlt, List.filter_append]
  obtain ⟨oa2, cap2, e2, _⟩ := hap2.form
  subst e2
  have hlenT2 : (natI ((A ++ (L.take i).filter f).take n)).length = ((A ++ (L.take i).filter f).take n).length := natI_len _
  have hdec : L.length - (i + 1) < L.length - i := by omega
  refine ⟨i, rfl, optK_intro _ (rws_get hlt2) ?_⟩
  refine ⟨L[i], hnat, optK_intro _ (rws_get hu2) ?_⟩
  rw [blL_get hu]
  refine bcase_intro (fun c1 => ?_) (fun c1 => ?_)
  rotate_left
  · have e : [L[i]].filter f = [] := by simp [c1]
    rw [e, List.append_nil] at htk
    refine in64 (by omega) ?_
    exact ⟨(i + 1, _), hdec, ⟨by dsimp only; omega, by dsimp only; rw [htk]; exact hap2⟩, ⟨LV.le_refl _, LV.le_refl _, LV.le_refl _, LV.le_refl _, LV.le_refl _, LV.le_refl _, LV.le_refl _, LV.le_refl _, LV.le_refl _, LV.le_refl _, trivial⟩, ⟨rfl, trivial⟩⟩
  have e : [L[i]].filter f = [L[i]] := by simp [c1]
  rw [e] at htk
  have hsn := take_snoc (A ++ (L.take i).filter f) L[i] n
  rw [List.append_assoc, ← htk] at hsn
  refine bcd (fun c2 => ?_) (fun c2 => ?_)
  · have c2 : (A ++ (L.take i).filter f).length < n := (take_short _ _).1 (by rw [hlenT2] at c2; omega)
    rw [if_pos c2] at hsn
    refine ⟨by decide, ?_⟩
    have hTl : ((A ++ (L.take i).filter f).take n).length ≤ 1000 := by rw [List.length_take]; omega
    refine appRowsQ (ie := ti3) rfl (fun _ => rfl) (by decide) hap2 ((natI L)[i]'hlt2) rfl (by rw [hlenT2]; omega) (fun b cap3 L3 q1 q2 q3 q4 => ?_)
    have h3 : RowsQ 1 intC (st2.setObj b _) _ _ := .inl (.inr ⟨b, cap3, L3, rfl, setObj_self _ _ _, q2, q3, q4⟩)
    refine in64 (by omega) ?_
    refine ⟨(i + 1, _), hdec, ⟨by dsimp only; omega, ?_⟩, ⟨LV.le_refl _, LV.le_refl _, LV.le_refl _, LV.le_refl _, LV.le_refl _, LV.le_refl _, LV.le_refl _, LV.le_refl _, LV.le_refl _, LV.le_refl _, trivial⟩, ⟨rfl, trivial⟩⟩
    dsimp only
    rw [hsn, natI_app, show natI [L[i]] = [(natI L)[i]'hlt2] by rw [hnat]; rfl]
    exact h3
  · have c2 : ¬ (A ++ (L.take i).filter f).length < n := fun hh => c2 (by have := (take_short (A ++ (L.take i).filter f) n).2 hh; rw [hlenT2]; omega)
    rw [if_neg c2] at hsn
    refine in64 (by omega) ?_
    refine ⟨(i + 1, _), hdec, ⟨by dsimp only; omega, ?_⟩, ⟨LV.le_refl _, LV.le_refl _, LV.le_refl _, LV.le_refl _, LV.le_refl _, LV.le_refl _, LV.le_refl _, LV.le_refl _, LV.le_refl _, LV.le_refl _, trivial⟩, ⟨rfl, trivial⟩⟩
    dsimp only
    rw [hsn]; exact hap2
theorem about_spec (g : Gnd) (hg : gndP g) (f : Nat → Bool) (size : Int) (hs : 0 ≤ size ∧ size ≤ 3) (t : Nat) (ht : t < g.T.length) (n : Nat) (hn : n ≤ 1000) (st : Store) (R : AV → Store → Prop) (h : R (ints (natI (slotsL g f size (t : Int) n))) st) :
    ACalls Tryz.prog 202 [.agg (gndC g), lst 1 boolC (blL g.T.length f), int size, int t, int n] st R :=
  ints_own (about_raw g hg f size hs t ht n hn) st R h
end Go.Proofs
namespace Go.Proofs
open Go Go.V
set_option linter.unusedVariables false
set_option linter.unusedSimpArgs false
theorem max22_eq (i j : Int) : max2 (max2 i (0 - i)) (max2 j (0 - j)) = absM i j := by
  rw [max2_eq, max2_eq, max2_eq]
  unfold absM
  omega
theorem filter_more (p : Nat → Bool) (i : Nat) : ∀ e : Nat, ∃ m, (List.range (i + e)).filter p = (List.range i).filter p ++ m
  | 0 => ⟨[], by simp⟩
  | e + 1 => by
    obtain ⟨m, hm⟩ := filter_more p i e
    rw [show i + (e + 1) = (i + e) + 1 by omega, List.range_succ, List.filter_append, hm, List.append_assoc]
    exact ⟨_, rfl⟩
theorem slot_part (g : Gnd) (f : Nat → Bool) (x y k d : Int) : slotL g f x y k d = (List.range g.T.length).filter (fun t => ringB g x y k d t && f t) := by
  unfold slotL ringL
  rw [List.filter_filter]
  refine List.filter_congr fun t _ => ?_
  rw [Bool.and_comm]
set_option maxHeartbeats 1000000 in
theorem rslots_raw (g : Gnd) (hg : gndP g) (l : List Bld) (hl : l.length ≤ 1000000000000) (hb : ∀ b ∈ l, bldP b ∧ onP g b) (c : Int) (hc : c = 0 ∨ c = 1 ∨ c = 2) (size : Int) (hs : 0 ≤ size ∧ size ≤ 3) (goal : Nat) (hgl : goal < g.T.length) (n : Nat) (hn : n ≤ 1000) :
    ACalls Tryz.prog 85 [.agg (gndC g), lst 6 bldC l, int c, int size, int goal, int n] Store.empty fun r S => RowsQ 1 intC S r (natI (slotsL g (goodB g l c size) size (goal : Int) n)) := by
  have hm := gnd_area hg
  have hg1 := hg.1
  have hg2 := hg.2.1
  have htb := tile_b hg (t := goal) (by omega)
  have hq := trem (t := goal) hg.1.1
  have hq2 := tquo (t := goal) hg.1.1
  have hdone := fun (d : Nat) hh => slots_done hg (f := goodB g l c size) (size := size) (goal := (goal : Int)) (d := d) (n := n) ⟨by omega, by omega⟩ hh
  have hend : slotsL g (goodB g l c size) size (goal : Int) n = (slotsTo g (goodB g l c size) ((goal : Int) % g.W) ((goal : Int) / g.W) (2 * size + 1) (g.W + g.H + 1).toNat).take n := rfl
  have rg := rgood_spec g hg l hl hb c hc size hs.1
  unfold goodV at rg
  generalize goodB g l c size = f at *
  refine ACalls.of_body (c := cfg 111) infoOK Tryz.func85 (by rfl) (by rfl) (by rfl) (by rfl) ?_
  refine rg _ _ ?_
  obtain ⟨k, hk⟩ : ∃ k : Int, 2 * size + 1 = k := ⟨_, rfl⟩
  refine in64 (by omega) ?_
  refine in64 (by omega) ?_
  refine ADraw.of_sched infoOK (by rfl) (by rfl) sch85_4 (by rfl) ?_
  refine ⟨by omega, ?_⟩
  refine ⟨by omega, ?_⟩
  refine in64 (by omega) ?_
  refine ⟨⟨(by repeat (first | exact trivial | refine ⟨rfl, ?_⟩ | refine ⟨optR (optR (optR (optK_intro _ (setObj_self _ _ _) rfl))), ?_⟩)), ?_⟩, trivial⟩
  refine ⟨⟨trivial, ?_⟩, trivial⟩
  rw [hk] at hdone hend
  generalize hx : (goal : Int) % g.W = x at *
  generalize hy : (goal : Int) / g.W = y at *
  refine AWp.loop (σ := Nat × AV) ⟨fun s => [(5, .av (int (n : Nat))), (6, .bx 6 0), (13, .av (lst 1 boolC (blL g.T.length f))), (14, .av s.2), (15, .av (int k)), (16, .av (int x)), (17, .av (int y)), (18, .av (int (s.1 : Nat)))], fun _ => [(6, gndC g)],
    fun s st' => (s.1 : Int) ≤ g.W + g.H + 1 ∧ RowsQ 1 intC st' s.2 (natI ((slotsTo g f x y k s.1).take n)), fun s => 400 - s.1⟩ infoOK ?_ ?_
  · refine ⟨(0, _), trivial, ⟨by dsimp only; omega, ?_⟩, ⟨LV.le_refl _, LV.le_refl _, LV.le_refl _, LV.le_refl _, ?_, ?_, ?_, LV.le_refl _, trivial⟩, ⟨rfl, trivial⟩⟩
    · dsimp only
      show RowsQ 1 intC _ _ (natI (([] : List Nat).take n))
      rw [List.take_nil]
      exact rowsQ_nil _
    · rw [← hk]; exact LV.le_refl _
    · rw [← hq]; exact LV.le_refl _
    · rw [← hq2]; exact LV.le_refl _
  rintro ⟨d, v⟩ st' ⟨hd, hap⟩
  dsimp only at hd hap ⊢
  obtain ⟨oa, cap, e, _⟩ := hap.form
  subst e
  have hlenT : (natI ((slotsTo g f x y k d).take n)).length = ((slotsTo g f x y k d).take n).length := natI_len _
  refine in64 (by omega) ?_
  refine bcd (fun h1 => ?_) (fun h1 => ?_)
  rotate_left
  · have e : (g.W + g.H + 1).toNat = d := by omega
    rw [e] at hend
    exact ret (by rw [hend]; exact hap)
  refine bcd (fun h2 => ?_) (fun h2 => ?_)
  rotate_left
  · have e := hdone d (.inl (by rw [hlenT, List.length_take] at h2; omega))
    exact ret (by rw [← e]; exact hap)
  have hstep : slotsTo g f x y k (d + 1) = slotsTo g f x y k d ++ (List.range g.T.length).filter (fun t => ringB g x y k d t && f t) := by
    rw [← slot_part]; rfl
  generalize hA : slotsTo g f x y k d = A at *
  refine AWp.loop (σ := Nat × AV) ⟨fun s => [(5, .av (int (n : Nat))), (6, .bx 6 0), (13, .av (lst 1 boolC (blL g.T.length f))), (14, .av s.2), (15, .av (int k)), (16, .av (int x)), (17, .av (int y)), (18, .av (int (d : Nat))), (19, .av (int (s.1 : Nat)))], fun _ => [(6, gndC g)],
    fun s st' => s.1 ≤ g.T.length ∧ RowsQ 1 intC st' s.2 (natI ((A ++ (List.range s.1).filter (fun t => ringB g x y k d t && f t)).take n)), fun s => g.T.length - s.1⟩ infoOK ?_ ?_
  · refine ⟨(0, _), trivial, ⟨Nat.zero_le _, ?_⟩, ⟨LV.le_refl _, LV.le_refl _, LV.le_refl _, LV.le_refl _, LV.le_refl _, LV.le_refl _, LV.le_refl _, LV.le_refl _, LV.le_refl _, trivial⟩, ⟨rfl, trivial⟩⟩
    dsimp only
    rw [List.range_zero, List.filter_nil, List.append_nil]
    exact hap
  rintro ⟨i, v2⟩ st2 ⟨hi, hap2⟩
  dsimp only at hi hap2 ⊢
  obtain ⟨oa2, cap2, e2, _⟩ := hap2.form
  subst e2
  have hlenT2 : (natI ((A ++ (List.range i).filter (fun t => ringB g x y k d t && f t)).take n)).length = ((A ++ (List.range i).filter (fun t => ringB g x y k d t && f t)).take n).length := natI_len _
  have hTl : ((A ++ (List.range i).filter (fun t => ringB g x y k d t && f t)).take n).length ≤ 1000 := by rw [List.length_take]; omega
  have done : (A ++ (List.range i).filter (fun t => ringB g x y k d t && f t)).take n = (slotsTo g f x y k (d + 1)).take n → RowsQ 1 intC st2 (.s (.slice oa2 (natI ((A ++ (List.range i).filter (fun t => ringB g x y k d t && f t)).take n)).length cap2)) (natI ((slotsTo g f x y k (d + 1)).take n)) := fun e => by
    rw [← e]; exact hap2
  have hdec0 : 400 - (d + 1) < 400 - d := by omega
  refine bcd (fun h3 => ?_) (fun h3 => ?_)
  rotate_left
  · rw [rws_len, blL_len] at h3
    have hin : i = g.T.length := by omega
    refine in64 (by omega) ?_
    exact ⟨(d + 1, _), hdec0, ⟨by dsimp only; omega, done (by rw [hstep, hin])⟩, ⟨LV.le_refl _, LV.le_refl _, LV.le_refl _, LV.le_refl _, LV.le_refl _, LV.le_refl _, LV.le_refl _, LV.le_refl _, trivial⟩, ⟨rfl, trivial⟩⟩
  rw [rws_len, blL_len] at h3
  have hlt : i < g.T.length := by omega
  refine bcd (fun h4 => ?_) (fun h4 => ?_)
  rotate_left
  · refine in64 (by omega) ?_
    refine ⟨(d + 1, _), hdec0, ⟨by dsimp only; omega, done ?_⟩, ⟨LV.le_refl _, LV.le_refl _, LV.le_refl _, LV.le_refl _, LV.le_refl _, LV.le_refl _, LV.le_refl _, LV.le_refl _, trivial⟩, ⟨rfl, trivial⟩⟩
    obtain ⟨m, hm2⟩ := filter_more (fun t => ringB g x y k d t && f t) i (g.T.length - i)
    rw [show i + (g.T.length - i) = g.T.length by omega] at hm2
    rw [hlenT2, List.length_take] at h4
    rw [hstep, hm2, ← List.append_assoc]
    exact (List.take_append_of_le_length (by omega)).symm
  rw [hlenT2] at h4
  have htb2 := tile_b hg (t := i) (by omega)
  have hp := trem (t := i) hg.1.1
  have hp2 := tquo (t := i) hg.1.1
  have hrb : ringB g x y k d i = decide (absM ((i : Int) % g.W - x) ((i : Int) / g.W - y) = d ∧ ((i : Int) % g.W - x).tmod k = 0 ∧ ((i : Int) / g.W - y).tmod k = 0) := rfl
  rw [← hp, ← hp2] at hrb htb2
  have hrs := List.range_succ (n := i)
  have hsucc : (List.range (i + 1)).filter (fun t => ringB g x y k d t && f t) = (List.range i).filter (fun t => ringB g x y k d t && f t) ++ [i].filter (fun t => ringB g x y k d t && f t) := by rw [hrs, List.filter_append]
  have hdec : g.T.length - (i + 1) < g.T.length - i := by omega
  have no : (ringB g x y k d i && f i) = false → RowsQ 1 intC st2 (.s (.slice oa2 (natI ((A ++ (List.range i).filter (fun t => ringB g x y k d t && f t)).take n)).length cap2)) (natI ((A ++ (List.range (i + 1)).filter (fun t => ringB g x y k d t && f t)).take n)) := fun hn => by
    rw [hsucc, show [i].filter (fun t => ringB g x y k d t && f t) = [] by simp [hn], List.append_nil]
    exact hap2
  have hlt2 : i < (blL g.T.length f).length := by rw [blL_len]; exact hlt
  refine ADraw.of_sched infoOK (by rfl) (by rfl) sch85_11 (by rfl) ?_
  refine ⟨by omega, ?_⟩
  refine in64 (by omega) ?_
  refine ⟨by omega, ?_⟩
  refine in64 (by omega) ?_
  refine in64 (by omega) ?_
  refine ⟨⟨(by repeat (first | exact trivial | refine ⟨rfl, ?_⟩ | refine ⟨optR (optR (optR (optK_intro _ (setObj_self _ _ _) rfl))), ?_⟩)), ?_⟩, trivial⟩
  refine ⟨⟨trivial, ?_⟩, trivial⟩
  have hbd : (-128 ≤ ((i : Nat) : Int).tmod g.W - x ∧ ((i : Nat) : Int).tmod g.W - x ≤ 128) ∧ (-128 ≤ ((i : Nat) : Int).tdiv g.W - y ∧ ((i : Nat) : Int).tdiv g.W - y ≤ 128) := by omega
  generalize ((i : Nat) : Int).tmod g.W - x = dx at *
  generalize ((i : Nat) : Int).tdiv g.W - y = dy at *
  refine in64 (by omega) ?_
  refine in64 (by omega) ?_
  refine bceq (fun c1 => ?_) (fun c1 => ?_)
  rotate_left
  · have c1 : ¬ absM dx dy = d := fun e => c1 ((max22_eq dx dy).trans e)
    refine in64 (by omega) ?_
    exact ⟨(i + 1, _), hdec, ⟨by dsimp only; omega, no (by rw [hrb, decide_eq_false (fun hh => c1 hh.1), Bool.false_and])⟩, ⟨LV.le_refl _, LV.le_refl _, LV.le_refl _, LV.le_refl _, LV.le_refl _, LV.le_refl _, LV.le_refl _, LV.le_refl _, LV.le_refl _, trivial⟩, ⟨rfl, trivial⟩⟩
  have c1 : absM dx dy = d := (max22_eq dx dy).symm.trans c1
  refine ⟨by omega, ?_⟩
  refine bceq (fun c2 => ?_) (fun c2 => ?_)
  rotate_left
  · refine in64 (by omega) ?_
    exact ⟨(i + 1, _), hdec, ⟨by dsimp only; omega, no (by rw [hrb, decide_eq_false (fun hh => c2 hh.2.1), Bool.false_and])⟩, ⟨LV.le_refl _, LV.le_refl _, LV.le_refl _, LV.le_refl _, LV.le_refl _, LV.le_refl _, LV.le_refl _, LV.le_refl _, LV.le_refl _, trivial⟩, ⟨rfl, trivial⟩⟩
  refine ⟨by omega, ?_⟩
  refine bceq (fun c3 => ?_) (fun c3 => ?_)
  rotate_left
  · refine in64 (by omega) ?_
    exact ⟨(i + 1, _), hdec, ⟨by dsimp only; omega, no (by rw [hrb, decide_eq_false (fun hh => c3 hh.2.2), Bool.false_and])⟩, ⟨LV.le_refl _, LV.le_refl _, LV.le_refl _, LV.le_refl _, LV.le_refl _, LV.le_refl _, LV.le_refl _, LV.le_refl _, LV.le_refl _, trivial⟩, ⟨rfl, trivial⟩⟩
  refine ⟨i, rfl, optK_intro _ (rws_get hlt2) ?_⟩
  rw [blL_get hlt]
  refine bcase_intro (fun c4 => ?_) (fun c4 => ?_)
  rotate_left
  · refine in64 (by omega) ?_
    exact ⟨(i + 1, _), hdec, ⟨by dsimp only; omega, no (by rw [c4, Bool.and_false])⟩, ⟨LV.le_refl _, LV.le_refl _, LV.le_refl _, LV.le_refl _, LV.le_refl _, LV.le_refl _, LV.le_refl _, LV.le_refl _, LV.le_refl _, trivial⟩, ⟨rfl, trivial⟩⟩
  have hyes : (ringB g x y k d i && f i) = true := by rw [hrb, decide_eq_true ⟨c1, c2, c3⟩, c4]; rfl
  have hsn := take_snoc (A ++ (List.range i).filter (fun t => ringB g x y k d t && f t)) i n
  rw [if_pos ((take_short _ _).1 (by omega)), List.append_assoc, show [i] = [i].filter (fun t => ringB g x y k d t && f t) by simp [hyes], ← hsucc, show [i].filter (fun t => ringB g x y k d t && f t) = [i] by simp [hyes]] at hsn
  refine ⟨by decide, ?_⟩
  refine appRowsQ (ie := ti3) rfl (fun _ => rfl) (by decide) hap2 (i : Int) rfl (by rw [hlenT2]; omega) (fun b cap3 L3 q1 q2 q3 q4 => ?_)
  have h9 : RowsQ 1 intC (st2.setObj b _) _ _ := .inl (.inr ⟨b, cap3, L3, rfl, setObj_self _ _ _, q2, q3, q4⟩)
  refine in64 (by omega) ?_
  refine ⟨(i + 1, _), hdec, ⟨by dsimp only; omega, ?_⟩, ⟨LV.le_refl _, LV.le_refl _, LV.le_refl _, LV.le_refl _, LV.le_refl _, LV.le_refl _, LV.le_refl _, LV.le_refl _, LV.le_refl _, trivial⟩, ⟨rfl, trivial⟩⟩
  dsimp only
  rw [hsn, natI_app, show natI [i] = [(i : Int)] from rfl]
  exact h9
theorem rslots_spec (g : Gnd) (hg : gndP g) (l : List Bld) (hl : l.length ≤ 1000000000000) (hb : ∀ b ∈ l, bldP b ∧ onP g b) (c : Int) (hc : c = 0 ∨ c = 1 ∨ c = 2) (size : Int) (hs : 0 ≤ size ∧ size ≤ 3) (goal : Nat) (hgl : goal < g.T.length) (n : Nat) (hn : n ≤ 1000) (st : Store) (R : AV → Store → Prop) (h : R (ints (natI (slotsL g (goodB g l c size) size (goal : Int) n))) st) :
    ACalls Tryz.prog 85 [.agg (gndC g), lst 6 bldC l, int c, int size, int goal, int n] st R :=
  ints_own (rslots_raw g hg l hl hb c hc size hs goal hgl n hn) st R h
end Go.Proofs
namespace Go.Proofs
open Go Go.V
set_option linter.unusedVariables false
set_option linter.unusedSimpArgs false
end Go.Proofs
namespace Go.Proofs
open Go Go.V
set_option linter.unusedVariables false
set_option linter.unusedSimpArgs false
end Go.Proofs
