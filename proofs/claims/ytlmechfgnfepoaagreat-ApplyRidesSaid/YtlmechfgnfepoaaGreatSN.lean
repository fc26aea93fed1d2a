/- The ground on which laws of thronglaw23 are proved: contracts of functions and plain lemmas; no condition beyond the row's own. -/
import Derived.Test.YtlmechfgnfepoaaGreatSL
import Derived.Test.YtlmechfgnfepoaaGreatSM
import Derived.Test.YtlmechfgnfepoaaGreatSK
import Derived.Test.YtlmechfgnfepoaaGreatSI
import Derived.Test.YtlmechfgnfepoaaGreatSG
import Derived.Test.YtlmechfgnfepoaaGreatSJ
set_option linter.unusedSimpArgs false
set_option linter.unusedVariables false
namespace Go.Proofs
open Go Go.V
theorem max2_eq (a b : Int) : max2 a b = max a b := by
 unfold max2
 by_cases h : b > a
 ·rw [decide_eq_true h]; show b = _; omega
 ·rw [decide_eq_false h]; show a = _; omega
/-- What is handed back as numbers in memory of its own is a plain list from then on. -/
theorem zx4 {f : FuncId} {xs : List AV} {l : List Int} (h0 : ACalls Tryz.prog f xs Store.empty fun r S => RowsQ 1 intC S r l) (st : Store) (R : AV → Store → Prop) (h : R (ints l) st) : ACalls Tryz.prog f xs st R := by
 have h1 := h0.frozen (R := fun r => r = ints l) (by
  rintro r S hv
  exact ⟨_, rfl, fun Oth M w' v' sto hx => RowsQ.borrow (f := intC) (k := 1) (fun _ => rfl) (fun x y hy => by simp [intC] at hy; exact ⟨_, hy, rfl⟩) hv sto hx⟩)
 have h2 : ACalls Tryz.prog f xs Store.empty fun r S => r = ints l ∧ S = Store.empty :=
  h1.post (Store.Le.refl _) fun r st' hr => ⟨r, Store.empty, AV.le_refl r, (hasE st').toLe, hr, rfl⟩
 rw [← yx st]
 exact ACalls.frame (kw st) h2 fun r S ⟨e, e2⟩ hd => by subst e e2; rw [yx]; exact h
theorem zor {α : Type} {k : Nat} {f : α → List AV} (S : Store) : RowsQ k f S (.s (.slice none 0 0)) ([] : List α) := .inl (.inl ⟨rfl, rfl⟩)
set_option maxHeartbeats 1000000 in
theorem zrk (g : Gnd) (hg : gndP g) (f : Nat → Bool) (size : Int) (hs : 0 ≤ size ∧ size ≤ 3) (t : Nat) (ht : t < g.T.length) (n : Nat) (hn : n ≤ 1000) :
  ACalls Tryz.prog 202 [.agg (gndC g), lst 1 kg (blL g.T.length f), int size, int t, int n] Store.empty fun r S => RowsQ 1 intC S r (natI (zez g f size (t : Int) n)) := by
 have hm := zq hg
 have hg1 := hg.1
 have hg2 := hg.2.1
 have hdone := fun (d : Nat) hh => zl7 hg (f := f) (size := size) (goal := (t : Int)) (d := d) (n := n) ⟨by omega, by omega⟩ hh
 have hstep := fun (x y : Int) (k d : Nat) hk hd => zhf (g := g) (f := f) (x := x) (y := y) (k := k) (d := d) hk hd
 obtain ⟨k, hk⟩ : ∃ k : Nat, 2 * size + 1 = (k : Int) := ⟨(2 * size + 1).toNat, by omega⟩
 rw [hk] at hdone
 have ring := zox g hg t ht
 generalize hx : (t : Int) % g.W = x at *
 generalize hy : (t : Int) / g.W = y at *
 refine ACalls.of_body (c := cfg 60) zd Tryz.func202 (by rfl) (by rfl) (by rfl) (by rfl) ?_
 refine in64 (by omega) ?_
 refine in64 (by omega) ?_
 refine AWp.loop (σ := Nat × AV) ⟨fun s => [(1, .av (lst 1 kg (blL g.T.length f))), (3, .av (int (t : Nat))), (4, .av (int (n : Nat))), (5, .bx 5 0), (10, .av s.2), (11, .av (int (k : Nat))), (12, .av (int ((s.1 * k : Nat))))], fun _ => [(5, gndC g)],
  fun s st' => s.1 * k ≤ 200 ∧ RowsQ 1 intC st' s.2 (natI ((yy g f x y k (s.1 * k)).take n)), fun s => 300 - s.1 * k⟩ zd ?_ ?_
 ·refine ⟨(0, _), trivial, ⟨by dsimp only; omega, ?_⟩, ⟨lr_ _, lr_ _, lr_ _, lr_ _, lr_ _, ?_, ?_, trivial⟩, ⟨rfl, trivial⟩⟩
  ·dsimp only
   rw [Nat.zero_mul]
   show RowsQ 1 intC _ _ (natI (([] : List Nat).take n))
   rw [List.take_nil]
   exact zor _
  ·rw [← hk]; exact lr_ _
  ·dsimp only
   rw [Nat.zero_mul]; exact lr_ _
 rintro ⟨m, v⟩ st' ⟨hm2, hap⟩
 dsimp only at hm2 hap ⊢
 obtain ⟨d, hd⟩ : ∃ d : Nat, m * k = d := ⟨_, rfl⟩
 have hdv : k ∣ d := ⟨m, by rw [Nat.mul_comm]; exact hd.symm⟩
 have hm1 : (m + 1) * k = d + k := by rw [Nat.add_mul, Nat.one_mul, hd]
 rw [hd] at hm2 hap ⊢
 obtain ⟨oa, cap, e, _⟩ := hap.form
 subst e
 have hlenT : (natI ((yy g f x y k d).take n)).length = ((yy g f x y k d).take n).length := ja _
 refine bcd (fun h1 => ?_) (fun h1 => ?_)
 rotate_left
 ·rw [max2_eq] at h1
  have e := hdone d (.inr (by omega))
  exact ret (by rw [← e]; exact hap)
 refine bcd (fun h2 => ?_) (fun h2 => ?_)
 rotate_left
 ·rw [hlenT, List.length_take] at h2
  have e := hdone d (.inl (by omega))
  exact ret (by rw [← e]; exact hap)
 have h1 : (d : Int) ≤ max g.W g.H := by rw [max2_eq] at h1; exact h1
 refine ring d k ⟨by omega, by omega⟩ ⟨by omega, by omega⟩ _ _ ?_
 have hstep := hstep x y k d (by omega) hdv
 have hL : ∀ u ∈ zeh g x y k d, u < g.T.length := fun u hu => List.mem_range.1 (List.mem_filter.1 hu).1
 have hLl : (zeh g x y k d).length ≤ g.T.length := by
  have := List.length_filter_le (zoz g x y k d) (List.range g.T.length)
  rw [List.length_range] at this
  exact this
 have hslot : za4 g f x y k d = (zeh g x y k d).filter f := rfl
 rw [hslot] at hstep
 generalize zeh g x y k d = L at *
 generalize hA : yy g f x y k d = A at *
 refine AWp.loop (σ := Nat × AV) ⟨fun s => [(1, .av (lst 1 kg (blL g.T.length f))), (3, .av (int (t : Nat))), (4, .av (int (n : Nat))), (5, .bx 5 0), (10, .av s.2), (11, .av (int (k : Nat))), (12, .av (int (d : Nat))), (38, .av (ints (natI L))), (39, .av (int (L.length : Nat))), (40, .av (int (s.1 : Nat)))], fun _ => [(5, gndC g)],
  fun s st' => s.1 ≤ L.length ∧ RowsQ 1 intC st' s.2 (natI ((A ++ (L.take s.1).filter f).take n)), fun s => L.length - s.1⟩ zd ?_ ?_
 ·refine ⟨(0, _), trivial, ⟨Nat.zero_le _, ?_⟩, ⟨lr_ _, lr_ _, lr_ _, lr_ _, lr_ _, lr_ _, lr_ _, lr_ _, ?_, lr_ _, trivial⟩, ⟨rfl, trivial⟩⟩
  ·dsimp only
   rw [List.take_zero, List.filter_nil, List.append_nil]
   exact hap
  ·show LV.le (.av (int ((rws intC (natI L)).length : Nat))) (.av (int (L.length : Nat)))
   rw [zh, ja]; exact lr_ _
 rintro ⟨i, v2⟩ st2 ⟨hi, hap2⟩
 dsimp only at hi hap2 ⊢
 refine bcd (fun h3 => ?_) (fun h3 => ?_)
 rotate_left
 ·have : i = L.length := by omega
  subst this
  rw [List.take_length, ← hstep] at hap2
  refine in64 (by omega) ?_
  refine ⟨(m + 1, v2), ?_, ⟨by dsimp only; omega, ?_⟩, ⟨lr_ _, lr_ _, lr_ _, lr_ _, lr_ _, lr_ _, ?_, trivial⟩, ⟨rfl, trivial⟩⟩
  ·show 300 - (m + 1) * k < 300 - m * k
   omega
  ·dsimp only
   rw [hm1]; exact hap2
  ·dsimp only
   rw [hm1, Int.natCast_add]; exact lr_ _
 have hlt : i < L.length := by omega
 have hlt2 : i < (natI L).length := by rw [ja]; exact hlt
 have hu := hL _ (List.getElem_mem hlt)
 have hnat : (natI L)[i]'hlt2 = ((L[i]'hlt : Nat) : Int) := List.getElem_map ..
 have hu2 : L[i] < (blL g.T.length f).length := by rw [ju]; exact hu
 have htk : (L.take (i + 1)).filter f = (L.take i).filter f ++ [L[i]].filter f := by rw [List.take_succ_eq_append_getElem hlt, List.filter_append]
 obtain ⟨oa2, cap2, e2, _⟩ := hap2.form
 subst e2
 have hlenT2 : (natI ((A ++ (L.take i).filter f).take n)).length = ((A ++ (L.take i).filter f).take n).length := ja _
 have hdec : L.length - (i + 1) < L.length - i := by omega
 refine ⟨i, rfl, za _ (zj hlt2) ?_⟩
 refine ⟨L[i], hnat, za _ (zj hu2) ?_⟩
 rw [zkp hu]
 refine ze (fun c1 => ?_) (fun c1 => ?_)
 rotate_left
 ·have e : [L[i]].filter f = [] := by simp [c1]
  rw [e, List.append_nil] at htk
  refine in64 (by omega) ?_
  exact ⟨(i + 1, _), hdec, ⟨by dsimp only; omega, by dsimp only; rw [htk]; exact hap2⟩, ⟨lr_ _, lr_ _, lr_ _, lr_ _, lr_ _, lr_ _, lr_ _, lr_ _, lr_ _, lr_ _, trivial⟩, ⟨rfl, trivial⟩⟩
 have e : [L[i]].filter f = [L[i]] := by simp [c1]
 rw [e] at htk
 have hsn := zn6 (A ++ (L.take i).filter f) L[i] n
 rw [List.append_assoc, ← htk] at hsn
 refine bcd (fun c2 => ?_) (fun c2 => ?_)
 ·have c2 : (A ++ (L.take i).filter f).length < n := (zeu _ _).1 (by rw [hlenT2] at c2; omega)
  rw [if_pos c2] at hsn
  refine ⟨by decide, ?_⟩
  have hTl : ((A ++ (L.take i).filter f).take n).length ≤ 1000 := by rw [List.length_take]; omega
  refine kx (ie := ti3) rfl (fun _ => rfl) (by decide) hap2 ((natI L)[i]'hlt2) rfl (by rw [hlenT2]; omega) (fun b cap3 L3 q1 q2 q3 q4 => ?_)
  have h3 : RowsQ 1 intC (st2.setObj b _) _ _ := .inl (.inr ⟨b, cap3, L3, rfl, zb _ _ _, q2, q3, q4⟩)
  refine in64 (by omega) ?_
  refine ⟨(i + 1, _), hdec, ⟨by dsimp only; omega, ?_⟩, ⟨lr_ _, lr_ _, lr_ _, lr_ _, lr_ _, lr_ _, lr_ _, lr_ _, lr_ _, lr_ _, trivial⟩, ⟨rfl, trivial⟩⟩
  dsimp only
  rw [hsn, zlc, show natI [L[i]] = [(natI L)[i]'hlt2] by rw [hnat]; rfl]
  exact h3
 ·have c2 : ¬ (A ++ (L.take i).filter f).length < n := fun hh => c2 (by have := (zeu (A ++ (L.take i).filter f) n).2 hh; rw [hlenT2]; omega)
  rw [if_neg c2] at hsn
  refine in64 (by omega) ?_
  refine ⟨(i + 1, _), hdec, ⟨by dsimp only; omega, ?_⟩, ⟨lr_ _, lr_ _, lr_ _, lr_ _, lr_ _, lr_ _, lr_ _, lr_ _, lr_ _, lr_ _, trivial⟩, ⟨rfl, trivial⟩⟩
  dsimp only
  rw [hsn]; exact hap2
theorem znx (g : Gnd) (hg : gndP g) (f : Nat → Bool) (size : Int) (hs : 0 ≤ size ∧ size ≤ 3) (t : Nat) (ht : t < g.T.length) (n : Nat) (hn : n ≤ 1000) (st : Store) (R : AV → Store → Prop) (h : R (ints (natI (zez g f size (t : Int) n))) st) :
  ACalls Tryz.prog 202 [.agg (gndC g), lst 1 kg (blL g.T.length f), int size, int t, int n] st R :=
 zx4 (zrk g hg f size hs t ht n hn) st R h
end Go.Proofs
namespace Go.Proofs
open Go Go.V
end Go.Proofs
namespace Go.Proofs
open Go Go.V
theorem zxz (g : Gnd) (hg : gndP g) (t : Nat) (ht : (t : Int) < g.W * g.H) (st : Store) (R : AV → Store → Prop) (h : R (.agg (vecC (tx g t + 32768, ty g t + 32768))) st) : ACalls Tryz.prog 174 [.agg (gndC g), int (t : Nat)] st R := by
 have htb := w7 hg ht
 have hq := trem (t := t) hg.1.1
 have hq2 := tquo (t := t) hg.1.1
 have hg1 := hg.1
 have hg2 := hg.2.1
 unfold tx ty at h
 refine ACalls.of_body (c := cfg 18) zd Tryz.func174 (by rfl) (by rfl) (by rfl) (by rfl) ?_
 refine ADraw.of_sched zd (by rfl) (by rfl) zwg (by rfl) ?_
 refine ⟨by omega, ?_⟩
 refine in64 (by rw [hq]; omega) ?_
 refine in64 (by rw [hq]; omega) ?_
 refine ⟨by omega, ?_⟩
 refine in64 (by rw [hq2]; omega) ?_
 refine in64 (by rw [hq2]; omega) ?_
 refine in64 (by rw [hq2]; omega) ?_
 refine ⟨⟨(by repeat (first | exact trivial | refine ⟨rfl, ?_⟩ | refine ⟨optR (optR (optR (za _ (zb _ _ _) rfl))), ?_⟩)), ?_⟩, trivial⟩
 rw [← hq, ← hq2] at h
 exact ret h
theorem zhv (g : Gnd) (hg : gndP g) (a b : Bld) (ha : bldP a ∧ onP g a) (hb : bldP b ∧ onP g b) (st : Store) (R : AV → Store → Prop) (h : R (V.bool (decide (jp a b))) st) : ACalls Tryz.prog 205 [.agg (bldC a), .agg (bldC b)] st R := by
 unfold bldP onP at ha hb
 unfold gndP at hg
 have hh : ∀ z : Bool, (z = true ↔ jp a b) → R (V.bool z) st := fun z hz => by
  have : z = decide (jp a b) := by rw [Bool.eq_iff_iff, decide_eq_true_iff]; exact hz
  rw [this]; exact h
 unfold jp at hh
 refine ACalls.of_body (c := cfg 43) zd Tryz.func205 (by rfl) (by rfl) (by rfl) (by rfl) ?_
 refine in64 (by omega) ?_
 refine bcd (fun c1 => ?_) (fun c1 => ret (hh _ (by simp; omega)))
 refine in64 (by omega) ?_
 refine bcd (fun c2 => ?_) (fun c2 => ret (hh _ (by simp; omega)))
 refine in64 (by omega) ?_
 refine bcd (fun c3 => ?_) (fun c3 => ret (hh _ (by simp; omega)))
 refine in64 (by omega) ?_
 exact ret (hh _ (by rw [decide_eq_true_iff]; omega))
theorem zms (g : Gnd) (hg : gndP g) (b x : Bld) (hb : bldP b ∧ onP g b) (hx : bldP x ∧ onP g x) (p : Nat) (st : Store) (hp : st.obj p = some (.cells (bldC b))) (R : AV → Store → Prop) (h : R (V.bool (decide (jp x b))) st) : ACalls Tryz.prog 204 ([.agg (bldC x)] ++ [ptr p]) st R := by
 refine ACalls.of_body (c := cfg 7) zd Tryz.func204 (by rfl) (by rfl) (by rfl) (by rfl) ?_
 refine za _ hp ?_
 exact zhv g hg x b hx hb _ _ (ret h)
theorem zka (b : Bld) (id : Int) (st : Store) (R : AV → Store → Prop) (h : R (int (cmpZ b.id id)) st) : ACalls Tryz.prog 223 [.agg (bldC b), int id] st R := by
 refine ACalls.of_body (c := cfg 9) zd Tryz.func223 (by rfl) (by rfl) (by rfl) (by rfl) ?_
 exact zci b.id id _ _ (ret h)
/-- An ID behind all others. -/
theorem zq6 (l : List Bld) (hl : l.length ≤ 1000000000000) (id : Int) (hid : ∀ b ∈ l, b.id < id) (st : Store) (R : AV → Store → Prop) (h : R (.tup [int (l.length : Nat), V.bool false]) st) :
  ACalls Tryz.prog 222 [lst 6 bldC l, int id, .clos 223 []] st R := by
 refine ACalls.of_body (c := cfg 49) zd Tryz.func222 (by rfl) (by rfl) (by rfl) (by rfl) ?_
 refine AWp.loop (σ := Nat) ⟨fun s => [(0, .av (lst 6 bldC l)), (1, .av (int id)), (2, .av (.clos 223 [])), (8, .av (int (l.length : Nat))), (9, .av (int (s : Nat))), (10, .av (int (l.length : Nat)))], fun _ => [],
  fun s st' => st' = st ∧ s ≤ l.length, fun s => l.length - s⟩ zd ?_ ?_
 ·refine ⟨0, trivial, ⟨rfl, Nat.zero_le _⟩, ⟨lr_ _, lr_ _, lr_ _, ?_, lr_ _, ?_, trivial⟩, trivial⟩
  ·rw [← zh (f := bldC) l]; exact lr_ _
  ·rw [← zh (f := bldC) l]; exact lr_ _
 rintro i st' ⟨rfl, hi⟩
 dsimp only at hi ⊢
 refine bcd (fun h1 => ?_) (fun h1 => ?_)
 rotate_left
 ·have e : i = l.length := by omega
  subst e
  refine bcd (fun h2 => ?_) (fun h2 => ?_)
  ·omega
  ·exact ret h
 refine in64 (by omega) ?_
 refine ⟨by decide, ?_⟩
 have hmid : (IntKind.u64.wrap ((i : Int) + (l.length : Int))).fdiv (2 ^ (min (1 : Int).toNat IntKind.u64.bits)) = (((i + l.length) / 2 : Nat) : Int) := by
  have e1 : IntKind.u64.wrap ((i : Int) + (l.length : Int)) = ((i + l.length : Nat) : Int) := by
   simp [IntKind.wrap, IntKind.bits, IntKind.signed]; omega
  have e2 : (2 : Int) ^ (min (1 : Int).toNat IntKind.u64.bits) = 2 := rfl
  have e3 : (((i + l.length : Nat) : Int)).fdiv 2 = (((i + l.length) / 2 : Nat) : Int) := by
   rw [Int.fdiv_eq_ediv_of_nonneg _ (by decide)]; rfl
  rw [e1, e2, e3]
 have hkl : (i + l.length) / 2 < l.length := by omega
 refine ⟨by rw [hmid]; exact ⟨by omega, by omega⟩, ?_⟩
 refine ⟨(i + l.length) / 2, hmid, za _ (zj hkl) ?_⟩
 refine zka l[(i + l.length) / 2] id _ _ ?_
 have hc : cmpZ l[(i + l.length) / 2].id id < 0 := by
  have := hid _ (List.getElem_mem hkl)
  unfold cmpZ
  rw [if_pos (by omega)]
  decide
 refine bcd (fun h2 => ?_) (fun h2 => absurd hc h2)
 refine in64 (by rw [hmid]; omega) ?_
 refine ⟨(i + l.length) / 2 + 1, ?_, ⟨rfl, by omega⟩, ⟨lr_ _, lr_ _, lr_ _, lr_ _, ?_, lr_ _, trivial⟩, trivial⟩
 ·show l.length - ((i + l.length) / 2 + 1) < l.length - i
  omega
 ·exact (congrArg (fun n : Int => LV.le (vint .i64 (n + 1)) (.av (int (((i + l.length) / 2 + 1 : Nat) : Int)))) hmid).mpr (lr_ _)
theorem znq (l : List Bld) (hl : l.length ≤ 1000000000000) (id : Int) (hid : ∀ b ∈ l, b.id < id) (st : Store) (R : AV → Store → Prop) (h : R (.tup [int (l.length : Nat), V.bool false]) st) : ACalls Tryz.prog 203 [lst 6 bldC l, int id] st R := by
 refine ACalls.of_body (c := cfg 11) zd Tryz.func203 (by rfl) (by rfl) (by rfl) (by rfl) ?_
 exact zq6 l hl id hid _ _ (ret h)
/-- A building behind all others. -/
theorem zh6 {N : Store} {v : AV} {l : List Bld} (hv : RowsQ 6 bldC N v l) (hl : l.length ≤ 1000000) (x : Bld) (R : AV → Store → Prop) (h : ∀ v' N', RowsQ 6 bldC N' v' (l ++ [x]) → R v' N') : ACalls Tryz.prog 206 [v, int (l.length : Nat), lst 6 bldC [x]] N R := by
 have hv2 := hv
 rcases hv with (⟨rfl, rfl⟩ | ⟨b, cap, L, rfl, ho, hc1, hc2, hc3⟩) | ⟨a, ha, rfl, rfl⟩
 ·refine ACalls.of_body (c := cfg 95) zd Tryz.func206 (by rfl) (by rfl) (by rfl) (by rfl) ?_
  refine ⟨rfl, rfl, ?_⟩
  refine kx (ie := ti59) rfl zy (by decide) hv2 x rfl (by decide) (fun b cap2 L2 q1 q2 q3 q4 => ret (h _ _ (.inl (.inr ⟨b, cap2, L2, rfl, zb _ _ _, q2, q3, q4⟩))))
 ·refine ACalls.of_body (c := cfg 95) zd Tryz.func206 (by rfl) (by rfl) (by rfl) (by rfl) ?_
  by_cases hc : l.length < cap
  ·refine ⟨l.length, l.length, rfl, rfl, Nat.le_refl _, hc1, .inl ⟨hc, ?_⟩⟩
   refine bceq (fun _ => ?_) (fun h => absurd rfl h)
   refine kx (ie := ti59) rfl zy (by decide) hv2 x rfl (by omega) (fun b cap2 L2 q1 q2 q3 q4 => ret (h _ _ (.inl (.inr ⟨b, cap2, L2, rfl, zb _ _ _, q2, q3, q4⟩))))
  ·refine ⟨l.length, l.length, rfl, rfl, Nat.le_refl _, hc1, .inr ⟨by omega, ?_⟩⟩
   refine bceq (fun _ => ?_) (fun h => absurd rfl h)
   refine kx (ie := ti59) rfl zy (by decide) hv2 x rfl (by omega) (fun b cap2 L2 q1 q2 q3 q4 => ret (h _ _ (.inl (.inr ⟨b, cap2, L2, rfl, zb _ _ _, q2, q3, q4⟩))))
 ·cases a with
  | none =>
   refine ACalls.of_body (c := cfg 95) zd Tryz.func206 (by rfl) (by rfl) (by rfl) (by rfl) ?_
   refine ⟨rfl, rfl, ?_⟩
   refine kx (ie := ti59) rfl zy (by decide) hv2 x rfl (by decide) (fun b cap2 L2 q1 q2 q3 q4 => ret (h _ _ (.inl (.inr ⟨b, cap2, L2, rfl, zb _ _ _, q2, q3, q4⟩))))
  | some y =>
   obtain ⟨yb, yo, ys⟩ := y
   have := ha _ rfl
   dsimp only at this
   subst this
   refine ACalls.of_body (c := cfg 95) zd Tryz.func206 (by rfl) (by rfl) (by rfl) (by rfl) ?_
   refine ⟨0, 0, rfl, rfl, Nat.le_refl _, Nat.le_refl _, .inr ⟨rfl, ?_⟩⟩
   refine kx (ie := ti59) rfl zy (by decide) hv2 x rfl (by decide) (fun b cap2 L2 q1 q2 q3 q4 => ret (h _ _ (.inl (.inr ⟨b, cap2, L2, rfl, zb _ _ _, q2, q3, q4⟩))))
theorem zdr {N : Store} {v : AV} {l : List Bld} (hv : RowsQ 6 bldC N v l) {Oth M : Nat → Nat → Prop} {w : World} (sto : StoreOK N Oth M w) {x : Value} (hx : VRel w (fun b o => M b o ∨ Oth b o) v x) : VRel w (fun b o => (M b o ∨ Oth b o) ∧ N.obj b = none) (lst 6 bldC l) x := hv.borrow zy zgt sto hx
theorem zyp (g : Gnd) (hg : gndP g) (l : List Bld) (hl : l.length ≤ 256) (hlb : ∀ b ∈ l, bldP b ∧ onP g b) (b : Bld) (hb : bldP b) (hid : ∀ x ∈ l, x.id < b.id) :
  ACalls Tryz.prog 166 [.agg (gndC g), lst 6 bldC l, .agg (bldC b)] Store.empty fun r S => (putE g l b ≠ 0 ∧ r = .tup [.s (.slice none 0 0), int (putE g l b)]) ∨ (putE g l b = 0 ∧ ∃ v, RowsQ 6 bldC S v (l ++ [b]) ∧ r = .tup [v, int 0]) := by
 refine ACalls.of_body (c := cfg 48 [5] []) zd Tryz.func166 (by rfl) (by rfl) (by rfl) (by rfl) ?_
 intro p hp
 have ho : (Store.empty.setObj p (.cells (bldC b))).obj p = some (.cells (bldC b)) := zb _ _ _
 have bad : ∀ n : Int, n ≠ 0 → putE g l b = n → ∃ r st', AV.le (.tup [.s (.slice none 0 0), int n]) r ∧ (Store.empty.setObj p (.cells (bldC b))).Has st' ∧ ((putE g l b ≠ 0 ∧ r = .tup [.s (.slice none 0 0), int (putE g l b)]) ∨ (putE g l b = 0 ∧ ∃ v, RowsQ 6 bldC st' v (l ++ [b]) ∧ r = .tup [v, int 0])) := fun n hn e =>
  ret (.inl ⟨by rw [e]; exact hn, by rw [e]⟩)
 refine za _ ho ?_
 refine znq l (by omega) b.id hid _ _ ?_
 refine za _ ho ?_
 refine zfj b _ _ (fun z hz => ?_)
 refine yv ?_
 refine ze (fun c1 => ?_) (fun c1 => by have := hz.2 hb; rw [this] at c1; cases c1)
 refine za _ ho ?_
 refine zlq g b hg hb _ _ (fun z hz => ?_)
 refine yv ?_
 refine ze (fun c2 => ?_) (fun c2 => ?_)
 rotate_left
 ·have hno : ¬ onP g b := fun hh => by have := hz.2 hh; rw [this] at c2; cases c2
  exact bad 3 (by decide) (by unfold putE; rw [if_pos hno])
 have hon := hz.1 c2
 refine vf l (by omega) _ _ (fun x => decide (jp x b)) _ (fun x hx R h => zms g hg b x ⟨hb, hon⟩ (hlb x hx) p _ ho R h) _ ?_
 refine ze (fun c3 => ?_) (fun c3 => ?_)
 ·have hex : ∃ x ∈ l, jp x b := by
   obtain ⟨x, hx, h2⟩ := List.any_eq_true.1 c3
   exact ⟨x, hx, of_decide_eq_true h2⟩
  exact bad 12 (by decide) (by unfold putE; rw [if_neg (fun h => h hon), if_pos hex])
 have hnex : ¬ ∃ x ∈ l, jp x b := fun ⟨x, hx, h2⟩ => by
  have : l.any (fun x => decide (jp x b)) = true := List.any_eq_true.2 ⟨x, hx, decide_eq_true h2⟩
  rw [this] at c3; cases c3
 refine za _ ho ?_
 refine zfk g hg b ⟨hb, hon⟩ _ _ (fun z hz => ?_)
 refine yv ?_
 refine ze (fun c4 => ?_) (fun c4 => ?_)
 rotate_left
 ·have hno : ¬ zbu g b := fun hh => by have := hz.2 hh; rw [this] at c4; cases c4
  exact bad 5 (by decide) (by unfold putE; rw [if_neg (fun h => h hon), if_neg hnex, if_pos hno])
 have hfi := hz.1 c4
 have hlen : ((rws bldC l).length : Int) = (l.length : Int) := by rw [zh]
 refine bceq (fun c5 => ?_) (fun c5 => ?_)
 ·exact bad 4 (by decide) (by unfold putE; rw [if_neg (fun h => h hon), if_neg hnex, if_neg (fun h => h hfi), if_pos (by omega)])
 have h0 : putE g l b = 0 := by unfold putE; rw [if_neg (fun h => h hon), if_neg hnex, if_neg (fun h => h hfi), if_neg (by omega)]
 refine ADraw.of_sched zd (by rfl) (by rfl) zoj (by rfl) ?_
 refine za (o := (Store.empty.setObj p (.cells (bldC b))).obj p) _ ho ?_
 refine ⟨by decide, ?_⟩
 refine ⟨zav l (by omega) _ _ (fun v N hv hd => ⟨?_, ?_⟩), trivial⟩
 ·repeat (first | exact trivial | refine ⟨rfl, ?_⟩ | refine ⟨za (o := (N.un (Store.empty.setObj p (.cells (bldC b)))).obj p) _ (un_r ho) rfl, ?_⟩)
 refine ⟨zh6 (hv.unL hd) (by omega) b _ (fun v' N' hv' => ⟨trivial, ?_⟩), trivial⟩
 refine ⟨⟨trivial, ?_⟩, trivial⟩
 refine ⟨⟨trivial, ?_⟩, trivial⟩
 exact ret (.inr ⟨h0, _, hv', rfl⟩)
theorem zq7 (g : Gnd) (hg : gndP g) (l : List Bld) (hl : l.length ≤ 256) (hlb : ∀ b ∈ l, bldP b ∧ onP g b) (b : Bld) (hb : bldP b) (hid : ∀ x ∈ l, x.id < b.id) (st : Store) (R : AV → Store → Prop)
  (h : putE g l b ≠ 0 → R (.tup [.s (.slice none 0 0), int (putE g l b)]) st) (h0 : putE g l b = 0 → R (.tup [lst 6 bldC (l ++ [b]), int 0]) st) : ACalls Tryz.prog 166 [.agg (gndC g), lst 6 bldC l, .agg (bldC b)] st R := by
 have h1 := (zyp g hg l hl hlb b hb hid).frozen (R := fun r => (putE g l b ≠ 0 ∧ r = .tup [.s (.slice none 0 0), int (putE g l b)]) ∨ (putE g l b = 0 ∧ r = .tup [lst 6 bldC (l ++ [b]), int 0])) (by
  rintro r S (⟨h1, rfl⟩ | ⟨h1, v, hv, rfl⟩)
  ·exact ⟨_, .inl ⟨h1, rfl⟩, fun Oth M w' v' sto hx => zw hx⟩
  ·refine ⟨_, .inr ⟨h1, rfl⟩, fun Oth M w' v' sto hx => ?_⟩
   cases hx with
   | tup _ c2 hl hc2 =>
    refine .tup _ c2 hl fun i x y hx hy => ?_
    match i with
    | 0 => simp only [List.getElem?_cons_zero, Option.some.injEq] at hx; subst hx; exact zdr hv sto (hc2 0 _ y rfl hy)
    | 1 => simp only [List.getElem?_cons_succ, List.getElem?_cons_zero, Option.some.injEq] at hx; subst hx; exact zw (hc2 1 _ y rfl hy)
    | i + 2 => simp at hx)
 have h2 : ACalls Tryz.prog 166 [.agg (gndC g), lst 6 bldC l, .agg (bldC b)] Store.empty fun r S => ((putE g l b ≠ 0 ∧ r = .tup [.s (.slice none 0 0), int (putE g l b)]) ∨ (putE g l b = 0 ∧ r = .tup [lst 6 bldC (l ++ [b]), int 0])) ∧ S = Store.empty :=
  h1.post (Store.Le.refl _) fun r st' hr => ⟨r, Store.empty, AV.le_refl r, (hasE st').toLe, hr, rfl⟩
 rw [← yx st]
 exact ACalls.frame (kw st) h2 fun r S ⟨e, e2⟩ hd => by
  subst e2
  rw [yx]
  rcases e with ⟨q, rfl⟩ | ⟨q, rfl⟩
  ·exact h q
  ·exact h0 q
end Go.Proofs
namespace Go.Proofs
open Go Go.V
theorem zpe {w : Wld} (hm : mayP w) : ∀ u ∈ w.U, u.inn = 0 → yg u.pos.1 u.pos.2 := fun u hu h0 => by
 have hg := (mayF hm).hg
 have hcl := hm.2.1 u hu h0
 have h1 := hcl.1.1
 have hr := zad u.kind
 have h2 := hg.1
 have h3 := hg.2.1
 unfold yg
 omega
theorem zdp (g : Gnd) (hg : gndP g) (t : Nat) (ht : (t : Int) < g.W * g.H) (x : Int) (hx : x = (t : Int)) (st : Store) (R : AV → Store → Prop) (h : R (.agg (vecC (tx g t + 32768, ty g t + 32768))) st) : ACalls Tryz.prog 174 [.agg (gndC g), int x] st R := by
 subst hx
 exact zxz g hg t ht st R h
set_option maxHeartbeats 1000000 in
theorem zja {F G : Store} {xw s p : Nat} {w : Wld} {v : AV} {L : List Ent} {o0 o1 o2 : AV} {c : Cmd} {fv : AV} (hW : Work F G xw s p w v L o0 o1 o2 c fv) (hm : MayF w) (hn : ∀ u ∈ w.U, u.pos.ok) (hpl : ∀ u ∈ w.U, u.inn = 0 → yg u.pos.1 u.pos.2) (b : Bld) (hb : bldP b ∧ onP w.G b) (R : AV → Store → Prop)
  (h : ∀ z F', (z = true ↔ za9 w b) → StandR F' G s p w v L o0 o1 o2 → R (V.bool z) (F'.un (svS G s w v o0 o1 o2 p))) : ACalls Tryz.prog 167 [ptr xw, .agg (bldC b)] (F.un (svS G s w v o0 o1 o2 p)) R := by
 have hU := hm.hU
 have hx := hW.x (F' := F) (q0 := o0) (q1 := o1) (q2 := o2)
 have hs := hW.s (F' := F) (q0 := o0) (q1 := o1) (q2 := o2)
 obtain ⟨oa, cap, e, hget⟩ := hW.S.hu.form
 subst e
 refine ACalls.of_body (c := cfg 62) zd Tryz.func167 (by rfl) (by rfl) (by rfl) (by rfl) ?_
 refine ADraw.of_sched zd (by rfl) (by rfl) zwl (by rfl) ?_
 refine za (o := (F.un (svS G s w _ o0 o1 o2 p)).obj xw) _ hx ?_
 refine za (o := (F.un (svS G s w _ o0 o1 o2 p)).obj s) _ hs ?_
 refine ⟨wi w.G hm.hg b hb _ _ ⟨(by repeat (first | exact trivial | refine ⟨rfl, ?_⟩ | refine ⟨optR (optR (optR (za _ (zb _ _ _) rfl))), ?_⟩)), ?_⟩, trivial⟩
 have hmem := ql hm.hg hb.1 hb.2
 have hts := zbn w.G.W hb.1
 have hmw : za9 w b ↔ ∃ t ∈ xg w.G.W b, ∃ u ∈ w.U, u.inn = 0 ∧ hitP w.G t.toNat u.pos (kRad u.kind) := by
  unfold za9
  constructor
  ·rintro ⟨t, ⟨h1, h2⟩, u, hu, h3⟩
   exact ⟨(t : Int), (hmem _).2 ⟨t, rfl, h1, h2⟩, u, hu, by rw [Int.toNat_natCast]; exact h3⟩
  ·rintro ⟨t, ht, u, hu, h3⟩
   obtain ⟨n, rfl, h1, h2⟩ := (hmem t).1 ht
   rw [Int.toNat_natCast] at h3
   exact ⟨n, ⟨h1, h2⟩, u, hu, h3⟩
 generalize xg w.G.W b = ts at *
 refine AWp.loop (σ := Nat × Store) ⟨fun x => [(0, .av (ptr xw)), (18, .av (ints ts)), (19, .av (int (ts.length : Nat))), (20, .av (int (x.1 : Nat)))], fun _ => [],
  fun x st' => x.1 ≤ ts.length ∧ st' = x.2.un (svS G s w (.s (.slice oa w.U.length cap)) o0 o1 o2 p) ∧ StandR x.2 G s p w (.s (.slice oa w.U.length cap)) L o0 o1 o2 ∧ ∀ j, (hj : j < ts.length) → j < x.1 → ∀ u ∈ w.U, u.inn = 0 → ¬ hitP w.G ts[j].toNat u.pos (kRad u.kind), fun x => ts.length - x.1⟩ zd ?_ ?_
 ·refine ⟨(0, F), trivial, ⟨Nat.zero_le _, rfl, hW.S, fun j _ hj => by omega⟩, ⟨lr_ _, lr_ _, ?_, lr_ _, trivial⟩, trivial⟩
  rw [← zh (f := intC) ts]; exact lr_ _
 rintro ⟨i, F1⟩ st' ⟨hi, rfl, hS1, hno⟩
 dsimp only at hi hS1 hno ⊢
 refine bcd (fun h1 => ?_) (fun h1 => ?_)
 rotate_left
 ·refine ret (h false F1 ?_ hS1)
  simp only [Bool.false_eq_true, false_iff]
  rw [hmw]
  rintro ⟨t, ht, u, hu, h0, hh⟩
  obtain ⟨j, hj, rfl⟩ := List.getElem_of_mem ht
  exact hno j hj (by omega) u hu h0 hh
 have hlt : i < ts.length := by omega
 obtain ⟨n, hn1, hn2, hn3⟩ := (hmem ts[i]).1 (List.getElem_mem hlt)
 have hx1 := hW.x (F' := F1) (q0 := o0) (q1 := o1) (q2 := o2)
 have hs1 := hW.s (F' := F1) (q0 := o0) (q1 := o1) (q2 := o2)
 refine ⟨i, rfl, za _ (zj hlt) ?_⟩
 refine ADraw.of_sched zd (by rfl) (by rfl) zwk (by rfl) ?_
 refine za (o := (F1.un (svS G s w _ o0 o1 o2 p)).obj xw) _ hx1 ?_
 refine za (o := (F1.un (svS G s w _ o0 o1 o2 p)).obj xw) _ hx1 ?_
 refine za (o := (F1.un (svS G s w _ o0 o1 o2 p)).obj s) _ hs1 ?_
 refine ⟨zdp w.G hm.hg n hn2 ts[i] hn1 _ _ ⟨?_, ?_⟩, trivial⟩
 ·repeat (first | exact trivial | refine ⟨rfl, ?_⟩ | refine ⟨za (o := (F1.un (svS G s w _ o0 o1 o2 p)).obj xw) _ hx1 rfl, ?_⟩ | refine ⟨za (o := (F1.un (svS G s w _ o0 o1 o2 p)).obj s) _ hs1 rfl, ?_⟩)
 have htb := txty hm.hg hn2
 refine ⟨zde hS1 hm.hr (by omega) hn hW.hL hW.hF (tx w.G n + 32768, ty w.G n + 32768) ⟨⟨by dsimp only; omega, by dsimp only; omega⟩, ⟨by dsimp only; omega, by dsimp only; omega⟩⟩ 65536 (by decide) _ (fun F2 us hS2 hus hul => ⟨?_, ?_⟩), trivial⟩
 ·repeat (first | exact trivial | refine ⟨rfl, ?_⟩)
 have hx2 := hW.x (F' := F2) (q0 := o0) (q1 := o1) (q2 := o2)
 have hs2 := hW.s (F' := F2) (q0 := o0) (q1 := o1) (q2 := o2)
 refine AWp.loop (σ := Nat) ⟨fun k => [(0, .av (ptr xw)), (6, .av (int ts[i])), (18, .av (ints ts)), (19, .av (int (ts.length : Nat))), (20, .av (int (i : Nat))), (38, .av (lst 10 untC us)), (39, .av (int (us.length : Nat))), (40, .av (int (k : Nat)))], fun _ => [],
  fun k st' => k ≤ us.length ∧ st' = F2.un (svS G s w (.s (.slice oa w.U.length cap)) o0 o1 o2 p) ∧ ∀ j, (hj : j < us.length) → j < k → ¬ hitP w.G n us[j].pos (kRad us[j].kind), fun k => us.length - k⟩ zd ?_ ?_
 ·refine ⟨0, trivial, ⟨Nat.zero_le _, rfl, fun j _ hj => by omega⟩, ⟨lr_ _, lr_ _, lr_ _, lr_ _, lr_ _, lr_ _, ?_, lr_ _, trivial⟩, trivial⟩
  rw [← zh (f := untC) us]; exact lr_ _
 rintro k st' ⟨hk, rfl, hnk⟩
 refine bcd (fun h2 => ?_) (fun h2 => ?_)
 rotate_left
 ·refine in64 (by omega) ?_
  refine ⟨(i + 1, F2), ?_, ⟨by dsimp only; omega, rfl, hS2, fun j hj hji u hu h0 hh => ?_⟩, ⟨lr_ _, lr_ _, lr_ _, lr_ _, trivial⟩, trivial⟩
  ·show ts.length - (i + 1) < ts.length - i
   omega
  ·by_cases e : j = i
   ·subst e
    rw [hn1, Int.toNat_natCast] at hh
    have hnear := yco hm.hg hn2 (hpl u hu h0) (zad u.kind) hh
    have hmu := (hus u).2 ⟨⟨hu, h0⟩, hnear⟩
    obtain ⟨m, hm2, rfl⟩ := List.getElem_of_mem hmu
    exact hnk m hm2 (by omega) hh
   ·exact hno j hj (by dsimp only at hji; omega) u hu h0 hh
 have hkl : k < us.length := by omega
 have huk := (hus us[k]).1 (List.getElem_mem hkl)
 refine ⟨k, rfl, za _ (zj hkl) ?_⟩
 refine ADraw.of_sched zd (by rfl) (by rfl) zwj (by rfl) ?_
 refine za (o := (F2.un (svS G s w _ o0 o1 o2 p)).obj xw) _ hx2 ?_
 refine za (o := (F2.un (svS G s w _ o0 o1 o2 p)).obj s) _ hs2 ?_
 refine ⟨y4 us[k].kind _ _ ⟨?_, ?_⟩, trivial⟩
 ·repeat (first | exact trivial | refine ⟨rfl, ?_⟩ | refine ⟨za (o := (F2.un (svS G s w _ o0 o1 o2 p)).obj xw) _ hx2 rfl, ?_⟩ | refine ⟨za (o := (F2.un (svS G s w _ o0 o1 o2 p)).obj s) _ hs2 rfl, ?_⟩)
 have hkr := zad us[k].kind
 refine ⟨ze8 w.G hm.hg n hn2 ts[i] hn1 us[k].pos (hpl _ huk.1.1 huk.1.2) (kRad us[k].kind) ⟨hkr.1, by omega⟩ _ _ ⟨trivial, ?_⟩, trivial⟩
 refine bcd (fun h3 => ?_) (fun h3 => ?_)
 ·refine ret (h true F2 ?_ hS2)
  simp only [true_iff]
  exact hmw.2 ⟨ts[i], List.getElem_mem hlt, us[k], huk.1.1, huk.1.2, by rw [hn1, Int.toNat_natCast]; exact h3⟩
 refine in64 (by omega) ?_
 refine ⟨k + 1, ?_, ⟨by omega, rfl, fun j hj hjk => ?_⟩, ⟨lr_ _, lr_ _, lr_ _, lr_ _, lr_ _, lr_ _, lr_ _, lr_ _, trivial⟩, trivial⟩
 ·show us.length - (k + 1) < us.length - k
  omega
 ·by_cases e : j = k
  ·subst e; exact h3
  ·exact hnk j hj (by omega)
end Go.Proofs
namespace Go.Proofs
open Go Go.V
theorem yd0 {w : Wld} (hm : mayP w) {c : Cmd} (hc : cmdP c) (hk : c.K = 4) (hn : ¬ 1099511627776 ≤ w.next) : bldP (bdB w c) ∧ ∀ x ∈ w.B, x.id < (bdB w c).id := by
 have hok := (Cmd.ok4 hk).1 hc.1
 have mf := mayF hm
 have := mf.hn1
 have hP := hc.2.1
 refine ⟨⟨by unfold bdB; dsimp only; omega, hP, hok.2.1, hok.2.2⟩, fun x hx => ?_⟩
 have := (hm.1.1.2.2 x hx).2
 exact this
set_option maxHeartbeats 2000000 in
set_option maxRecDepth 20000 in
theorem zjc {F G : Store} {xw s p : Nat} {w : Wld} {v : AV} {L : List Ent} {o0 o1 o2 : AV} {c : Cmd} {fv : AV} (hW : Work F G xw s p w v L o0 o1 o2 c fv) (hm : mayP w) (hn : ∀ u ∈ w.U, u.pos.ok) (hc : cmdP c) (hk : c.K = 4) (R : AV → Store → Prop)
  (h : ∀ S', bdE w c ≠ 0 → R (int (bdE w c)) S') (h0 : bdE w c = 0 → ∀ S', Done S' xw s c fv (bdW w c) → R (int 0) S') : ACalls Tryz.prog 121 [ptr xw] (F.un (svS G s w v o0 o1 o2 p)) R := by
 have mf := mayF hm
 have hg := mf.hg
 have hg1 := hg.1
 have hg2 := hg.2.1
 have hn2 := mf.hn2
 have hn1 := mf.hn1
 have hok := (Cmd.ok4 hk).1 hc.1
 have hT := hok.1
 unfold j6 at hT
 have hx := hW.x (F' := F) (q0 := o0) (q1 := o1) (q2 := o2)
 have hs := hW.s (F' := F) (q0 := o0) (q1 := o1) (q2 := o2)
 obtain ⟨oa, cap, e, hget⟩ := hW.S.hu.form
 subst e
 have hq : c.T.tmod w.G.W = c.T % w.G.W := Int.tmod_eq_emod_of_nonneg hT.1
 have hq2 : c.T.tdiv w.G.W = c.T / w.G.W := Int.tdiv_eq_ediv_of_nonneg hT.1
 have hq3 : 0 ≤ c.T / w.G.W ∧ c.T / w.G.W ≤ c.T := ⟨Int.ediv_nonneg hT.1 (by omega), Int.ediv_le_self _ hT.1⟩
 have bad : ∀ n : Int, n ≠ 0 → bdE w c = n → ∀ S, R (int n) S := fun n hn e S => by
  have := h S (by rw [e]; exact hn)
  rw [e] at this
  exact this
 refine ACalls.of_body (c := cfg 116) zd Tryz.func121 (by rfl) (by rfl) (by rfl) (by rfl) ?_
 refine za (o := (F.un (svS G s w _ o0 o1 o2 p)).obj xw) _ hx ?_
 refine za (o := (F.un (svS G s w _ o0 o1 o2 p)).obj s) _ hs ?_
 refine ADraw.of_sched zd (by rfl) (by rfl) zxa (by rfl) ?_
 refine za (o := (F.un (svS G s w _ o0 o1 o2 p)).obj xw) _ hx ?_
 refine ⟨zf8 w.G c.T hg _ _ (fun z hz => ⟨?_, ?_⟩), trivial⟩
 ·repeat (first | exact trivial | refine ⟨rfl, ?_⟩ | refine ⟨za (o := (F.un (svS G s w _ o0 o1 o2 p)).obj xw) _ hx rfl, ?_⟩)
 refine ⟨⟨trivial, ?_⟩, trivial⟩
 refine yv ?_
 refine ze (fun c1 => ?_) (fun c1 => ?_)
 rotate_left
 ·have hno : ¬ (0 ≤ c.T ∧ c.T < w.G.W * w.G.H) := fun hh => by have := hz.2 hh; rw [this] at c1; cases c1
  exact ret (bad 3 (by decide) (by unfold bdE; rw [if_pos hno]) _)
 have ht := hz.1 c1
 refine za (o := (F.un (svS G s w _ o0 o1 o2 p)).obj xw) _ hx ?_
 refine za (o := (F.un (svS G s w _ o0 o1 o2 p)).obj s) _ hs ?_
 refine bceq (fun c2 => ?_) (fun c2 => ?_)
 ·exact ret (bad 4 (by decide) (by unfold bdE; rw [if_neg (fun hh => hh ht), if_pos (by omega)]) _)
 have hnx : ¬ 1099511627776 ≤ w.next := by omega
 obtain ⟨hbp, hid⟩ := yd0 hm hc hk hnx
 refine ADraw.of_sched zd (by rfl) (by rfl) zw9 (by rfl) ?_
 refine za (o := (F.un (svS G s w _ o0 o1 o2 p)).obj xw) _ hx ?_
 refine za (o := (F.un (svS G s w _ o0 o1 o2 p)).obj s) _ hs ?_
 refine za (o := (F.un (svS G s w _ o0 o1 o2 p)).obj xw) _ hx ?_
 refine za (o := (F.un (svS G s w _ o0 o1 o2 p)).obj xw) _ hx ?_
 refine ⟨by omega, ?_⟩
 refine za (o := (F.un (svS G s w _ o0 o1 o2 p)).obj xw) _ hx ?_
 refine ⟨by omega, ?_⟩
 refine in64 (by rw [hq2]; omega) ?_
 refine za (o := (F.un (svS G s w _ o0 o1 o2 p)).obj xw) _ hx ?_
 refine za (o := (F.un (svS G s w _ o0 o1 o2 p)).obj xw) _ hx ?_
 refine ⟨⟨?_, ?_⟩, trivial⟩
 ·repeat (first | exact trivial | refine ⟨rfl, ?_⟩ | refine ⟨za (o := (F.un (svS G s w _ o0 o1 o2 p)).obj xw) _ hx rfl, ?_⟩ | refine ⟨za (o := (F.un (svS G s w _ o0 o1 o2 p)).obj s) _ hs rfl, ?_⟩ | refine ⟨⟨by omega, rfl⟩, ?_⟩ | refine ⟨⟨by omega, in64 (by rw [hq2]; omega) rfl⟩, ?_⟩)
 refine ⟨⟨trivial, ?_⟩, trivial⟩
 refine ADraw.of_sched zd (by rfl) (by rfl) zw8 (by rfl) ?_
 refine za (o := (F.un (svS G s w _ o0 o1 o2 p)).obj xw) _ hx ?_
 refine za (o := (F.un (svS G s w _ o0 o1 o2 p)).obj s) _ hs ?_
 refine ⟨zq7 w.G hg w.B mf.hB mf.hb (bdB w c) hbp hid _ _ (fun he => ⟨?_, ?_⟩) (fun he => ⟨?_, ?_⟩), trivial⟩
 ·repeat (first | exact trivial | refine ⟨rfl, ?_⟩ | refine ⟨za (o := (F.un (svS G s w _ o0 o1 o2 p)).obj xw) _ hx rfl, ?_⟩ | refine ⟨za (o := (F.un (svS G s w _ o0 o1 o2 p)).obj s) _ hs rfl, ?_⟩)
 ·refine ⟨⟨trivial, ?_⟩, trivial⟩
  refine ⟨⟨trivial, ?_⟩, trivial⟩
  refine bcne (fun _ => ?_) (fun hh => absurd hh he)
  have e1 : bdE w c = putE w.G w.B (bdB w c) := by unfold bdE; rw [if_neg (fun hh => hh ht), if_neg hnx, if_neg he]
  have := h (F.un (svS G s w (.s (.slice oa w.U.length cap)) o0 o1 o2 p)) (by rw [e1]; exact he)
  rw [e1] at this
  exact ret this
 ·repeat (first | exact trivial | refine ⟨rfl, ?_⟩ | refine ⟨za (o := (F.un (svS G s w _ o0 o1 o2 p)).obj xw) _ hx rfl, ?_⟩ | refine ⟨za (o := (F.un (svS G s w _ o0 o1 o2 p)).obj s) _ hs rfl, ?_⟩)
 refine ⟨⟨trivial, ?_⟩, trivial⟩
 refine ⟨⟨trivial, ?_⟩, trivial⟩
 have hon : onP w.G (bdB w c) := Classical.byContradiction fun hh => by
  unfold putE at he
  rw [if_pos hh] at he
  cases he
 have e1 : bdE w c = (by classical exact if za9 w (bdB w c) then 5 else 0) := by
  unfold bdE
  rw [if_neg (fun hh => hh ht), if_neg hnx, if_pos he]
 refine zja hW mf hn (zpe hm) (bdB w c) ⟨hbp, hon⟩ _ (fun z F2 hz hS2 => ?_)
 refine ze (fun c3 => ?_) (fun c3 => ?_)
 ·exact ret (bad 5 (by decide) (by rw [e1, if_pos (hz.1 c3)]) _)
 have hnm : ¬ za9 w (bdB w c) := fun hh => by have := hz.2 hh; rw [this] at c3; cases c3
 have hz0 : bdE w c = 0 := by rw [e1, if_neg hnm]
 have hx2 := hW.x (F' := F2) (q0 := o0) (q1 := o1) (q2 := o2)
 have hs2 := hW.s (F' := F2) (q0 := o0) (q1 := o1) (q2 := o2)
 have hr2 := hW.r (F' := F2) (q0 := o0) (q1 := o1) (q2 := o2)
 have hos := hW.os
 have hxs := hW.ne
 generalize F2.un (svS G s w _ o0 o1 o2 p) = S at hx2 hs2 hr2 ⊢
 refine za (o := S.obj xw) _ hx2 ?_
 refine qk (i := ti25) (v := lst 6 bldC (w.B ++ [bdB w c])) (b := s) (o := 6) (l := svC w (.s (.slice oa w.U.length cap)) o0 o1 o2 p) rfl rfl rfl hs2 (show 6 + 1 ≤ 12 by decide) ?_
 have hs3 : (S.setObj s (.cells (zn (svC w (.s (.slice oa w.U.length cap)) o0 o1 o2 p) 6 [lst 6 bldC (w.B ++ [bdB w c])]))).obj s = some (.cells (svC { w with B := w.B ++ [bdB w c] } (.s (.slice oa w.U.length cap)) o0 o1 o2 p)) := zb _ _ _
 have hx3 := (zg (st := S) (x := .cells (zn (svC w (.s (.slice oa w.U.length cap)) o0 o1 o2 p) 6 [lst 6 bldC (w.B ++ [bdB w c])])) hxs).trans hx2
 have hr3 := hr2.set hos (.cells (zn (svC w (.s (.slice oa w.U.length cap)) o0 o1 o2 p) 6 [lst 6 bldC (w.B ++ [bdB w c])]))
 generalize S.setObj s _ = S2 at hs3 hx3 hr3 ⊢
 refine za (o := S2.obj xw) _ hx3 ?_
 refine za (o := S2.obj s) _ hs3 ?_
 refine in64 (by dsimp only; omega) ?_
 refine qk (i := ti3) (v := int (w.next + 1)) (b := s) (o := 2) (l := svC { w with B := w.B ++ [bdB w c] } (.s (.slice oa w.U.length cap)) o0 o1 o2 p) rfl rfl rfl hs3 (show 2 + 1 ≤ 12 by decide) ?_
 exact ret (h0 hz0 _ ⟨_, o0, o1, o2, p, (zg hxs).trans hx3, zb _ _ _, hr3.set hos _⟩)
theorem yeq : vg 4 bdE bdW := by
 intro F G xw s p w v L o0 o1 o2 c hW hm hn hc hp hk R h h0
 have hx := hW.x (F' := F) (q0 := o0) (q1 := o1) (q2 := o2)
 refine ACalls.of_body (c := cfg 34) zd Tryz.func79 (by rfl) (by rfl) (by rfl) (by rfl) ?_
 refine za (o := (F.un (svS G s w v o0 o1 o2 p)).obj xw) _ hx ?_
 refine bceq (fun c1 => absurd (hk.symm.trans c1) (by decide)) (fun _ => ?_)
 refine bceq (fun c1 => absurd (hk.symm.trans c1) (by decide)) (fun _ => ?_)
 refine bceq (fun c1 => absurd (hk.symm.trans c1) (by decide)) (fun _ => ?_)
 refine bceq (fun _ => ?_) (fun c1 => absurd hk c1)
 refine zjc hW hm hn hc hk _ (fun S' he => ret (h S' he)) (fun he S' hd => ret (h0 he S' hd))
end Go.Proofs
namespace Go.Proofs
open Go Go.V
end Go.Proofs
namespace Go.Proofs
open Go Go.V
end Go.Proofs
namespace Go.Proofs
open Go Go.V
end Go.Proofs
