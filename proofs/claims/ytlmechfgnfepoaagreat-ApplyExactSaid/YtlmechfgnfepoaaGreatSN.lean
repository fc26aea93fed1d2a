/- The ground on which laws of thronglaw23 are proved: contracts of functions and plain lemmas; no condition beyond the row's own. -/
import Derived.Test.YtlmechfgnfepoaaGreatSL
import Derived.Test.YtlmechfgnfepoaaGreatSM
import Derived.Test.YtlmechfgnfepoaaGreatSK
import Derived.Test.YtlmechfgnfepoaaGreatSI
import Derived.Test.YtlmechfgnfepoaaGreatSG
import Derived.Test.YtlmechfgnfepoaaGreatSJ
set_option linter.unusedSimpArgs false
set_option linter.unusedVariables false
namespace Go.Proofs
open Go Go.V
theorem max2_eq (a b : Int) : max2 a b = max a b := by
 unfold max2
 by_cases h : b > a
 ·rw [decide_eq_true h]; show b = _; omega
 ·rw [decide_eq_false h]; show a = _; omega
/-- What is handed back as numbers in memory of its own is a plain list from then on. -/
theorem zop {f : FuncId} {xs : List AV} {l : List Int} (h0 : ACalls Tryz.prog f xs Store.empty fun r S => RowsQ 1 intC S r l) (st : Store) (R : AV → Store → Prop) (h : R (ints l) st) : ACalls Tryz.prog f xs st R := by
 have h1 := h0.frozen (R := fun r => r = ints l) (by
  rintro r S hv
  exact ⟨_, rfl, fun Oth M w' v' sto hx => RowsQ.borrow (f := intC) (k := 1) (fun _ => rfl) (fun x y hy => by simp [intC] at hy; exact ⟨_, hy, rfl⟩) hv sto hx⟩)
 have h2 : ACalls Tryz.prog f xs Store.empty fun r S => r = ints l ∧ S = Store.empty :=
  h1.post (Store.Le.refl _) fun r st' hr => ⟨r, Store.empty, AV.le_refl r, (hasE st').toLe, hr, rfl⟩
 rw [← ym st]
 exact ACalls.frame (xd st) h2 fun r S ⟨e, e2⟩ hd => by subst e e2; rw [ym]; exact h
theorem zj2 {α : Type} {k : Nat} {f : α → List AV} (S : Store) : RowsQ k f S (.s (.slice none 0 0)) ([] : List α) := .inl (.inl ⟨rfl, rfl⟩)
set_option maxHeartbeats 1000000 in
theorem zu3 (g : Gnd) (hg : gndP g) (f : Nat → Bool) (size : Int) (hs : 0 ≤ size ∧ size ≤ 3) (t : Nat) (ht : t < g.T.length) (n : Nat) (hn : n ≤ 1000) :
  ACalls Tryz.prog 202 [.agg (gndC g), lst 1 je (blL g.T.length f), int size, int t, int n] Store.empty fun r S => RowsQ 1 intC S r (natI (wj g f size (t : Int) n)) := by
 have hm := zt hg
 have hg1 := hg.1
 have hg2 := hg.2.1
 have hdone := fun (d : Nat) hh => zgv hg (f := f) (size := size) (goal := (t : Int)) (d := d) (n := n) ⟨by omega, by omega⟩ hh
 have hstep := fun (x y : Int) (k d : Nat) hk hd => zju (g := g) (f := f) (x := x) (y := y) (k := k) (d := d) hk hd
 obtain ⟨k, hk⟩ : ∃ k : Nat, 2 * size + 1 = (k : Int) := ⟨(2 * size + 1).toNat, by omega⟩
 rw [hk] at hdone
 have ring := zsg g hg t ht
 generalize hx : (t : Int) % g.W = x at *
 generalize hy : (t : Int) / g.W = y at *
 refine ACalls.of_body (c := cfg 60) ze Tryz.func202 (by rfl) (by rfl) (by rfl) (by rfl) ?_
 refine in64 (by omega) ?_
 refine in64 (by omega) ?_
 refine AWp.loop (σ := Nat × AV) ⟨fun s => [(1, .av (lst 1 je (blL g.T.length f))), (3, .av (int (t : Nat))), (4, .av (int (n : Nat))), (5, .bx 5 0), (10, .av s.2), (11, .av (int (k : Nat))), (12, .av (int ((s.1 * k : Nat))))], fun _ => [(5, gndC g)],
  fun s st' => s.1 * k ≤ 200 ∧ RowsQ 1 intC st' s.2 (natI ((yq g f x y k (s.1 * k)).take n)), fun s => 300 - s.1 * k⟩ ze ?_ ?_
 ·refine ⟨(0, _), trivial, ⟨by dsimp only; omega, ?_⟩, ⟨lr_ _, lr_ _, lr_ _, lr_ _, lr_ _, ?_, ?_, trivial⟩, ⟨rfl, trivial⟩⟩
  ·dsimp only
   rw [Nat.zero_mul]
   show RowsQ 1 intC _ _ (natI (([] : List Nat).take n))
   rw [List.take_nil]
   exact zj2 _
  ·rw [← hk]; exact lr_ _
  ·dsimp only
   rw [Nat.zero_mul]; exact lr_ _
 rintro ⟨m, v⟩ st' ⟨hm2, hap⟩
 dsimp only at hm2 hap ⊢
 obtain ⟨d, hd⟩ : ∃ d : Nat, m * k = d := ⟨_, rfl⟩
 have hdv : k ∣ d := ⟨m, by rw [Nat.mul_comm]; exact hd.symm⟩
 have hm1 : (m + 1) * k = d + k := by rw [Nat.add_mul, Nat.one_mul, hd]
 rw [hd] at hm2 hap ⊢
 obtain ⟨oa, cap, e, _⟩ := hap.form
 subst e
 have hlenT : (natI ((yq g f x y k d).take n)).length = ((yq g f x y k d).take n).length := qq _
 refine bcd (fun h1 => ?_) (fun h1 => ?_)
 rotate_left
 ·rw [max2_eq] at h1
  have e := hdone d (.inr (by omega))
  exact ret (by rw [← e]; exact hap)
 refine bcd (fun h2 => ?_) (fun h2 => ?_)
 rotate_left
 ·rw [hlenT, List.length_take] at h2
  have e := hdone d (.inl (by omega))
  exact ret (by rw [← e]; exact hap)
 have h1 : (d : Int) ≤ max g.W g.H := by rw [max2_eq] at h1; exact h1
 refine ring d k ⟨by omega, by omega⟩ ⟨by omega, by omega⟩ _ _ ?_
 have hstep := hstep x y k d (by omega) hdv
 have hL : ∀ u ∈ ze9 g x y k d, u < g.T.length := fun u hu => List.mem_range.1 (List.mem_filter.1 hu).1
 have hLl : (ze9 g x y k d).length ≤ g.T.length := by
  have := List.length_filter_le (jv g x y k d) (List.range g.T.length)
  rw [List.length_range] at this
  exact this
 have hslot : za7 g f x y k d = (ze9 g x y k d).filter f := rfl
 rw [hslot] at hstep
 generalize ze9 g x y k d = L at *
 generalize hA : yq g f x y k d = A at *
 refine AWp.loop (σ := Nat × AV) ⟨fun s => [(1, .av (lst 1 je (blL g.T.length f))), (3, .av (int (t : Nat))), (4, .av (int (n : Nat))), (5, .bx 5 0), (10, .av s.2), (11, .av (int (k : Nat))), (12, .av (int (d : Nat))), (38, .av (ints (natI L))), (39, .av (int (L.length : Nat))), (40, .av (int (s.1 : Nat)))], fun _ => [(5, gndC g)],
  fun s st' => s.1 ≤ L.length ∧ RowsQ 1 intC st' s.2 (natI ((A ++ (L.take s.1).filter f).take n)), fun s => L.length - s.1⟩ ze ?_ ?_
 ·refine ⟨(0, _), trivial, ⟨Nat.zero_le _, ?_⟩, ⟨lr_ _, lr_ _, lr_ _, lr_ _, lr_ _, lr_ _, lr_ _, lr_ _, ?_, lr_ _, trivial⟩, ⟨rfl, trivial⟩⟩
  ·dsimp only
   rw [List.take_zero, List.filter_nil, List.append_nil]
   exact hap
  ·show LV.le (.av (int ((rws intC (natI L)).length : Nat))) (.av (int (L.length : Nat)))
   rw [zf, qq]; exact lr_ _
 rintro ⟨i, v2⟩ st2 ⟨hi, hap2⟩
 dsimp only at hi hap2 ⊢
 refine bcd (fun h3 => ?_) (fun h3 => ?_)
 rotate_left
 ·have : i = L.length := by omega
  subst this
  rw [List.take_length, ← hstep] at hap2
  refine in64 (by omega) ?_
  refine ⟨(m + 1, v2), ?_, ⟨by dsimp only; omega, ?_⟩, ⟨lr_ _, lr_ _, lr_ _, lr_ _, lr_ _, lr_ _, ?_, trivial⟩, ⟨rfl, trivial⟩⟩
  ·show 300 - (m + 1) * k < 300 - m * k
   omega
  ·dsimp only
   rw [hm1]; exact hap2
  ·dsimp only
   rw [hm1, Int.natCast_add]; exact lr_ _
 have hlt : i < L.length := by omega
 have hlt2 : i < (natI L).length := by rw [qq]; exact hlt
 have hu := hL _ (List.getElem_mem hlt)
 have hnat : (natI L)[i]'hlt2 = ((L[i]'hlt : Nat) : Int) := List.getElem_map ..
 have hu2 : L[i] < (blL g.T.length f).length := by rw [yz]; exact hu
 have htk : (L.take (i + 1)).filter f = (L.take i).filter f ++ [L[i]].filter f := by rw [List.take_succ_eq_append_getElem hlt, List.filter_append]
 obtain ⟨oa2, cap2, e2, _⟩ := hap2.form
 subst e2
 have hlenT2 : (natI ((A ++ (L.take i).filter f).take n)).length = ((A ++ (L.take i).filter f).take n).length := qq _
 have hdec : L.length - (i + 1) < L.length - i := by omega
 refine ⟨i, rfl, za _ (zi hlt2) ?_⟩
 refine ⟨L[i], hnat, za _ (zi hu2) ?_⟩
 rw [zdf hu]
 refine zd (fun c1 => ?_) (fun c1 => ?_)
 rotate_left
 ·have e : [L[i]].filter f = [] := by simp [c1]
  rw [e, List.append_nil] at htk
  refine in64 (by omega) ?_
  exact ⟨(i + 1, _), hdec, ⟨by dsimp only; omega, by dsimp only; rw [htk]; exact hap2⟩, ⟨lr_ _, lr_ _, lr_ _, lr_ _, lr_ _, lr_ _, lr_ _, lr_ _, lr_ _, lr_ _, trivial⟩, ⟨rfl, trivial⟩⟩
 have e : [L[i]].filter f = [L[i]] := by simp [c1]
 rw [e] at htk
 have hsn := zjl (A ++ (L.take i).filter f) L[i] n
 rw [List.append_assoc, ← htk] at hsn
 refine bcd (fun c2 => ?_) (fun c2 => ?_)
 ·have c2 : (A ++ (L.take i).filter f).length < n := (zcy _ _).1 (by rw [hlenT2] at c2; omega)
  rw [if_pos c2] at hsn
  refine ⟨by decide, ?_⟩
  have hTl : ((A ++ (L.take i).filter f).take n).length ≤ 1000 := by rw [List.length_take]; omega
  refine y7 (ie := ti3) rfl (fun _ => rfl) (by decide) hap2 ((natI L)[i]'hlt2) rfl (by rw [hlenT2]; omega) (fun b cap3 L3 q1 q2 q3 q4 => ?_)
  have h3 : RowsQ 1 intC (st2.setObj b _) _ _ := .inl (.inr ⟨b, cap3, L3, rfl, zb _ _ _, q2, q3, q4⟩)
  refine in64 (by omega) ?_
  refine ⟨(i + 1, _), hdec, ⟨by dsimp only; omega, ?_⟩, ⟨lr_ _, lr_ _, lr_ _, lr_ _, lr_ _, lr_ _, lr_ _, lr_ _, lr_ _, lr_ _, trivial⟩, ⟨rfl, trivial⟩⟩
  dsimp only
  rw [hsn, zid, show natI [L[i]] = [(natI L)[i]'hlt2] by rw [hnat]; rfl]
  exact h3
 ·have c2 : ¬ (A ++ (L.take i).filter f).length < n := fun hh => c2 (by have := (zcy (A ++ (L.take i).filter f) n).2 hh; rw [hlenT2]; omega)
  rw [if_neg c2] at hsn
  refine in64 (by omega) ?_
  refine ⟨(i + 1, _), hdec, ⟨by dsimp only; omega, ?_⟩, ⟨lr_ _, lr_ _, lr_ _, lr_ _, lr_ _, lr_ _, lr_ _, lr_ _, lr_ _, lr_ _, trivial⟩, ⟨rfl, trivial⟩⟩
  dsimp only
  rw [hsn]; exact hap2
theorem zrc (g : Gnd) (hg : gndP g) (f : Nat → Bool) (size : Int) (hs : 0 ≤ size ∧ size ≤ 3) (t : Nat) (ht : t < g.T.length) (n : Nat) (hn : n ≤ 1000) (st : Store) (R : AV → Store → Prop) (h : R (ints (natI (wj g f size (t : Int) n))) st) :
  ACalls Tryz.prog 202 [.agg (gndC g), lst 1 je (blL g.T.length f), int size, int t, int n] st R :=
 zop (zu3 g hg f size hs t ht n hn) st R h
end Go.Proofs
namespace Go.Proofs
open Go Go.V
theorem zol (i j : Int) : max2 (max2 i (0 - i)) (max2 j (0 - j)) = absM i j := by
 rw [max2_eq, max2_eq, max2_eq]
 unfold absM
 omega
theorem zfy (p : Nat → Bool) (i : Nat) : ∀ e : Nat, ∃ m, (List.range (i + e)).filter p = (List.range i).filter p ++ m
 | 0 => ⟨[], by simp⟩
 | e + 1 => by
  obtain ⟨m, hm⟩ := zfy p i e
  rw [show i + (e + 1) = (i + e) + 1 by omega, List.range_succ, List.filter_append, hm, List.append_assoc]
  exact ⟨_, rfl⟩
theorem zrq (g : Gnd) (f : Nat → Bool) (x y k d : Int) : za7 g f x y k d = (List.range g.T.length).filter (fun t => jv g x y k d t && f t) := by
 unfold za7 ze9
 rw [List.filter_filter]
 refine List.filter_congr fun t _ => ?_
 rw [Bool.and_comm]
set_option maxHeartbeats 1000000 in
theorem zph (g : Gnd) (hg : gndP g) (l : List Bld) (hl : l.length ≤ 1000000000000) (hb : ∀ b ∈ l, bldP b ∧ onP g b) (c : Int) (hc : c = 0 ∨ c = 1 ∨ c = 2) (size : Int) (hs : 0 ≤ size ∧ size ≤ 3) (goal : Nat) (hgl : goal < g.T.length) (n : Nat) (hn : n ≤ 1000) :
  ACalls Tryz.prog 85 [.agg (gndC g), lst 6 bldC l, int c, int size, int goal, int n] Store.empty fun r S => RowsQ 1 intC S r (natI (wj g (jr g l c size) size (goal : Int) n)) := by
 have hm := zt hg
 have hg1 := hg.1
 have hg2 := hg.2.1
 have htb := vp hg (t := goal) (by omega)
 have hq := trem (t := goal) hg.1.1
 have hq2 := tquo (t := goal) hg.1.1
 have hdone := fun (d : Nat) hh => zgv hg (f := jr g l c size) (size := size) (goal := (goal : Int)) (d := d) (n := n) ⟨by omega, by omega⟩ hh
 have hend : wj g (jr g l c size) size (goal : Int) n = (yq g (jr g l c size) ((goal : Int) % g.W) ((goal : Int) / g.W) (2 * size + 1) (g.W + g.H + 1).toNat).take n := rfl
 have rg := zpy g hg l hl hb c hc size hs.1
 unfold yb7 at rg
 generalize jr g l c size = f at *
 refine ACalls.of_body (c := cfg 111) ze Tryz.func85 (by rfl) (by rfl) (by rfl) (by rfl) ?_
 refine rg _ _ ?_
 obtain ⟨k, hk⟩ : ∃ k : Int, 2 * size + 1 = k := ⟨_, rfl⟩
 refine in64 (by omega) ?_
 refine in64 (by omega) ?_
 refine ADraw.of_sched ze (by rfl) (by rfl) yf5 (by rfl) ?_
 refine ⟨by omega, ?_⟩
 refine ⟨by omega, ?_⟩
 refine in64 (by omega) ?_
 refine ⟨⟨(by repeat (first | exact trivial | refine ⟨rfl, ?_⟩ | refine ⟨optR (optR (optR (za _ (zb _ _ _) rfl))), ?_⟩)), ?_⟩, trivial⟩
 refine ⟨⟨trivial, ?_⟩, trivial⟩
 rw [hk] at hdone hend
 generalize hx : (goal : Int) % g.W = x at *
 generalize hy : (goal : Int) / g.W = y at *
 refine AWp.loop (σ := Nat × AV) ⟨fun s => [(5, .av (int (n : Nat))), (6, .bx 6 0), (13, .av (lst 1 je (blL g.T.length f))), (14, .av s.2), (15, .av (int k)), (16, .av (int x)), (17, .av (int y)), (18, .av (int (s.1 : Nat)))], fun _ => [(6, gndC g)],
  fun s st' => (s.1 : Int) ≤ g.W + g.H + 1 ∧ RowsQ 1 intC st' s.2 (natI ((yq g f x y k s.1).take n)), fun s => 400 - s.1⟩ ze ?_ ?_
 ·refine ⟨(0, _), trivial, ⟨by dsimp only; omega, ?_⟩, ⟨lr_ _, lr_ _, lr_ _, lr_ _, ?_, ?_, ?_, lr_ _, trivial⟩, ⟨rfl, trivial⟩⟩
  ·dsimp only
   show RowsQ 1 intC _ _ (natI (([] : List Nat).take n))
   rw [List.take_nil]
   exact zj2 _
  ·rw [← hk]; exact lr_ _
  ·rw [← hq]; exact lr_ _
  ·rw [← hq2]; exact lr_ _
 rintro ⟨d, v⟩ st' ⟨hd, hap⟩
 dsimp only at hd hap ⊢
 obtain ⟨oa, cap, e, _⟩ := hap.form
 subst e
 have hlenT : (natI ((yq g f x y k d).take n)).length = ((yq g f x y k d).take n).length := qq _
 refine in64 (by omega) ?_
 refine bcd (fun h1 => ?_) (fun h1 => ?_)
 rotate_left
 ·have e : (g.W + g.H + 1).toNat = d := by omega
  rw [e] at hend
  exact ret (by rw [hend]; exact hap)
 refine bcd (fun h2 => ?_) (fun h2 => ?_)
 rotate_left
 ·have e := hdone d (.inl (by rw [hlenT, List.length_take] at h2; omega))
  exact ret (by rw [← e]; exact hap)
 have hstep : yq g f x y k (d + 1) = yq g f x y k d ++ (List.range g.T.length).filter (fun t => jv g x y k d t && f t) := by
  rw [← zrq]; rfl
 generalize hA : yq g f x y k d = A at *
 refine AWp.loop (σ := Nat × AV) ⟨fun s => [(5, .av (int (n : Nat))), (6, .bx 6 0), (13, .av (lst 1 je (blL g.T.length f))), (14, .av s.2), (15, .av (int k)), (16, .av (int x)), (17, .av (int y)), (18, .av (int (d : Nat))), (19, .av (int (s.1 : Nat)))], fun _ => [(6, gndC g)],
  fun s st' => s.1 ≤ g.T.length ∧ RowsQ 1 intC st' s.2 (natI ((A ++ (List.range s.1).filter (fun t => jv g x y k d t && f t)).take n)), fun s => g.T.length - s.1⟩ ze ?_ ?_
 ·refine ⟨(0, _), trivial, ⟨Nat.zero_le _, ?_⟩, ⟨lr_ _, lr_ _, lr_ _, lr_ _, lr_ _, lr_ _, lr_ _, lr_ _, lr_ _, trivial⟩, ⟨rfl, trivial⟩⟩
  dsimp only
  rw [List.range_zero, List.filter_nil, List.append_nil]
  exact hap
 rintro ⟨i, v2⟩ st2 ⟨hi, hap2⟩
 dsimp only at hi hap2 ⊢
 obtain ⟨oa2, cap2, e2, _⟩ := hap2.form
 subst e2
 have hlenT2 : (natI ((A ++ (List.range i).filter (fun t => jv g x y k d t && f t)).take n)).length = ((A ++ (List.range i).filter (fun t => jv g x y k d t && f t)).take n).length := qq _
 have hTl : ((A ++ (List.range i).filter (fun t => jv g x y k d t && f t)).take n).length ≤ 1000 := by rw [List.length_take]; omega
 have done : (A ++ (List.range i).filter (fun t => jv g x y k d t && f t)).take n = (yq g f x y k (d + 1)).take n → RowsQ 1 intC st2 (.s (.slice oa2 (natI ((A ++ (List.range i).filter (fun t => jv g x y k d t && f t)).take n)).length cap2)) (natI ((yq g f x y k (d + 1)).take n)) := fun e => by
  rw [← e]; exact hap2
 have hdec0 : 400 - (d + 1) < 400 - d := by omega
 refine bcd (fun h3 => ?_) (fun h3 => ?_)
 rotate_left
 ·rw [zf, yz] at h3
  have hin : i = g.T.length := by omega
  refine in64 (by omega) ?_
  exact ⟨(d + 1, _), hdec0, ⟨by dsimp only; omega, done (by rw [hstep, hin])⟩, ⟨lr_ _, lr_ _, lr_ _, lr_ _, lr_ _, lr_ _, lr_ _, lr_ _, trivial⟩, ⟨rfl, trivial⟩⟩
 rw [zf, yz] at h3
 have hlt : i < g.T.length := by omega
 refine bcd (fun h4 => ?_) (fun h4 => ?_)
 rotate_left
 ·refine in64 (by omega) ?_
  refine ⟨(d + 1, _), hdec0, ⟨by dsimp only; omega, done ?_⟩, ⟨lr_ _, lr_ _, lr_ _, lr_ _, lr_ _, lr_ _, lr_ _, lr_ _, trivial⟩, ⟨rfl, trivial⟩⟩
  obtain ⟨m, hm2⟩ := zfy (fun t => jv g x y k d t && f t) i (g.T.length - i)
  rw [show i + (g.T.length - i) = g.T.length by omega] at hm2
  rw [hlenT2, List.length_take] at h4
  rw [hstep, hm2, ← List.append_assoc]
  exact (List.take_append_of_le_length (by omega)).symm
 rw [hlenT2] at h4
 have htb2 := vp hg (t := i) (by omega)
 have hp := trem (t := i) hg.1.1
 have hp2 := tquo (t := i) hg.1.1
 have hrb : jv g x y k d i = decide (absM ((i : Int) % g.W - x) ((i : Int) / g.W - y) = d ∧ ((i : Int) % g.W - x).tmod k = 0 ∧ ((i : Int) / g.W - y).tmod k = 0) := rfl
 rw [← hp, ← hp2] at hrb htb2
 have hrs := List.range_succ (n := i)
 have hsucc : (List.range (i + 1)).filter (fun t => jv g x y k d t && f t) = (List.range i).filter (fun t => jv g x y k d t && f t) ++ [i].filter (fun t => jv g x y k d t && f t) := by rw [hrs, List.filter_append]
 have hdec : g.T.length - (i + 1) < g.T.length - i := by omega
 have no : (jv g x y k d i && f i) = false → RowsQ 1 intC st2 (.s (.slice oa2 (natI ((A ++ (List.range i).filter (fun t => jv g x y k d t && f t)).take n)).length cap2)) (natI ((A ++ (List.range (i + 1)).filter (fun t => jv g x y k d t && f t)).take n)) := fun hn => by
  rw [hsucc, show [i].filter (fun t => jv g x y k d t && f t) = [] by simp [hn], List.append_nil]
  exact hap2
 have hlt2 : i < (blL g.T.length f).length := by rw [yz]; exact hlt
 refine ADraw.of_sched ze (by rfl) (by rfl) zzo (by rfl) ?_
 refine ⟨by omega, ?_⟩
 refine in64 (by omega) ?_
 refine ⟨by omega, ?_⟩
 refine in64 (by omega) ?_
 refine in64 (by omega) ?_
 refine ⟨⟨(by repeat (first | exact trivial | refine ⟨rfl, ?_⟩ | refine ⟨optR (optR (optR (za _ (zb _ _ _) rfl))), ?_⟩)), ?_⟩, trivial⟩
 refine ⟨⟨trivial, ?_⟩, trivial⟩
 have hbd : (-128 ≤ ((i : Nat) : Int).tmod g.W - x ∧ ((i : Nat) : Int).tmod g.W - x ≤ 128) ∧ (-128 ≤ ((i : Nat) : Int).tdiv g.W - y ∧ ((i : Nat) : Int).tdiv g.W - y ≤ 128) := by omega
 generalize ((i : Nat) : Int).tmod g.W - x = dx at *
 generalize ((i : Nat) : Int).tdiv g.W - y = dy at *
 refine in64 (by omega) ?_
 refine in64 (by omega) ?_
 refine bceq (fun c1 => ?_) (fun c1 => ?_)
 rotate_left
 ·have c1 : ¬ absM dx dy = d := fun e => c1 ((zol dx dy).trans e)
  refine in64 (by omega) ?_
  exact ⟨(i + 1, _), hdec, ⟨by dsimp only; omega, no (by rw [hrb, decide_eq_false (fun hh => c1 hh.1), Bool.false_and])⟩, ⟨lr_ _, lr_ _, lr_ _, lr_ _, lr_ _, lr_ _, lr_ _, lr_ _, lr_ _, trivial⟩, ⟨rfl, trivial⟩⟩
 have c1 : absM dx dy = d := (zol dx dy).symm.trans c1
 refine ⟨by omega, ?_⟩
 refine bceq (fun c2 => ?_) (fun c2 => ?_)
 rotate_left
 ·refine in64 (by omega) ?_
  exact ⟨(i + 1, _), hdec, ⟨by dsimp only; omega, no (by rw [hrb, decide_eq_false (fun hh => c2 hh.2.1), Bool.false_and])⟩, ⟨lr_ _, lr_ _, lr_ _, lr_ _, lr_ _, lr_ _, lr_ _, lr_ _, lr_ _, trivial⟩, ⟨rfl, trivial⟩⟩
 refine ⟨by omega, ?_⟩
 refine bceq (fun c3 => ?_) (fun c3 => ?_)
 rotate_left
 ·refine in64 (by omega) ?_
  exact ⟨(i + 1, _), hdec, ⟨by dsimp only; omega, no (by rw [hrb, decide_eq_false (fun hh => c3 hh.2.2), Bool.false_and])⟩, ⟨lr_ _, lr_ _, lr_ _, lr_ _, lr_ _, lr_ _, lr_ _, lr_ _, lr_ _, trivial⟩, ⟨rfl, trivial⟩⟩
 refine ⟨i, rfl, za _ (zi hlt2) ?_⟩
 rw [zdf hlt]
 refine zd (fun c4 => ?_) (fun c4 => ?_)
 rotate_left
 ·refine in64 (by omega) ?_
  exact ⟨(i + 1, _), hdec, ⟨by dsimp only; omega, no (by rw [c4, Bool.and_false])⟩, ⟨lr_ _, lr_ _, lr_ _, lr_ _, lr_ _, lr_ _, lr_ _, lr_ _, lr_ _, trivial⟩, ⟨rfl, trivial⟩⟩
 have hyes : (jv g x y k d i && f i) = true := by rw [hrb, decide_eq_true ⟨c1, c2, c3⟩, c4]; rfl
 have hsn := zjl (A ++ (List.range i).filter (fun t => jv g x y k d t && f t)) i n
 rw [if_pos ((zcy _ _).1 (by omega)), List.append_assoc, show [i] = [i].filter (fun t => jv g x y k d t && f t) by simp [hyes], ← hsucc, show [i].filter (fun t => jv g x y k d t && f t) = [i] by simp [hyes]] at hsn
 refine ⟨by decide, ?_⟩
 refine y7 (ie := ti3) rfl (fun _ => rfl) (by decide) hap2 (i : Int) rfl (by rw [hlenT2]; omega) (fun b cap3 L3 q1 q2 q3 q4 => ?_)
 have h9 : RowsQ 1 intC (st2.setObj b _) _ _ := .inl (.inr ⟨b, cap3, L3, rfl, zb _ _ _, q2, q3, q4⟩)
 refine in64 (by omega) ?_
 refine ⟨(i + 1, _), hdec, ⟨by dsimp only; omega, ?_⟩, ⟨lr_ _, lr_ _, lr_ _, lr_ _, lr_ _, lr_ _, lr_ _, lr_ _, lr_ _, trivial⟩, ⟨rfl, trivial⟩⟩
 dsimp only
 rw [hsn, zid, show natI [i] = [(i : Int)] from rfl]
 exact h9
theorem zmg (g : Gnd) (hg : gndP g) (l : List Bld) (hl : l.length ≤ 1000000000000) (hb : ∀ b ∈ l, bldP b ∧ onP g b) (c : Int) (hc : c = 0 ∨ c = 1 ∨ c = 2) (size : Int) (hs : 0 ≤ size ∧ size ≤ 3) (goal : Nat) (hgl : goal < g.T.length) (n : Nat) (hn : n ≤ 1000) (st : Store) (R : AV → Store → Prop) (h : R (ints (natI (wj g (jr g l c size) size (goal : Int) n))) st) :
  ACalls Tryz.prog 85 [.agg (gndC g), lst 6 bldC l, int c, int size, int goal, int n] st R :=
 zop (zph g hg l hl hb c hc size hs goal hgl n hn) st R h
end Go.Proofs
namespace Go.Proofs
open Go Go.V
theorem ybz (g : Gnd) (hg : gndP g) (t : Nat) (ht : (t : Int) < g.W * g.H) (st : Store) (R : AV → Store → Prop) (h : R (.agg (vecC (tx g t + 32768, ty g t + 32768))) st) : ACalls Tryz.prog 174 [.agg (gndC g), int (t : Nat)] st R := by
 have htb := vp hg ht
 have hq := trem (t := t) hg.1.1
 have hq2 := tquo (t := t) hg.1.1
 have hg1 := hg.1
 have hg2 := hg.2.1
 unfold tx ty at h
 refine ACalls.of_body (c := cfg 18) ze Tryz.func174 (by rfl) (by rfl) (by rfl) (by rfl) ?_
 refine ADraw.of_sched ze (by rfl) (by rfl) yaf (by rfl) ?_
 refine ⟨by omega, ?_⟩
 refine in64 (by rw [hq]; omega) ?_
 refine in64 (by rw [hq]; omega) ?_
 refine ⟨by omega, ?_⟩
 refine in64 (by rw [hq2]; omega) ?_
 refine in64 (by rw [hq2]; omega) ?_
 refine in64 (by rw [hq2]; omega) ?_
 refine ⟨⟨(by repeat (first | exact trivial | refine ⟨rfl, ?_⟩ | refine ⟨optR (optR (optR (za _ (zb _ _ _) rfl))), ?_⟩)), ?_⟩, trivial⟩
 rw [← hq, ← hq2] at h
 exact ret h
theorem zkd (g : Gnd) (hg : gndP g) (a b : Bld) (ha : bldP a ∧ onP g a) (hb : bldP b ∧ onP g b) (st : Store) (R : AV → Store → Prop) (h : R (V.bool (decide (k8 a b))) st) : ACalls Tryz.prog 205 [.agg (bldC a), .agg (bldC b)] st R := by
 unfold bldP onP at ha hb
 unfold gndP at hg
 have hh : ∀ z : Bool, (z = true ↔ k8 a b) → R (V.bool z) st := fun z hz => by
  have : z = decide (k8 a b) := by rw [Bool.eq_iff_iff, decide_eq_true_iff]; exact hz
  rw [this]; exact h
 unfold k8 at hh
 refine ACalls.of_body (c := cfg 43) ze Tryz.func205 (by rfl) (by rfl) (by rfl) (by rfl) ?_
 refine in64 (by omega) ?_
 refine bcd (fun c1 => ?_) (fun c1 => ret (hh _ (by simp; omega)))
 refine in64 (by omega) ?_
 refine bcd (fun c2 => ?_) (fun c2 => ret (hh _ (by simp; omega)))
 refine in64 (by omega) ?_
 refine bcd (fun c3 => ?_) (fun c3 => ret (hh _ (by simp; omega)))
 refine in64 (by omega) ?_
 exact ret (hh _ (by rw [decide_eq_true_iff]; omega))
theorem zp4 (g : Gnd) (hg : gndP g) (b x : Bld) (hb : bldP b ∧ onP g b) (hx : bldP x ∧ onP g x) (p : Nat) (st : Store) (hp : st.obj p = some (.cells (bldC b))) (R : AV → Store → Prop) (h : R (V.bool (decide (k8 x b))) st) : ACalls Tryz.prog 204 ([.agg (bldC x)] ++ [ptr p]) st R := by
 refine ACalls.of_body (c := cfg 7) ze Tryz.func204 (by rfl) (by rfl) (by rfl) (by rfl) ?_
 refine za _ hp ?_
 exact zkd g hg x b hx hb _ _ (ret h)
theorem znb (b : Bld) (id : Int) (st : Store) (R : AV → Store → Prop) (h : R (int (cmpZ b.id id)) st) : ACalls Tryz.prog 223 [.agg (bldC b), int id] st R := by
 refine ACalls.of_body (c := cfg 9) ze Tryz.func223 (by rfl) (by rfl) (by rfl) (by rfl) ?_
 exact zd2 b.id id _ _ (ret h)
/-- An ID behind all others. -/
theorem zul (l : List Bld) (hl : l.length ≤ 1000000000000) (id : Int) (hid : ∀ b ∈ l, b.id < id) (st : Store) (R : AV → Store → Prop) (h : R (.tup [int (l.length : Nat), V.bool false]) st) :
  ACalls Tryz.prog 222 [lst 6 bldC l, int id, .clos 223 []] st R := by
 refine ACalls.of_body (c := cfg 49) ze Tryz.func222 (by rfl) (by rfl) (by rfl) (by rfl) ?_
 refine AWp.loop (σ := Nat) ⟨fun s => [(0, .av (lst 6 bldC l)), (1, .av (int id)), (2, .av (.clos 223 [])), (8, .av (int (l.length : Nat))), (9, .av (int (s : Nat))), (10, .av (int (l.length : Nat)))], fun _ => [],
  fun s st' => st' = st ∧ s ≤ l.length, fun s => l.length - s⟩ ze ?_ ?_
 ·refine ⟨0, trivial, ⟨rfl, Nat.zero_le _⟩, ⟨lr_ _, lr_ _, lr_ _, ?_, lr_ _, ?_, trivial⟩, trivial⟩
  ·rw [← zf (f := bldC) l]; exact lr_ _
  ·rw [← zf (f := bldC) l]; exact lr_ _
 rintro i st' ⟨rfl, hi⟩
 dsimp only at hi ⊢
 refine bcd (fun h1 => ?_) (fun h1 => ?_)
 rotate_left
 ·have e : i = l.length := by omega
  subst e
  refine bcd (fun h2 => ?_) (fun h2 => ?_)
  ·omega
  ·exact ret h
 refine in64 (by omega) ?_
 refine ⟨by decide, ?_⟩
 have hmid : (IntKind.u64.wrap ((i : Int) + (l.length : Int))).fdiv (2 ^ (min (1 : Int).toNat IntKind.u64.bits)) = (((i + l.length) / 2 : Nat) : Int) := by
  have e1 : IntKind.u64.wrap ((i : Int) + (l.length : Int)) = ((i + l.length : Nat) : Int) := by
   simp [IntKind.wrap, IntKind.bits, IntKind.signed]; omega
  have e2 : (2 : Int) ^ (min (1 : Int).toNat IntKind.u64.bits) = 2 := rfl
  have e3 : (((i + l.length : Nat) : Int)).fdiv 2 = (((i + l.length) / 2 : Nat) : Int) := by
   rw [Int.fdiv_eq_ediv_of_nonneg _ (by decide)]; rfl
  rw [e1, e2, e3]
 have hkl : (i + l.length) / 2 < l.length := by omega
 refine ⟨by rw [hmid]; exact ⟨by omega, by omega⟩, ?_⟩
 refine ⟨(i + l.length) / 2, hmid, za _ (zi hkl) ?_⟩
 refine znb l[(i + l.length) / 2] id _ _ ?_
 have hc : cmpZ l[(i + l.length) / 2].id id < 0 := by
  have := hid _ (List.getElem_mem hkl)
  unfold cmpZ
  rw [if_pos (by omega)]
  decide
 refine bcd (fun h2 => ?_) (fun h2 => absurd hc h2)
 refine in64 (by rw [hmid]; omega) ?_
 refine ⟨(i + l.length) / 2 + 1, ?_, ⟨rfl, by omega⟩, ⟨lr_ _, lr_ _, lr_ _, lr_ _, ?_, lr_ _, trivial⟩, trivial⟩
 ·show l.length - ((i + l.length) / 2 + 1) < l.length - i
  omega
 ·exact (congrArg (fun n : Int => LV.le (vint .i64 (n + 1)) (.av (int (((i + l.length) / 2 + 1 : Nat) : Int)))) hmid).mpr (lr_ _)
theorem zq6 (l : List Bld) (hl : l.length ≤ 1000000000000) (id : Int) (hid : ∀ b ∈ l, b.id < id) (st : Store) (R : AV → Store → Prop) (h : R (.tup [int (l.length : Nat), V.bool false]) st) : ACalls Tryz.prog 203 [lst 6 bldC l, int id] st R := by
 refine ACalls.of_body (c := cfg 11) ze Tryz.func203 (by rfl) (by rfl) (by rfl) (by rfl) ?_
 exact zul l hl id hid _ _ (ret h)
/-- A building behind all others. -/
theorem zkt {N : Store} {v : AV} {l : List Bld} (hv : RowsQ 6 bldC N v l) (hl : l.length ≤ 1000000) (x : Bld) (R : AV → Store → Prop) (h : ∀ v' N', RowsQ 6 bldC N' v' (l ++ [x]) → R v' N') : ACalls Tryz.prog 206 [v, int (l.length : Nat), lst 6 bldC [x]] N R := by
 have hv2 := hv
 rcases hv with (⟨rfl, rfl⟩ | ⟨b, cap, L, rfl, ho, hc1, hc2, hc3⟩) | ⟨a, ha, rfl, rfl⟩
 ·refine ACalls.of_body (c := cfg 95) ze Tryz.func206 (by rfl) (by rfl) (by rfl) (by rfl) ?_
  refine ⟨rfl, rfl, ?_⟩
  refine y7 (ie := ti59) rfl zv (by decide) hv2 x rfl (by decide) (fun b cap2 L2 q1 q2 q3 q4 => ret (h _ _ (.inl (.inr ⟨b, cap2, L2, rfl, zb _ _ _, q2, q3, q4⟩))))
 ·refine ACalls.of_body (c := cfg 95) ze Tryz.func206 (by rfl) (by rfl) (by rfl) (by rfl) ?_
  by_cases hc : l.length < cap
  ·refine ⟨l.length, l.length, rfl, rfl, Nat.le_refl _, hc1, .inl ⟨hc, ?_⟩⟩
   refine bceq (fun _ => ?_) (fun h => absurd rfl h)
   refine y7 (ie := ti59) rfl zv (by decide) hv2 x rfl (by omega) (fun b cap2 L2 q1 q2 q3 q4 => ret (h _ _ (.inl (.inr ⟨b, cap2, L2, rfl, zb _ _ _, q2, q3, q4⟩))))
  ·refine ⟨l.length, l.length, rfl, rfl, Nat.le_refl _, hc1, .inr ⟨by omega, ?_⟩⟩
   refine bceq (fun _ => ?_) (fun h => absurd rfl h)
   refine y7 (ie := ti59) rfl zv (by decide) hv2 x rfl (by omega) (fun b cap2 L2 q1 q2 q3 q4 => ret (h _ _ (.inl (.inr ⟨b, cap2, L2, rfl, zb _ _ _, q2, q3, q4⟩))))
 ·cases a with
  | none =>
   refine ACalls.of_body (c := cfg 95) ze Tryz.func206 (by rfl) (by rfl) (by rfl) (by rfl) ?_
   refine ⟨rfl, rfl, ?_⟩
   refine y7 (ie := ti59) rfl zv (by decide) hv2 x rfl (by decide) (fun b cap2 L2 q1 q2 q3 q4 => ret (h _ _ (.inl (.inr ⟨b, cap2, L2, rfl, zb _ _ _, q2, q3, q4⟩))))
  | some y =>
   obtain ⟨yb, yo, ys⟩ := y
   have := ha _ rfl
   dsimp only at this
   subst this
   refine ACalls.of_body (c := cfg 95) ze Tryz.func206 (by rfl) (by rfl) (by rfl) (by rfl) ?_
   refine ⟨0, 0, rfl, rfl, Nat.le_refl _, Nat.le_refl _, .inr ⟨rfl, ?_⟩⟩
   refine y7 (ie := ti59) rfl zv (by decide) hv2 x rfl (by decide) (fun b cap2 L2 q1 q2 q3 q4 => ret (h _ _ (.inl (.inr ⟨b, cap2, L2, rfl, zb _ _ _, q2, q3, q4⟩))))
theorem zbp {N : Store} {v : AV} {l : List Bld} (hv : RowsQ 6 bldC N v l) {Oth M : Nat → Nat → Prop} {w : World} (sto : StoreOK N Oth M w) {x : Value} (hx : VRel w (fun b o => M b o ∨ Oth b o) v x) : VRel w (fun b o => (M b o ∨ Oth b o) ∧ N.obj b = none) (lst 6 bldC l) x := hv.borrow zv zi4 sto hx
theorem yco (g : Gnd) (hg : gndP g) (l : List Bld) (hl : l.length ≤ 256) (hlb : ∀ b ∈ l, bldP b ∧ onP g b) (b : Bld) (hb : bldP b) (hid : ∀ x ∈ l, x.id < b.id) :
  ACalls Tryz.prog 166 [.agg (gndC g), lst 6 bldC l, .agg (bldC b)] Store.empty fun r S => (putE g l b ≠ 0 ∧ r = .tup [.s (.slice none 0 0), int (putE g l b)]) ∨ (putE g l b = 0 ∧ ∃ v, RowsQ 6 bldC S v (l ++ [b]) ∧ r = .tup [v, int 0]) := by
 refine ACalls.of_body (c := cfg 48 [5] []) ze Tryz.func166 (by rfl) (by rfl) (by rfl) (by rfl) ?_
 intro p hp
 have ho : (Store.empty.setObj p (.cells (bldC b))).obj p = some (.cells (bldC b)) := zb _ _ _
 have bad : ∀ n : Int, n ≠ 0 → putE g l b = n → ∃ r st', AV.le (.tup [.s (.slice none 0 0), int n]) r ∧ (Store.empty.setObj p (.cells (bldC b))).Has st' ∧ ((putE g l b ≠ 0 ∧ r = .tup [.s (.slice none 0 0), int (putE g l b)]) ∨ (putE g l b = 0 ∧ ∃ v, RowsQ 6 bldC st' v (l ++ [b]) ∧ r = .tup [v, int 0])) := fun n hn e =>
  ret (.inl ⟨by rw [e]; exact hn, by rw [e]⟩)
 refine za _ ho ?_
 refine zq6 l (by omega) b.id hid _ _ ?_
 refine za _ ho ?_
 refine zhp b _ _ (fun z hz => ?_)
 refine yc ?_
 refine zd (fun c1 => ?_) (fun c1 => by have := hz.2 hb; rw [this] at c1; cases c1)
 refine za _ ho ?_
 refine zoz g b hg hb _ _ (fun z hz => ?_)
 refine yc ?_
 refine zd (fun c2 => ?_) (fun c2 => ?_)
 rotate_left
 ·have hno : ¬ onP g b := fun hh => by have := hz.2 hh; rw [this] at c2; cases c2
  exact bad 3 (by decide) (by unfold putE; rw [if_pos hno])
 have hon := hz.1 c2
 refine wq l (by omega) _ _ (fun x => decide (k8 x b)) _ (fun x hx R h => zp4 g hg b x ⟨hb, hon⟩ (hlb x hx) p _ ho R h) _ ?_
 refine zd (fun c3 => ?_) (fun c3 => ?_)
 ·have hex : ∃ x ∈ l, k8 x b := by
   obtain ⟨x, hx, h2⟩ := List.any_eq_true.1 c3
   exact ⟨x, hx, of_decide_eq_true h2⟩
  exact bad 12 (by decide) (by unfold putE; rw [if_neg (fun h => h hon), if_pos hex])
 have hnex : ¬ ∃ x ∈ l, k8 x b := fun ⟨x, hx, h2⟩ => by
  have : l.any (fun x => decide (k8 x b)) = true := List.any_eq_true.2 ⟨x, hx, decide_eq_true h2⟩
  rw [this] at c3; cases c3
 refine za _ ho ?_
 refine zhq g hg b ⟨hb, hon⟩ _ _ (fun z hz => ?_)
 refine yc ?_
 refine zd (fun c4 => ?_) (fun c4 => ?_)
 rotate_left
 ·have hno : ¬ zgi g b := fun hh => by have := hz.2 hh; rw [this] at c4; cases c4
  exact bad 5 (by decide) (by unfold putE; rw [if_neg (fun h => h hon), if_neg hnex, if_pos hno])
 have hfi := hz.1 c4
 have hlen : ((rws bldC l).length : Int) = (l.length : Int) := by rw [zf]
 refine bceq (fun c5 => ?_) (fun c5 => ?_)
 ·exact bad 4 (by decide) (by unfold putE; rw [if_neg (fun h => h hon), if_neg hnex, if_neg (fun h => h hfi), if_pos (by omega)])
 have h0 : putE g l b = 0 := by unfold putE; rw [if_neg (fun h => h hon), if_neg hnex, if_neg (fun h => h hfi), if_neg (by omega)]
 refine ADraw.of_sched ze (by rfl) (by rfl) zr1 (by rfl) ?_
 refine za (o := (Store.empty.setObj p (.cells (bldC b))).obj p) _ ho ?_
 refine ⟨by decide, ?_⟩
 refine ⟨zbu l (by omega) _ _ (fun v N hv hd => ⟨?_, ?_⟩), trivial⟩
 ·repeat (first | exact trivial | refine ⟨rfl, ?_⟩ | refine ⟨za (o := (N.un (Store.empty.setObj p (.cells (bldC b)))).obj p) _ (un_r ho) rfl, ?_⟩)
 refine ⟨zkt (hv.unL hd) (by omega) b _ (fun v' N' hv' => ⟨trivial, ?_⟩), trivial⟩
 refine ⟨⟨trivial, ?_⟩, trivial⟩
 refine ⟨⟨trivial, ?_⟩, trivial⟩
 exact ret (.inr ⟨h0, _, hv', rfl⟩)
theorem zum (g : Gnd) (hg : gndP g) (l : List Bld) (hl : l.length ≤ 256) (hlb : ∀ b ∈ l, bldP b ∧ onP g b) (b : Bld) (hb : bldP b) (hid : ∀ x ∈ l, x.id < b.id) (st : Store) (R : AV → Store → Prop)
  (h : putE g l b ≠ 0 → R (.tup [.s (.slice none 0 0), int (putE g l b)]) st) (h0 : putE g l b = 0 → R (.tup [lst 6 bldC (l ++ [b]), int 0]) st) : ACalls Tryz.prog 166 [.agg (gndC g), lst 6 bldC l, .agg (bldC b)] st R := by
 have h1 := (yco g hg l hl hlb b hb hid).frozen (R := fun r => (putE g l b ≠ 0 ∧ r = .tup [.s (.slice none 0 0), int (putE g l b)]) ∨ (putE g l b = 0 ∧ r = .tup [lst 6 bldC (l ++ [b]), int 0])) (by
  rintro r S (⟨h1, rfl⟩ | ⟨h1, v, hv, rfl⟩)
  ·exact ⟨_, .inl ⟨h1, rfl⟩, fun Oth M w' v' sto hx => zo hx⟩
  ·refine ⟨_, .inr ⟨h1, rfl⟩, fun Oth M w' v' sto hx => ?_⟩
   cases hx with
   | tup _ c2 hl hc2 =>
    refine .tup _ c2 hl fun i x y hx hy => ?_
    match i with
    | 0 => simp only [List.getElem?_cons_zero, Option.some.injEq] at hx; subst hx; exact zbp hv sto (hc2 0 _ y rfl hy)
    | 1 => simp only [List.getElem?_cons_succ, List.getElem?_cons_zero, Option.some.injEq] at hx; subst hx; exact zo (hc2 1 _ y rfl hy)
    | i + 2 => simp at hx)
 have h2 : ACalls Tryz.prog 166 [.agg (gndC g), lst 6 bldC l, .agg (bldC b)] Store.empty fun r S => ((putE g l b ≠ 0 ∧ r = .tup [.s (.slice none 0 0), int (putE g l b)]) ∨ (putE g l b = 0 ∧ r = .tup [lst 6 bldC (l ++ [b]), int 0])) ∧ S = Store.empty :=
  h1.post (Store.Le.refl _) fun r st' hr => ⟨r, Store.empty, AV.le_refl r, (hasE st').toLe, hr, rfl⟩
 rw [← ym st]
 exact ACalls.frame (xd st) h2 fun r S ⟨e, e2⟩ hd => by
  subst e2
  rw [ym]
  rcases e with ⟨q, rfl⟩ | ⟨q, rfl⟩
  ·exact h q
  ·exact h0 q
end Go.Proofs
namespace Go.Proofs
open Go Go.V
theorem zkg {w : Wld} (hm : mayP w) : ∀ u ∈ w.U, u.inn = 0 → yl u.pos.1 u.pos.2 := fun u hu h0 => by
 have hg := (mayF hm).hg
 have hcl := hm.2.1 u hu h0
 have h1 := hcl.1.1
 have hr := zac u.kind
 have h2 := hg.1
 have h3 := hg.2.1
 unfold yl
 omega
theorem zfj (g : Gnd) (hg : gndP g) (t : Nat) (ht : (t : Int) < g.W * g.H) (x : Int) (hx : x = (t : Int)) (st : Store) (R : AV → Store → Prop) (h : R (.agg (vecC (tx g t + 32768, ty g t + 32768))) st) : ACalls Tryz.prog 174 [.agg (gndC g), int x] st R := by
 subst hx
 exact ybz g hg t ht st R h
set_option maxHeartbeats 1000000 in
theorem zl0 {F G : Store} {xw s p : Nat} {w : Wld} {v : AV} {L : List Ent} {o0 o1 o2 : AV} {c : Cmd} {fv : AV} (hW : Work F G xw s p w v L o0 o1 o2 c fv) (hm : MayF w) (hn : ∀ u ∈ w.U, u.pos.ok) (hpl : ∀ u ∈ w.U, u.inn = 0 → yl u.pos.1 u.pos.2) (b : Bld) (hb : bldP b ∧ onP w.G b) (R : AV → Store → Prop)
  (h : ∀ z F', (z = true ↔ zcd w b) → StandR F' G s p w v L o0 o1 o2 → R (V.bool z) (F'.un (svS G s w v o0 o1 o2 p))) : ACalls Tryz.prog 167 [ptr xw, .agg (bldC b)] (F.un (svS G s w v o0 o1 o2 p)) R := by
 have hU := hm.hU
 have hx := hW.x (F' := F) (q0 := o0) (q1 := o1) (q2 := o2)
 have hs := hW.s (F' := F) (q0 := o0) (q1 := o1) (q2 := o2)
 obtain ⟨oa, cap, e, hget⟩ := hW.S.hu.form
 subst e
 refine ACalls.of_body (c := cfg 62) ze Tryz.func167 (by rfl) (by rfl) (by rfl) (by rfl) ?_
 refine ADraw.of_sched ze (by rfl) (by rfl) yak (by rfl) ?_
 refine za (o := (F.un (svS G s w _ o0 o1 o2 p)).obj xw) _ hx ?_
 refine za (o := (F.un (svS G s w _ o0 o1 o2 p)).obj s) _ hs ?_
 refine ⟨zat w.G hm.hg b hb _ _ ⟨(by repeat (first | exact trivial | refine ⟨rfl, ?_⟩ | refine ⟨optR (optR (optR (za _ (zb _ _ _) rfl))), ?_⟩)), ?_⟩, trivial⟩
 have hmem := xh hm.hg hb.1 hb.2
 have hts := zcw w.G.W hb.1
 have hmw : zcd w b ↔ ∃ t ∈ jg w.G.W b, ∃ u ∈ w.U, u.inn = 0 ∧ hitP w.G t.toNat u.pos (kRad u.kind) := by
  unfold zcd
  constructor
  ·rintro ⟨t, ⟨h1, h2⟩, u, hu, h3⟩
   exact ⟨(t : Int), (hmem _).2 ⟨t, rfl, h1, h2⟩, u, hu, by rw [Int.toNat_natCast]; exact h3⟩
  ·rintro ⟨t, ht, u, hu, h3⟩
   obtain ⟨n, rfl, h1, h2⟩ := (hmem t).1 ht
   rw [Int.toNat_natCast] at h3
   exact ⟨n, ⟨h1, h2⟩, u, hu, h3⟩
 generalize jg w.G.W b = ts at *
 refine AWp.loop (σ := Nat × Store) ⟨fun x => [(0, .av (ptr xw)), (18, .av (ints ts)), (19, .av (int (ts.length : Nat))), (20, .av (int (x.1 : Nat)))], fun _ => [],
  fun x st' => x.1 ≤ ts.length ∧ st' = x.2.un (svS G s w (.s (.slice oa w.U.length cap)) o0 o1 o2 p) ∧ StandR x.2 G s p w (.s (.slice oa w.U.length cap)) L o0 o1 o2 ∧ ∀ j, (hj : j < ts.length) → j < x.1 → ∀ u ∈ w.U, u.inn = 0 → ¬ hitP w.G ts[j].toNat u.pos (kRad u.kind), fun x => ts.length - x.1⟩ ze ?_ ?_
 ·refine ⟨(0, F), trivial, ⟨Nat.zero_le _, rfl, hW.S, fun j _ hj => by omega⟩, ⟨lr_ _, lr_ _, ?_, lr_ _, trivial⟩, trivial⟩
  rw [← zf (f := intC) ts]; exact lr_ _
 rintro ⟨i, F1⟩ st' ⟨hi, rfl, hS1, hno⟩
 dsimp only at hi hS1 hno ⊢
 refine bcd (fun h1 => ?_) (fun h1 => ?_)
 rotate_left
 ·refine ret (h false F1 ?_ hS1)
  simp only [Bool.false_eq_true, false_iff]
  rw [hmw]
  rintro ⟨t, ht, u, hu, h0, hh⟩
  obtain ⟨j, hj, rfl⟩ := List.getElem_of_mem ht
  exact hno j hj (by omega) u hu h0 hh
 have hlt : i < ts.length := by omega
 obtain ⟨n, hn1, hn2, hn3⟩ := (hmem ts[i]).1 (List.getElem_mem hlt)
 have hx1 := hW.x (F' := F1) (q0 := o0) (q1 := o1) (q2 := o2)
 have hs1 := hW.s (F' := F1) (q0 := o0) (q1 := o1) (q2 := o2)
 refine ⟨i, rfl, za _ (zi hlt) ?_⟩
 refine ADraw.of_sched ze (by rfl) (by rfl) yaj (by rfl) ?_
 refine za (o := (F1.un (svS G s w _ o0 o1 o2 p)).obj xw) _ hx1 ?_
 refine za (o := (F1.un (svS G s w _ o0 o1 o2 p)).obj xw) _ hx1 ?_
 refine za (o := (F1.un (svS G s w _ o0 o1 o2 p)).obj s) _ hs1 ?_
 refine ⟨zfj w.G hm.hg n hn2 ts[i] hn1 _ _ ⟨?_, ?_⟩, trivial⟩
 ·repeat (first | exact trivial | refine ⟨rfl, ?_⟩ | refine ⟨za (o := (F1.un (svS G s w _ o0 o1 o2 p)).obj xw) _ hx1 rfl, ?_⟩ | refine ⟨za (o := (F1.un (svS G s w _ o0 o1 o2 p)).obj s) _ hs1 rfl, ?_⟩)
 have htb := txty hm.hg hn2
 refine ⟨ze0 hS1 hm.hr (by omega) hn hW.hL hW.hF (tx w.G n + 32768, ty w.G n + 32768) ⟨⟨by dsimp only; omega, by dsimp only; omega⟩, ⟨by dsimp only; omega, by dsimp only; omega⟩⟩ 65536 (by decide) _ (fun F2 us hS2 hus hul => ⟨?_, ?_⟩), trivial⟩
 ·repeat (first | exact trivial | refine ⟨rfl, ?_⟩)
 have hx2 := hW.x (F' := F2) (q0 := o0) (q1 := o1) (q2 := o2)
 have hs2 := hW.s (F' := F2) (q0 := o0) (q1 := o1) (q2 := o2)
 refine AWp.loop (σ := Nat) ⟨fun k => [(0, .av (ptr xw)), (6, .av (int ts[i])), (18, .av (ints ts)), (19, .av (int (ts.length : Nat))), (20, .av (int (i : Nat))), (38, .av (lst 10 untC us)), (39, .av (int (us.length : Nat))), (40, .av (int (k : Nat)))], fun _ => [],
  fun k st' => k ≤ us.length ∧ st' = F2.un (svS G s w (.s (.slice oa w.U.length cap)) o0 o1 o2 p) ∧ ∀ j, (hj : j < us.length) → j < k → ¬ hitP w.G n us[j].pos (kRad us[j].kind), fun k => us.length - k⟩ ze ?_ ?_
 ·refine ⟨0, trivial, ⟨Nat.zero_le _, rfl, fun j _ hj => by omega⟩, ⟨lr_ _, lr_ _, lr_ _, lr_ _, lr_ _, lr_ _, ?_, lr_ _, trivial⟩, trivial⟩
  rw [← zf (f := untC) us]; exact lr_ _
 rintro k st' ⟨hk, rfl, hnk⟩
 refine bcd (fun h2 => ?_) (fun h2 => ?_)
 rotate_left
 ·refine in64 (by omega) ?_
  refine ⟨(i + 1, F2), ?_, ⟨by dsimp only; omega, rfl, hS2, fun j hj hji u hu h0 hh => ?_⟩, ⟨lr_ _, lr_ _, lr_ _, lr_ _, trivial⟩, trivial⟩
  ·show ts.length - (i + 1) < ts.length - i
   omega
  ·by_cases e : j = i
   ·subst e
    rw [hn1, Int.toNat_natCast] at hh
    have hnear := yhc hm.hg hn2 (hpl u hu h0) (zac u.kind) hh
    have hmu := (hus u).2 ⟨⟨hu, h0⟩, hnear⟩
    obtain ⟨m, hm2, rfl⟩ := List.getElem_of_mem hmu
    exact hnk m hm2 (by omega) hh
   ·exact hno j hj (by dsimp only at hji; omega) u hu h0 hh
 have hkl : k < us.length := by omega
 have huk := (hus us[k]).1 (List.getElem_mem hkl)
 refine ⟨k, rfl, za _ (zi hkl) ?_⟩
 refine ADraw.of_sched ze (by rfl) (by rfl) yai (by rfl) ?_
 refine za (o := (F2.un (svS G s w _ o0 o1 o2 p)).obj xw) _ hx2 ?_
 refine za (o := (F2.un (svS G s w _ o0 o1 o2 p)).obj s) _ hs2 ?_
 refine ⟨qr us[k].kind _ _ ⟨?_, ?_⟩, trivial⟩
 ·repeat (first | exact trivial | refine ⟨rfl, ?_⟩ | refine ⟨za (o := (F2.un (svS G s w _ o0 o1 o2 p)).obj xw) _ hx2 rfl, ?_⟩ | refine ⟨za (o := (F2.un (svS G s w _ o0 o1 o2 p)).obj s) _ hs2 rfl, ?_⟩)
 have hkr := zac us[k].kind
 refine ⟨zhe w.G hm.hg n hn2 ts[i] hn1 us[k].pos (hpl _ huk.1.1 huk.1.2) (kRad us[k].kind) ⟨hkr.1, by omega⟩ _ _ ⟨trivial, ?_⟩, trivial⟩
 refine bcd (fun h3 => ?_) (fun h3 => ?_)
 ·refine ret (h true F2 ?_ hS2)
  simp only [true_iff]
  exact hmw.2 ⟨ts[i], List.getElem_mem hlt, us[k], huk.1.1, huk.1.2, by rw [hn1, Int.toNat_natCast]; exact h3⟩
 refine in64 (by omega) ?_
 refine ⟨k + 1, ?_, ⟨by omega, rfl, fun j hj hjk => ?_⟩, ⟨lr_ _, lr_ _, lr_ _, lr_ _, lr_ _, lr_ _, lr_ _, lr_ _, trivial⟩, trivial⟩
 ·show us.length - (k + 1) < us.length - k
  omega
 ·by_cases e : j = k
  ·subst e; exact h3
  ·exact hnk j hj (by omega)
end Go.Proofs
namespace Go.Proofs
open Go Go.V
theorem yc9 {w : Wld} (hm : mayP w) {c : Cmd} (hc : cmdP c) (hk : c.K = 4) (hn : ¬ 1099511627776 ≤ w.next) : bldP (bdB w c) ∧ ∀ x ∈ w.B, x.id < (bdB w c).id := by
 have hok := (Cmd.ok4 hk).1 hc.1
 have mf := mayF hm
 have := mf.hn1
 have hP := hc.2.1
 refine ⟨⟨by unfold bdB; dsimp only; omega, hP, hok.2.1, hok.2.2⟩, fun x hx => ?_⟩
 have := (hm.1.1.2.2 x hx).2
 exact this
set_option maxHeartbeats 2000000 in
set_option maxRecDepth 20000 in
theorem zl1 {F G : Store} {xw s p : Nat} {w : Wld} {v : AV} {L : List Ent} {o0 o1 o2 : AV} {c : Cmd} {fv : AV} (hW : Work F G xw s p w v L o0 o1 o2 c fv) (hm : mayP w) (hn : ∀ u ∈ w.U, u.pos.ok) (hc : cmdP c) (hk : c.K = 4) (R : AV → Store → Prop)
  (h : ∀ S', bdE w c ≠ 0 → R (int (bdE w c)) S') (h0 : bdE w c = 0 → ∀ S', Done S' xw s c fv (bdW w c) → R (int 0) S') : ACalls Tryz.prog 121 [ptr xw] (F.un (svS G s w v o0 o1 o2 p)) R := by
 have mf := mayF hm
 have hg := mf.hg
 have hg1 := hg.1
 have hg2 := hg.2.1
 have hn2 := mf.hn2
 have hn1 := mf.hn1
 have hok := (Cmd.ok4 hk).1 hc.1
 have hT := hok.1
 unfold k0 at hT
 have hx := hW.x (F' := F) (q0 := o0) (q1 := o1) (q2 := o2)
 have hs := hW.s (F' := F) (q0 := o0) (q1 := o1) (q2 := o2)
 obtain ⟨oa, cap, e, hget⟩ := hW.S.hu.form
 subst e
 have hq : c.T.tmod w.G.W = c.T % w.G.W := Int.tmod_eq_emod_of_nonneg hT.1
 have hq2 : c.T.tdiv w.G.W = c.T / w.G.W := Int.tdiv_eq_ediv_of_nonneg hT.1
 have hq3 : 0 ≤ c.T / w.G.W ∧ c.T / w.G.W ≤ c.T := ⟨Int.ediv_nonneg hT.1 (by omega), Int.ediv_le_self _ hT.1⟩
 have bad : ∀ n : Int, n ≠ 0 → bdE w c = n → ∀ S, R (int n) S := fun n hn e S => by
  have := h S (by rw [e]; exact hn)
  rw [e] at this
  exact this
 refine ACalls.of_body (c := cfg 116) ze Tryz.func121 (by rfl) (by rfl) (by rfl) (by rfl) ?_
 refine za (o := (F.un (svS G s w _ o0 o1 o2 p)).obj xw) _ hx ?_
 refine za (o := (F.un (svS G s w _ o0 o1 o2 p)).obj s) _ hs ?_
 refine ADraw.of_sched ze (by rfl) (by rfl) yba (by rfl) ?_
 refine za (o := (F.un (svS G s w _ o0 o1 o2 p)).obj xw) _ hx ?_
 refine ⟨zik w.G c.T hg _ _ (fun z hz => ⟨?_, ?_⟩), trivial⟩
 ·repeat (first | exact trivial | refine ⟨rfl, ?_⟩ | refine ⟨za (o := (F.un (svS G s w _ o0 o1 o2 p)).obj xw) _ hx rfl, ?_⟩)
 refine ⟨⟨trivial, ?_⟩, trivial⟩
 refine yc ?_
 refine zd (fun c1 => ?_) (fun c1 => ?_)
 rotate_left
 ·have hno : ¬ (0 ≤ c.T ∧ c.T < w.G.W * w.G.H) := fun hh => by have := hz.2 hh; rw [this] at c1; cases c1
  exact ret (bad 3 (by decide) (by unfold bdE; rw [if_pos hno]) _)
 have ht := hz.1 c1
 refine za (o := (F.un (svS G s w _ o0 o1 o2 p)).obj xw) _ hx ?_
 refine za (o := (F.un (svS G s w _ o0 o1 o2 p)).obj s) _ hs ?_
 refine bceq (fun c2 => ?_) (fun c2 => ?_)
 ·exact ret (bad 4 (by decide) (by unfold bdE; rw [if_neg (fun hh => hh ht), if_pos (by omega)]) _)
 have hnx : ¬ 1099511627776 ≤ w.next := by omega
 obtain ⟨hbp, hid⟩ := yc9 hm hc hk hnx
 refine ADraw.of_sched ze (by rfl) (by rfl) ya9 (by rfl) ?_
 refine za (o := (F.un (svS G s w _ o0 o1 o2 p)).obj xw) _ hx ?_
 refine za (o := (F.un (svS G s w _ o0 o1 o2 p)).obj s) _ hs ?_
 refine za (o := (F.un (svS G s w _ o0 o1 o2 p)).obj xw) _ hx ?_
 refine za (o := (F.un (svS G s w _ o0 o1 o2 p)).obj xw) _ hx ?_
 refine ⟨by omega, ?_⟩
 refine za (o := (F.un (svS G s w _ o0 o1 o2 p)).obj xw) _ hx ?_
 refine ⟨by omega, ?_⟩
 refine in64 (by rw [hq2]; omega) ?_
 refine za (o := (F.un (svS G s w _ o0 o1 o2 p)).obj xw) _ hx ?_
 refine za (o := (F.un (svS G s w _ o0 o1 o2 p)).obj xw) _ hx ?_
 refine ⟨⟨?_, ?_⟩, trivial⟩
 ·repeat (first | exact trivial | refine ⟨rfl, ?_⟩ | refine ⟨za (o := (F.un (svS G s w _ o0 o1 o2 p)).obj xw) _ hx rfl, ?_⟩ | refine ⟨za (o := (F.un (svS G s w _ o0 o1 o2 p)).obj s) _ hs rfl, ?_⟩ | refine ⟨⟨by omega, rfl⟩, ?_⟩ | refine ⟨⟨by omega, in64 (by rw [hq2]; omega) rfl⟩, ?_⟩)
 refine ⟨⟨trivial, ?_⟩, trivial⟩
 refine ADraw.of_sched ze (by rfl) (by rfl) ya8 (by rfl) ?_
 refine za (o := (F.un (svS G s w _ o0 o1 o2 p)).obj xw) _ hx ?_
 refine za (o := (F.un (svS G s w _ o0 o1 o2 p)).obj s) _ hs ?_
 refine ⟨zum w.G hg w.B mf.hB mf.hb (bdB w c) hbp hid _ _ (fun he => ⟨?_, ?_⟩) (fun he => ⟨?_, ?_⟩), trivial⟩
 ·repeat (first | exact trivial | refine ⟨rfl, ?_⟩ | refine ⟨za (o := (F.un (svS G s w _ o0 o1 o2 p)).obj xw) _ hx rfl, ?_⟩ | refine ⟨za (o := (F.un (svS G s w _ o0 o1 o2 p)).obj s) _ hs rfl, ?_⟩)
 ·refine ⟨⟨trivial, ?_⟩, trivial⟩
  refine ⟨⟨trivial, ?_⟩, trivial⟩
  refine bcne (fun _ => ?_) (fun hh => absurd hh he)
  have e1 : bdE w c = putE w.G w.B (bdB w c) := by unfold bdE; rw [if_neg (fun hh => hh ht), if_neg hnx, if_neg he]
  have := h (F.un (svS G s w (.s (.slice oa w.U.length cap)) o0 o1 o2 p)) (by rw [e1]; exact he)
  rw [e1] at this
  exact ret this
 ·repeat (first | exact trivial | refine ⟨rfl, ?_⟩ | refine ⟨za (o := (F.un (svS G s w _ o0 o1 o2 p)).obj xw) _ hx rfl, ?_⟩ | refine ⟨za (o := (F.un (svS G s w _ o0 o1 o2 p)).obj s) _ hs rfl, ?_⟩)
 refine ⟨⟨trivial, ?_⟩, trivial⟩
 refine ⟨⟨trivial, ?_⟩, trivial⟩
 have hon : onP w.G (bdB w c) := Classical.byContradiction fun hh => by
  unfold putE at he
  rw [if_pos hh] at he
  cases he
 have e1 : bdE w c = (by classical exact if zcd w (bdB w c) then 5 else 0) := by
  unfold bdE
  rw [if_neg (fun hh => hh ht), if_neg hnx, if_pos he]
 refine zl0 hW mf hn (zkg hm) (bdB w c) ⟨hbp, hon⟩ _ (fun z F2 hz hS2 => ?_)
 refine zd (fun c3 => ?_) (fun c3 => ?_)
 ·exact ret (bad 5 (by decide) (by rw [e1, if_pos (hz.1 c3)]) _)
 have hnm : ¬ zcd w (bdB w c) := fun hh => by have := hz.2 hh; rw [this] at c3; cases c3
 have hz0 : bdE w c = 0 := by rw [e1, if_neg hnm]
 have hx2 := hW.x (F' := F2) (q0 := o0) (q1 := o1) (q2 := o2)
 have hs2 := hW.s (F' := F2) (q0 := o0) (q1 := o1) (q2 := o2)
 have hr2 := hW.r (F' := F2) (q0 := o0) (q1 := o1) (q2 := o2)
 have hos := hW.os
 have hxs := hW.ne
 generalize F2.un (svS G s w _ o0 o1 o2 p) = S at hx2 hs2 hr2 ⊢
 refine za (o := S.obj xw) _ hx2 ?_
 refine zq (i := ti25) (v := lst 6 bldC (w.B ++ [bdB w c])) (b := s) (o := 6) (l := svC w (.s (.slice oa w.U.length cap)) o0 o1 o2 p) rfl rfl rfl hs2 (show 6 + 1 ≤ 12 by decide) ?_
 have hs3 : (S.setObj s (.cells (zn (svC w (.s (.slice oa w.U.length cap)) o0 o1 o2 p) 6 [lst 6 bldC (w.B ++ [bdB w c])]))).obj s = some (.cells (svC { w with B := w.B ++ [bdB w c] } (.s (.slice oa w.U.length cap)) o0 o1 o2 p)) := zb _ _ _
 have hx3 := (zh (st := S) (x := .cells (zn (svC w (.s (.slice oa w.U.length cap)) o0 o1 o2 p) 6 [lst 6 bldC (w.B ++ [bdB w c])])) hxs).trans hx2
 have hr3 := hr2.set hos (.cells (zn (svC w (.s (.slice oa w.U.length cap)) o0 o1 o2 p) 6 [lst 6 bldC (w.B ++ [bdB w c])]))
 generalize S.setObj s _ = S2 at hs3 hx3 hr3 ⊢
 refine za (o := S2.obj xw) _ hx3 ?_
 refine za (o := S2.obj s) _ hs3 ?_
 refine in64 (by dsimp only; omega) ?_
 refine zq (i := ti3) (v := int (w.next + 1)) (b := s) (o := 2) (l := svC { w with B := w.B ++ [bdB w c] } (.s (.slice oa w.U.length cap)) o0 o1 o2 p) rfl rfl rfl hs3 (show 2 + 1 ≤ 12 by decide) ?_
 exact ret (h0 hz0 _ ⟨_, o0, o1, o2, p, (zh hxs).trans hx3, zb _ _ _, hr3.set hos _⟩)
theorem yi8 : vk 4 bdE bdW := by
 intro F G xw s p w v L o0 o1 o2 c hW hm hn hc hp hk R h h0
 have hx := hW.x (F' := F) (q0 := o0) (q1 := o1) (q2 := o2)
 refine ACalls.of_body (c := cfg 34) ze Tryz.func79 (by rfl) (by rfl) (by rfl) (by rfl) ?_
 refine za (o := (F.un (svS G s w v o0 o1 o2 p)).obj xw) _ hx ?_
 refine bceq (fun c1 => absurd (hk.symm.trans c1) (by decide)) (fun _ => ?_)
 refine bceq (fun c1 => absurd (hk.symm.trans c1) (by decide)) (fun _ => ?_)
 refine bceq (fun c1 => absurd (hk.symm.trans c1) (by decide)) (fun _ => ?_)
 refine bceq (fun _ => ?_) (fun c1 => absurd hk c1)
 refine zl1 hW hm hn hc hk _ (fun S' he => ret (h S' he)) (fun he S' hd => ret (h0 he S' hd))
end Go.Proofs
namespace Go.Proofs
open Go Go.V
theorem ziz (l : List Bld) (hl : l.length ≤ 1000000) (R : AV → Store → Prop) (h : ∀ v N, RowsO 6 bldC N v l → R v N) : ACalls Tryz.prog 31 [lst 6 bldC l] Store.empty R := by
 refine ACalls.of_body (c := cfg 19) ze Tryz.func31 (by rfl) (by rfl) (by rfl) (by rfl) ?_
 refine AWp.loop (σ := Nat × AV × Store) ⟨fun s => [(0, .av (lst 6 bldC l)), (3, .av s.2.1), (4, .av (int s.1))], fun _ => [], fun s st' => s.1 ≤ l.length ∧ st' = s.2.2 ∧ RowsO 6 bldC s.2.2 s.2.1 (l.take s.1), fun s => l.length - s.1⟩ ze ?_ ?_
 ·exact ⟨(0, _, Store.empty), trivial, ⟨Nat.zero_le _, rfl, .inl ⟨rfl, rfl⟩⟩, ⟨lr_ _, lr_ _, lr_ _, trivial⟩, trivial⟩
 ·rintro ⟨i, v, N⟩ st' ⟨hi, rfl, ha⟩
  dsimp only at hi ha ⊢
  refine zd (fun h1 => ?_) (fun h1 => ?_)
  ·have hlt : i < l.length := yw h1
   refine ⟨i, rfl, za _ (zi hlt) ?_⟩
   refine ⟨by decide, ?_⟩
   refine zuu (ie := ti59) rfl (fun _ => rfl) (by decide) ha l[i] rfl (by rw [List.length_take]; omega) (fun b cap L q1 q2 q3 q4 => ?_)
   refine ⟨⟨by omega, by omega⟩, ?_⟩
   refine ⟨(i + 1, _, _), ?_, ⟨hlt, rfl, ?_⟩, ⟨lr_ _, lr_ _, lr_ _, trivial⟩, trivial⟩
   ·show l.length - (i + 1) < l.length - i
    omega
   ·dsimp only
    rw [List.take_succ_eq_append_getElem hlt]
    exact .inr ⟨b, cap, L, rfl, zb _ _ _, q2, q3, q4⟩
  ·have hge : i = l.length := y9 h1 hi
   subst hge
   rw [List.take_length] at ha
   exact ret (h _ _ ha)
theorem zlj (l : List Bld) (hl : l.length ≤ 1000000) (st : Store) (R : AV → Store → Prop) (h : ∀ v N, RowsO 6 bldC N v l → Disj N st → R v (N.un st)) : ACalls Tryz.prog 31 [lst 6 bldC l] st R := by
 rw [← ym st]
 exact ACalls.frame (xd st) (ziz l hl (fun v N => RowsO 6 bldC N v l) fun v N hv => hv) fun v N hv hd => h v N hv hd
/-- A list that a call has made is plain from then on. -/
theorem yii {f : FuncId} {xs : List AV} {q : Prop} {a b : Value} {l2 : List Bld} (h0 : ACalls Tryz.prog f xs Store.empty fun r S => (¬ q ∧ r = .tup [.s (.slice none 0 0), .s a]) ∨ (q ∧ ∃ v, RowsQ 6 bldC S v l2 ∧ r = .tup [v, .s b])) (st : Store) (R : AV → Store → Prop)
  (h : ¬ q → R (.tup [.s (.slice none 0 0), .s a]) st) (hq : q → R (.tup [lst 6 bldC l2, .s b]) st) : ACalls Tryz.prog f xs st R := by
 have h1 := h0.frozen (R := fun r => (¬ q ∧ r = .tup [.s (.slice none 0 0), .s a]) ∨ (q ∧ r = .tup [lst 6 bldC l2, .s b])) (by
  rintro r S (⟨h1, rfl⟩ | ⟨h1, v, hv, rfl⟩)
  ·exact ⟨_, .inl ⟨h1, rfl⟩, fun Oth M w' v' sto hx => zo hx⟩
  ·refine ⟨_, .inr ⟨h1, rfl⟩, fun Oth M w' v' sto hx => ?_⟩
   cases hx with
   | tup _ c2 hl hc2 =>
    refine .tup _ c2 hl fun i x y hx hy => ?_
    match i with
    | 0 => simp only [List.getElem?_cons_zero, Option.some.injEq] at hx; subst hx; exact zbp hv sto (hc2 0 _ y rfl hy)
    | 1 => simp only [List.getElem?_cons_succ, List.getElem?_cons_zero, Option.some.injEq] at hx; subst hx; exact zo (hc2 1 _ y rfl hy)
    | i + 2 => simp at hx)
 have h2 : ACalls Tryz.prog f xs Store.empty fun r S => ((¬ q ∧ r = .tup [.s (.slice none 0 0), .s a]) ∨ (q ∧ r = .tup [lst 6 bldC l2, .s b])) ∧ S = Store.empty :=
  h1.post (Store.Le.refl _) fun r st' hr => ⟨r, Store.empty, AV.le_refl r, (hasE st').toLe, hr, rfl⟩
 rw [← ym st]
 exact ACalls.frame (xd st) h2 fun r S ⟨e, e2⟩ hd => by
  subst e2
  rw [ym]
  rcases e with ⟨q, rfl⟩ | ⟨q, rfl⟩
  ·exact h q
  ·exact hq q
set_option maxHeartbeats 1000000 in
theorem ybp (g : Gnd) (hg : gndP g) (l : List Bld) (hl : l.length ≤ 256) (hlb : ∀ b ∈ l, bldP b ∧ onP g b) (b : Bld) (hb : bldP b) (hid : ∀ x ∈ l, x.id < b.id) :
  ACalls Tryz.prog 87 [.agg (gndC g), lst 6 bldC l, .agg (bldC b)] Store.empty fun r S => (¬ putE g l b = 0 ∧ r = .tup [.s (.slice none 0 0), .s (.int .i64 (putE g l b))]) ∨ (putE g l b = 0 ∧ ∃ v, RowsQ 6 bldC S v (l ++ [b]) ∧ r = .tup [v, .s (.int .i64 0)]) := by
 have bad : ∀ n : Int, n ≠ 0 → putE g l b = n → ∀ st, ∃ r st', AV.le (.tup [.s (.slice none 0 0), int n]) r ∧ Store.Has st st' ∧ ((¬ putE g l b = 0 ∧ r = .tup [.s (.slice none 0 0), .s (.int .i64 (putE g l b))]) ∨ (putE g l b = 0 ∧ ∃ v, RowsQ 6 bldC st' v (l ++ [b]) ∧ r = .tup [v, .s (.int .i64 0)])) := fun n hn e st =>
  ret (.inl ⟨by rw [e]; exact hn, by rw [e]; rfl⟩)
 refine ACalls.of_body (c := cfg 75) ze Tryz.func87 (by rfl) (by rfl) (by rfl) (by rfl) ?_
 refine zgy b _ _ (fun z hz => ?_)
 refine yc ?_
 refine zd (fun c1 => ?_) (fun c1 => by have := hz.2 hb; rw [this] at c1; cases c1)
 refine zoa g b hg hb _ _ (fun z hz => ?_)
 refine yc ?_
 refine zd (fun c2 => ?_) (fun c2 => ?_)
 rotate_left
 ·have hno : ¬ onP g b := fun hh => by have := hz.2 hh; rw [this] at c2; cases c2
  exact bad 3 (by decide) (by unfold putE; rw [if_pos hno]) _
 have hon := hz.1 c2
 refine AWp.loop (σ := Nat) ⟨fun i => [(1, .av (lst 6 bldC l)), (3, .bx 3 0), (5, .bx 5 0), (8, .av (int (i : Nat)))], fun _ => [(3, gndC g), (5, bldC b)],
  fun i st' => i ≤ l.length ∧ st' = Store.empty ∧ ∀ j, (hj : j < l.length) → j < i → ¬ k8 l[j] b, fun i => l.length - i⟩ ze ?_ ?_
 ·exact ⟨0, trivial, ⟨Nat.zero_le _, rfl, fun j _ hj => by omega⟩, ⟨lr_ _, lr_ _, lr_ _, lr_ _, trivial⟩, ⟨rfl, rfl, trivial⟩⟩
 rintro i st' ⟨hi, rfl, hno⟩
 refine zd (fun h1 => ?_) (fun h1 => ?_)
 ·have hlt := yw h1
  have hbi := hlb l[i] (List.getElem_mem hlt)
  have hidi := hid l[i] (List.getElem_mem hlt)
  refine ADraw.of_sched ze (by rfl) (by rfl) yf4 (by rfl) ?_
  refine ⟨i, rfl, za _ (zi hlt) ?_⟩
  refine bceq (fun c3 => absurd c3 (by omega)) (fun c3 => ?_)
  refine ⟨i, rfl, za _ (zi hlt) ?_⟩
  refine ⟨zkk g hg l[i] b hbi ⟨hb, hon⟩ _ _ (fun z hz => ⟨trivial, ?_⟩), trivial⟩
  refine zd (fun c4 => ?_) (fun c4 => ?_)
  ·have hex : ∃ x ∈ l, k8 x b := ⟨l[i], List.getElem_mem hlt, hz.1 c4⟩
   exact bad 12 (by decide) (by unfold putE; rw [if_neg (fun h => h hon), if_pos hex]) _
  refine in64 (by omega) ?_
  refine ⟨i + 1, ?_, ⟨by omega, rfl, fun j hj hji => ?_⟩, ⟨lr_ _, lr_ _, lr_ _, lr_ _, trivial⟩, ⟨rfl, rfl, trivial⟩⟩
  ·show l.length - (i + 1) < l.length - i
   omega
  ·by_cases e : j = i
   ·subst e
    exact fun hh => by have := hz.2 hh; rw [this] at c4; cases c4
   ·exact hno j hj (by omega)
 have hil : i = l.length := y9 h1 hi
 subst hil
 have hnex : ¬ ∃ x ∈ l, k8 x b := fun ⟨x, hx, h2⟩ => by
  obtain ⟨j, hj, rfl⟩ := List.getElem_of_mem hx
  exact hno j hj hj h2
 refine zg4 g hg b ⟨hb, hon⟩ _ _ (fun z hz => ?_)
 refine yc ?_
 refine zd (fun c4 => ?_) (fun c4 => ?_)
 rotate_left
 ·have hno : ¬ zgi g b := fun hh => by have := hz.2 hh; rw [this] at c4; cases c4
  exact bad 5 (by decide) (by unfold putE; rw [if_neg (fun h => h hon), if_neg hnex, if_pos hno]) _
 have hfi := hz.1 c4
 have hlen : ((rws bldC l).length : Int) = (l.length : Int) := by rw [zf]
 refine bcd (fun c5 => ?_) (fun c5 => ?_)
 ·exact bad 4 (by decide) (by unfold putE; rw [if_neg (fun h => h hon), if_neg hnex, if_neg (fun h => h hfi), if_pos (by omega)]) _
 have h0 : putE g l b = 0 := by unfold putE; rw [if_neg (fun h => h hon), if_neg hnex, if_neg (fun h => h hfi), if_neg (by omega)]
 refine AWp.loop (σ := Nat) ⟨fun i => [(1, .av (lst 6 bldC l)), (5, .bx 5 0), (9, .av (int (i : Nat)))], fun _ => [(5, bldC b)],
  fun i st' => i ≤ l.length ∧ st' = Store.empty, fun i => l.length - i⟩ ze ?_ ?_
 ·exact ⟨0, trivial, ⟨Nat.zero_le _, rfl⟩, ⟨lr_ _, lr_ _, lr_ _, trivial⟩, ⟨rfl, trivial⟩⟩
 rintro i st' ⟨hi, rfl⟩
 refine ADraw.of_sched ze (by rfl) (by rfl) zzn (by rfl) ?_
 refine zd (fun h1 => ?_) (fun h1 => ?_)
 ·have hlt := yw h1
  have hidi := hid l[i] (List.getElem_mem hlt)
  refine ⟨i, rfl, za _ (zi hlt) ?_⟩
  refine bcd (fun c6 => ?_) (fun c6 => absurd hidi c6)
  refine in64 (by omega) ?_
  refine ⟨i + 1, ?_, ⟨by omega, rfl⟩, ⟨lr_ _, lr_ _, lr_ _, trivial⟩, ⟨rfl, trivial⟩⟩
  show l.length - (i + 1) < l.length - i
  omega
 have hil : i = l.length := y9 h1 hi
 subst hil
 refine ADraw.of_sched ze (by rfl) (by rfl) zzm (by rfl) ?_
 refine ⟨0, l.length, rfl, rfl, Nat.zero_le _, by rw [zf]; exact Nat.le_refl _, ?_⟩
 refine ⟨by decide, ?_⟩
 refine ⟨ACalls.le (ys := [lst 6 bldC l]) ⟨by rw [List.drop_zero, ← zf (f := bldC) l, List.take_length]; exact ar_ _, trivial⟩ (zlj l (by omega) _ _ (fun v N hv hd => ⟨(by repeat (first | exact trivial | refine ⟨rfl, ?_⟩ | refine ⟨optR (optR (optR (za _ (zb _ _ _) rfl))), ?_⟩)), ?_⟩)), trivial⟩
 have hvQ : RowsQ 6 bldC (N.un Store.empty) v l := hv.q.unL hd
 refine ⟨y7 (ie := ti59) rfl zv (by decide) hvQ b rfl (by omega) (fun b2 cap2 L2 q1 q2 q3 q4 => ⟨trivial, ?_⟩), trivial⟩
 have hv2 : RowsQ 6 bldC ((N.un Store.empty).setObj b2 (.cells ((rws bldC (l ++ [b])).flatten ++ L2))) (.s (.slice (some ⟨b2, 0, none⟩) (l ++ [b]).length cap2)) (l ++ [b]) := .inl (.inr ⟨b2, cap2, L2, rfl, zb _ _ _, q2, q3, q4⟩)
 refine ⟨⟨trivial, ?_⟩, trivial⟩
 refine ⟨l.length, l.length, rfl, by rw [zf]; rfl, Nat.le_refl _, by rw [zf]; exact Nat.le_refl _, ?_⟩
 refine yjd (ie := ti59) rfl zv (by decide) hv2 (by simp) ?_ (by rw [List.length_append, List.length_singleton]; omega) (fun v' st' hv' => ?_)
 ·rw [List.drop_of_length_le (by rw [List.length_take, zf]; omega)]; rfl
 exact ret (.inr ⟨h0, _, hv', rfl⟩)
theorem zp3 (g : Gnd) (hg : gndP g) (l : List Bld) (hl : l.length ≤ 256) (hlb : ∀ b ∈ l, bldP b ∧ onP g b) (b : Bld) (hb : bldP b) (hid : ∀ x ∈ l, x.id < b.id) (st : Store) (R : AV → Store → Prop)
  (h : ¬ putE g l b = 0 → R (.tup [.s (.slice none 0 0), int (putE g l b)]) st) (h0 : putE g l b = 0 → R (.tup [lst 6 bldC (l ++ [b]), int 0]) st) : ACalls Tryz.prog 87 [.agg (gndC g), lst 6 bldC l, .agg (bldC b)] st R :=
 yii (ybp g hg l hl hlb b hb hid) st R h h0
end Go.Proofs
namespace Go.Proofs
open Go Go.V
set_option maxHeartbeats 2000000 in
set_option maxRecDepth 20000 in
theorem zmj {S : Store} {p : Nat} {w : Wld} {v : AV} (hp : S.obj p = some (.cells (wldV w v))) (hv : RowsQ 10 untC S v w.U) (hoff : offB v p) (hm : mayP w) (hn : ∀ u ∈ w.U, u.pos.ok) (c : Cmd) (hc : cmdP c) (hk : c.K = 4) (R : AV → Store → Prop)
  (h : ∀ S', bdE w c ≠ 0 → R (int (bdE w c)) S') (h0 : bdE w c = 0 → ∀ S' v', S'.obj p = some (.cells (wldV (bdW w c) v')) → RowsQ 10 untC S' v' (bdW w c).U → R (int 0) S') : ACalls Tryz.prog 55 [ptr p, .agg (cmdC c)] S R := by
 have mf := mayF hm
 have hg := mf.hg
 have hg1 := hg.1
 have hg2 := hg.2.1
 have hn2 := mf.hn2
 have hn1 := mf.hn1
 have hU := mf.hU
 have hpl := zkg hm
 have hok := (Cmd.ok4 hk).1 hc.1
 have hT := hok.1
 unfold k0 at hT
 have ha := zt hg
 obtain ⟨oa, cap, e, hget⟩ := hv.form
 subst e
 have hq2 : c.T.tdiv w.G.W = c.T / w.G.W := Int.tdiv_eq_ediv_of_nonneg hT.1
 have hq3 : 0 ≤ c.T / w.G.W ∧ c.T / w.G.W ≤ c.T := ⟨Int.ediv_nonneg hT.1 (by omega), Int.ediv_le_self _ hT.1⟩
 have bad : ∀ n : Int, n ≠ 0 → bdE w c = n → ∀ S, R (int n) S := fun n hn e S => by
  have := h S (by rw [e]; exact hn)
  rw [e] at this
  exact this
 refine ACalls.of_body (c := cfg 116) ze Tryz.func55 (by rfl) (by rfl) (by rfl) (by rfl) ?_
 refine za (o := S.obj p) _ hp ?_
 refine vq w.G c.T hg _ _ (fun z hz => ?_)
 refine yc ?_
 refine zd (fun c1 => ?_) (fun c1 => ?_)
 rotate_left
 ·have hno : ¬ (0 ≤ c.T ∧ c.T < w.G.W * w.G.H) := fun hh => by have := hz.2 hh; rw [this] at c1; cases c1
  exact ret (bad 3 (by decide) (by unfold bdE; rw [if_pos hno]) _)
 have ht := hz.1 c1
 refine za (o := S.obj p) _ hp ?_
 refine bcd (fun c2 => ?_) (fun c2 => ?_)
 ·exact ret (bad 4 (by decide) (by unfold bdE; rw [if_neg (fun hh => hh ht), if_pos (by omega)]) _)
 have hnx : ¬ 1099511627776 ≤ w.next := by omega
 obtain ⟨hbp, hid⟩ := yc9 hm hc hk hnx
 refine ADraw.of_sched ze (by rfl) (by rfl) ygm (by rfl) ?_
 refine za (o := S.obj p) _ hp ?_
 refine ⟨by omega, ?_⟩
 refine ⟨by omega, ?_⟩
 refine in64 (by rw [hq2]; omega) ?_
 refine ⟨⟨?_, ?_⟩, trivial⟩
 ·repeat (first | exact trivial | refine ⟨rfl, ?_⟩ | refine ⟨za (o := S.obj p) _ hp rfl, ?_⟩ | refine ⟨⟨by omega, rfl⟩, ?_⟩ | refine ⟨⟨by omega, in64 (by rw [hq2]; omega) rfl⟩, ?_⟩)
 refine ⟨⟨trivial, ?_⟩, trivial⟩
 refine ADraw.of_sched ze (by rfl) (by rfl) ygl (by rfl) ?_
 refine za (o := S.obj p) _ hp ?_
 refine ⟨zp3 w.G hg w.B mf.hB mf.hb (bdB w c) hbp hid _ _ (fun he => ⟨?_, ?_⟩) (fun he => ⟨?_, ?_⟩), trivial⟩
 ·repeat (first | exact trivial | refine ⟨rfl, ?_⟩ | refine ⟨za (o := S.obj p) _ hp rfl, ?_⟩)
 ·refine ⟨⟨trivial, ?_⟩, trivial⟩
  refine ⟨⟨trivial, ?_⟩, trivial⟩
  refine bcne (fun _ => ?_) (fun hh => absurd hh he)
  have e1 : bdE w c = putE w.G w.B (bdB w c) := by unfold bdE; rw [if_neg (fun hh => hh ht), if_neg hnx, if_neg he]
  have := h S (by rw [e1]; exact he)
  rw [e1] at this
  exact ret this
 ·repeat (first | exact trivial | refine ⟨rfl, ?_⟩ | refine ⟨za (o := S.obj p) _ hp rfl, ?_⟩)
 refine ⟨⟨trivial, ?_⟩, trivial⟩
 refine ⟨⟨trivial, ?_⟩, trivial⟩
 have hon : onP w.G (bdB w c) := Classical.byContradiction fun hh => by
  unfold putE at he
  rw [if_pos hh] at he
  cases he
 have e1 : bdE w c = (by classical exact if zcd w (bdB w c) then 5 else 0) := by
  unfold bdE
  rw [if_neg (fun hh => hh ht), if_neg hnx, if_pos he]
 obtain ⟨b, hB⟩ : ∃ b, bdB w c = b := ⟨_, rfl⟩
 rw [hB] at hbp hid hon he e1
 have yes : zcd w b → R (int 5) S := fun hh => bad 5 (by decide) (by rw [e1, if_pos hh]) _
 refine AWp.loop (σ := Nat) ⟨fun t => [(0, .av (ptr p)), (5, .bx 5 0), (6, .bx 6 0), (7, .av (lst 6 bldC (w.B ++ [b]))), (9, .av (int (t : Nat)))], fun _ => [(5, gndC w.G), (6, bldC b)],
  fun t st' => (t : Int) ≤ w.G.W * w.G.H ∧ st' = S ∧ ∀ t', t' < t → hasP w.G b t' → ∀ u ∈ w.U, u.inn = 0 → ¬ hitP w.G t' u.pos (kRad u.kind), fun t => w.G.T.length - t⟩ ze ?_ ?_
 ·exact ⟨0, trivial, ⟨by omega, rfl, fun t' ht' => absurd ht' (Nat.not_lt_zero _)⟩, ⟨lr_ _, lr_ _, lr_ _, by rw [← hB]; exact lr_ _, lr_ _, trivial⟩, ⟨rfl, by rw [← hB]; rfl, trivial⟩⟩
 rintro t st' ⟨htl, rfl, hno⟩
 refine in64 (by omega) ?_
 refine bcd (fun h1 => ?_) (fun h1 => ?_)
 rotate_left
 ·have hnm : ¬ zcd w b := by
   rintro ⟨t', ⟨h2, h3⟩, u, hu, h4, h5⟩
   exact hno t' (by omega) h3 u hu h4 h5
  have hz0 : bdE w c = 0 := by rw [e1, if_neg hnm]
  refine zq (i := ti25) (v := lst 6 bldC (w.B ++ [b])) (b := p) (o := 6) (l := wldV w (.s (.slice oa w.U.length cap))) rfl rfl rfl hp (show 6 + 1 ≤ 8 by decide) ?_
  have hp2 : (st'.setObj p (.cells (zn (wldV w (.s (.slice oa w.U.length cap))) 6 [lst 6 bldC (w.B ++ [b])]))).obj p = some (.cells (wldV { w with B := w.B ++ [b] } (.s (.slice oa w.U.length cap)))) := zb _ _ _
  have hr2 := hv.set hoff (.cells (zn (wldV w (.s (.slice oa w.U.length cap))) 6 [lst 6 bldC (w.B ++ [b])]))
  generalize st'.setObj p _ = S2 at hp2 hr2 ⊢
  refine za (o := S2.obj p) _ hp2 ?_
  refine in64 (by dsimp only; omega) ?_
  refine zq (i := ti3) (v := int (w.next + 1)) (b := p) (o := 2) (l := wldV { w with B := w.B ++ [b] } (.s (.slice oa w.U.length cap))) rfl rfl rfl hp2 (show 2 + 1 ≤ 8 by decide) ?_
  subst hB
  exact ret (h0 hz0 _ _ (zb _ _ _) (hr2.set hoff _))
 have htW : (t : Int) < w.G.W * w.G.H := h1
 refine AWp.loop (σ := Nat) ⟨fun i => [(0, .av (ptr p)), (5, .bx 5 0), (6, .bx 6 0), (7, .av (lst 6 bldC (w.B ++ [b]))), (9, .av (int (t : Nat))), (10, .av (int (i : Nat)))], fun _ => [(5, gndC w.G), (6, bldC b)],
  fun i st2 => i ≤ w.U.length ∧ st2 = st' ∧ (0 < i → hasP w.G b t) ∧ ∀ j, (hj : j < w.U.length) → j < i → w.U[j].inn = 0 → ¬ hitP w.G t w.U[j].pos (kRad w.U[j].kind), fun i => w.U.length - i⟩ ze ?_ ?_
 ·exact ⟨0, trivial, ⟨Nat.zero_le _, rfl, fun hh => absurd hh (Nat.lt_irrefl _), fun j _ hj => absurd hj (Nat.not_lt_zero _)⟩, ⟨lr_ _, lr_ _, lr_ _, lr_ _, lr_ _, lr_ _, trivial⟩, ⟨rfl, rfl, trivial⟩⟩
 rintro i st2 ⟨hi, rfl, hhas, hnk⟩
 have next : (hasP w.G b t → ∀ u ∈ w.U, u.inn = 0 → ¬ hitP w.G t u.pos (kRad u.kind)) → ∀ t', t' < t + 1 → hasP w.G b t' → ∀ u ∈ w.U, u.inn = 0 → ¬ hitP w.G t' u.pos (kRad u.kind) := fun hh t' ht' => by
  by_cases e : t' = t
  ·subst e; exact hh
  ·exact hno t' (by omega)
 refine za (o := st2.obj p) _ hp ?_
 refine bcd (fun h2 => ?_) (fun h2 => ?_)
 rotate_left
 ·have hil : i = w.U.length := by omega
  subst hil
  refine in64 (by omega) ?_
  refine ⟨t + 1, ?_, ⟨by omega, rfl, next fun _ u hu h3 h4 => ?_⟩, ⟨lr_ _, lr_ _, lr_ _, lr_ _, lr_ _, trivial⟩, ⟨rfl, rfl, trivial⟩⟩
  ·show w.G.T.length - (t + 1) < w.G.T.length - t
   omega
  ·obtain ⟨j, hj, rfl⟩ := List.getElem_of_mem hu
   exact hnk j hj hj h3 h4
 have hlt : i < w.U.length := by omega
 refine zor w.G hg b ⟨hbp, hon⟩ t htW _ _ (fun z hz => ?_)
 refine zd (fun c4 => ?_) (fun c4 => ?_)
 rotate_left
 ·have hnh : ¬ hasP w.G b t := fun hh => by have := hz.2 hh; rw [this] at c4; cases c4
  refine in64 (by omega) ?_
  refine ⟨t + 1, ?_, ⟨by omega, rfl, next fun hh => absurd hh hnh⟩, ⟨lr_ _, lr_ _, lr_ _, lr_ _, lr_ _, trivial⟩, ⟨rfl, rfl, trivial⟩⟩
  show w.G.T.length - (t + 1) < w.G.T.length - t
  omega
 have hh := hz.1 c4
 obtain ⟨bb, J, rfl, hob⟩ := hget i hlt
 refine za (o := st2.obj p) _ hp ?_
 refine ⟨i, rfl, hlt, ?_⟩
 refine za (o := st2.obj bb) _ hob ?_
 refine z7 (i := ti50) (row := untC w.U[i]) rfl rfl (zy zm hlt) ?_
 have step : (w.U[i].inn = 0 → ¬ hitP w.G t w.U[i].pos (kRad w.U[i].kind)) → ∀ j, (hj : j < w.U.length) → j < i + 1 → w.U[j].inn = 0 → ¬ hitP w.G t w.U[j].pos (kRad w.U[j].kind) := fun q j hj hji => by
  by_cases e : j = i
  ·subst e; exact q
  ·exact hnk j hj (by omega)
 have hui := List.getElem_mem hlt
 have hkr := zac w.U[i].kind
 refine ADraw.of_sched ze (by rfl) (by rfl) zzx (by rfl) ?_
 refine bceq (fun c5 => ?_) (fun c5 => ?_)
 ·refine ⟨qn w.U[i].kind (mf.hk _ hui) _ _ ⟨(by repeat (first | exact trivial | refine ⟨rfl, ?_⟩ | refine ⟨optR (optR (optR (za _ (zb _ _ _) rfl))), ?_⟩)), ?_⟩, trivial⟩
  refine ⟨zha w.G hg t htW w.U[i].pos (hpl _ hui c5) (kRad w.U[i].kind) ⟨hkr.1, by omega⟩ _ _ ⟨trivial, ?_⟩, trivial⟩
  refine bcd (fun c6 => ?_) (fun c6 => ?_)
  ·exact ret (yes ⟨t, ⟨htW, hh⟩, w.U[i], hui, c5, c6⟩)
  refine in64 (by omega) ?_
  refine ⟨i + 1, ?_, ⟨by omega, rfl, fun _ => hh, step fun _ => c6⟩, ⟨lr_ _, lr_ _, lr_ _, lr_ _, lr_ _, lr_ _, trivial⟩, ⟨rfl, rfl, trivial⟩⟩
  show w.U.length - (i + 1) < w.U.length - i
  omega
 ·refine ⟨⟨(by repeat (first | exact trivial | refine ⟨rfl, ?_⟩ | refine ⟨optR (optR (optR (za _ (zb _ _ _) rfl))), ?_⟩)), ?_⟩, trivial⟩
  refine ⟨⟨trivial, ?_⟩, trivial⟩
  refine in64 (by omega) ?_
  refine ⟨i + 1, ?_, ⟨by omega, rfl, fun _ => hh, step fun q => absurd q c5⟩, ⟨lr_ _, lr_ _, lr_ _, lr_ _, lr_ _, lr_ _, trivial⟩, ⟨rfl, rfl, trivial⟩⟩
  show w.U.length - (i + 1) < w.U.length - i
  omega
end Go.Proofs
namespace Go.Proofs
open Go Go.V
theorem zmn (w : Wld) (hw : w.fits) (hn : ∀ u ∈ w.U, u.pos.ok) (hU : w.U.length ≤ 1000000) (c : Cmd) (hc : c.fits) (hK : c.K = 4) : ACalls Tryz.prog 34 [.agg (wldC w), .agg (cmdC c)] Store.empty (DoQ bdE bdW w c) := by
 refine ACalls.of_body (c := cfg 97 [6] []) ze Tryz.func34 (by rfl) (by rfl) (by rfl) (by rfl) ?_
 have bad : (¬ mayP w ∨ ¬ cmdP c ∨ w.players < c.P) → DoQ bdE bdW w c (.tup [.agg (wldC w), int 1]) Store.empty := fun hb => by
  have he := j5 (E := bdE) (w := w) (c := c) hb
  exact .inl ⟨by rw [he]; decide, by rw [he]⟩
 refine qz w hw hn _ _ (fun z hz => ?_)
 refine yc ?_
 refine zd (fun c1 => ?_) (fun c1 => ?_)
 rotate_left
 ·exact ret (bad (.inl fun hh => by have := hz.2 hh; rw [this] at c1; cases c1))
 refine yy c hc _ _ (fun zc hzc => ?_)
 refine yc ?_
 refine zd (fun c2 => ?_) (fun c2 => ?_)
 rotate_left
 ·exact ret (bad (.inr (.inl fun hh => by have := hzc.2 hh; rw [this] at c2; cases c2)))
 refine bcd (fun c3 => ?_) (fun c3 => ?_)
 ·exact ret (bad (.inr (.inr (by omega))))
 have hm := hz.1 c1
 have hcp := hzc.1 c2
 have he := zam (E := bdE) hm hcp (show c.P ≤ w.players by omega)
 refine qc w hw hU _ _ (fun v N hv _ => ?_)
 rw [xr]
 have hv := hv.q
 have hoff := fun (p : Nat) (hp : Fresh N p) => qo hv (xy (fresh_iff.1 hp)).1
 obtain ⟨oa, cap, e, _⟩ := hv.form
 subst e
 refine fun p hp => ?_
 refine yu (i := ti28) (v := .agg (wldV w (.s (.slice oa w.U.length cap)))) (xs := wldV w (.s (.slice oa w.U.length cap))) (b := p) (o := 0) (l := _) rfl rfl rfl (zb _ _ _) (show 0 + 8 ≤ 8 by decide) ?_
 generalize hS : (N.setObj p _).setObj p _ = S
 have hp2 : S.obj p = some (.cells (wldV w (.s (.slice oa w.U.length cap)))) := by rw [← hS]; exact zb _ _ _
 have hr2 : RowsQ 10 untC S (.s (.slice oa w.U.length cap)) w.U := by rw [← hS]; exact (hv.set (hoff p hp) _).set (hoff p hp) _
 refine bceq (fun h => absurd (hK.symm.trans h) (by decide)) (fun _ => ?_)
 refine bceq (fun h => absurd (hK.symm.trans h) (by decide)) (fun _ => ?_)
 refine bceq (fun h => absurd (hK.symm.trans h) (by decide)) (fun _ => ?_)
 refine bceq (fun _ => ?_) (fun h => absurd hK h)
 refine zmj hp2 hr2 (hoff p hp) hm hn c hcp hK _ (fun S' hE => ?_) (fun hE S' v' g1 g2 => ?_)
 ·refine bcne (fun _ => ?_) (fun h => absurd h hE)
  exact ret (.inl ⟨by rw [he]; exact hE, by rw [he]; rfl⟩)
 ·obtain ⟨oa2, cap2, e2, _⟩ := g2.form
  subst e2
  refine za (o := S'.obj p) _ g1 ?_
  exact ret (.inr ⟨he.trans hE, _, g2, rfl⟩)
theorem ref4 : zgn 4 bdE bdW := fun w hw hn hU c hc hK R h => wg (zmn w hw hn hU c hc hK) R h
end Go.Proofs
