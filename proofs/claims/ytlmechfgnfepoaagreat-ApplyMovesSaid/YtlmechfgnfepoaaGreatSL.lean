/- The ground on which laws of thronglaw23 are proved: contracts of functions and plain lemmas; no condition beyond the row's own. -/
import Derived.Test.YtlmechfgnfepoaaGreatSK
import Derived.Test.YtlmechfgnfepoaaGreatSF
set_option linter.unusedSimpArgs false
set_option linter.unusedVariables false
namespace Go.Proofs
open Go Go.V
set_option linter.unusedVariables false
set_option linter.unusedSimpArgs false
set_option linter.unusedSimpArgs false in
set_option maxRecDepth 20000 in
theorem on_spec (g : Gnd) (x y : Int) (st : Store) (R : AV → Store → Prop) (h : ∀ z : Bool, (z = true ↔ onG g x y) → R (bool z) st) : ACalls Tryz.prog 208 [.agg (gndC g), int x, int y] st R := by
  refine ACalls.of_body (c := cfg 25) infoOK Tryz.func208 (by rfl) (by rfl) (by rfl) (by rfl) ?_
  repeat' (first | refine bcd (fun _ => ?_) (fun _ => ?_) | refine bcase_intro (fun _ => ?_) (fun _ => ?_) | refine in64 (by omega) ?_ | fail)
  all_goals
    refine ret (h _ ?_)
    unfold onG
    simp only [decide_eq_true_eq, decide_eq_false_iff_not, Bool.false_eq_true, false_iff, true_iff, beq_iff_eq, bne_iff_ne, beq_eq_false_iff_ne, ne_eq, reduceCtorEq] at *
    omega
theorem min2_eq (a b : Int) : min2 a b = min a b := by
  unfold min2
  by_cases h : b < a
  · rw [decide_eq_true h]; show b = _; omega
  · rw [decide_eq_false h]; show a = _; omega
theorem pass_spec (g : Gnd) (hg : gndP g) (f : Nat → Int) (hf : ∀ t, t < g.T.length → 0 ≤ f t ∧ f t ≤ 128) (t : Nat) (ht : t < g.T.length) (ws : List (Int × Int)) (hw : ∀ d ∈ ws, (d.1 ≠ 0 ∨ d.2 ≠ 0) ∧ (-1 ≤ d.1 ∧ d.1 ≤ 1) ∧ (-1 ≤ d.2 ∧ d.2 ≤ 1)) (hwl : ws.length ≤ 100) (b : Nat) (st : Store) (R : AV → Store → Prop)
    (h : R (.tup []) (st.setObj b (.cells (il g.T.length (sweepT g f ws t))))) : ACalls Tryz.prog 176 [.agg (gndC g), blV b g.T.length, int t, lst 2 wayC ws] (st.setObj b (.cells (il g.T.length f))) R := by
  have hm := gnd_area hg
  have htb := tile_b hg (t := t) (by omega)
  have hq := trem (t := t) hg.1.1
  have hq2 := tquo (t := t) hg.1.1
  have hg1 := hg.1
  have hg2 := hg.2.1
  unfold sweepT at h
  have hx : ∃ x, x = (t : Int) % g.W := ⟨_, rfl⟩
  have hy : ∃ y, y = (t : Int) / g.W := ⟨_, rfl⟩
  obtain ⟨x, hx⟩ := hx
  obtain ⟨y, hy⟩ := hy
  rw [← hx, ← hy] at h htb
  rw [← hx] at hq
  rw [← hy] at hq2
  refine ACalls.of_body (c := cfg 63) infoOK Tryz.func176 (by rfl) (by rfl) (by rfl) (by rfl) ?_
  refine ADraw.of_sched infoOK (by rfl) (by rfl) sch176_1 (by rfl) ?_
  refine ⟨by omega, ?_⟩
  refine ⟨by omega, ?_⟩
  refine in64 (by omega) ?_
  refine ⟨⟨(by repeat (first | exact trivial | refine ⟨rfl, ?_⟩ | refine ⟨optR (optR (optR (optK_intro _ (setObj_self _ _ _) rfl))), ?_⟩)), ?_⟩, trivial⟩
  refine ⟨⟨trivial, ?_⟩, trivial⟩
  refine AWp.loop (σ := Nat) ⟨fun i => [(1, .av (blV b g.T.length)), (2, .av (int (t : Nat))), (4, .bx 4 0), (8, .av (int x)), (9, .av (int y)), (21, .av (lst 2 wayC ws)), (22, .av (int (ws.length : Nat))), (23, .av (int (i : Nat)))], fun _ => [(4, gndC g)],
    fun i st' => i ≤ ws.length ∧ st' = st.setObj b (.cells (il g.T.length (setI f t (passV g f x y (f t) (ws.take i))))), fun i => ws.length - i⟩ infoOK ?_ ?_
  · refine ⟨0, trivial, ⟨Nat.zero_le _, ?_⟩, ⟨LV.le_refl _, LV.le_refl _, LV.le_refl _, ?_, ?_, LV.le_refl _, ?_, LV.le_refl _, trivial⟩, ⟨rfl, trivial⟩⟩
    · rw [List.take_zero]
      show _ = st.setObj b (.cells (il g.T.length (setI f t (f t))))
      rw [setI_id]
    · rw [← hq]; exact LV.le_refl _
    · rw [← hq2]; exact LV.le_refl _
    · rw [← rws_len (f := wayC) ws]; exact LV.le_refl _
  rintro i st' ⟨hi, rfl⟩
  refine bcd (fun h1 => ?_) (fun h1 => ?_)
  rotate_left
  · have : i = ws.length := by omega
    subst this
    rw [List.take_length]
    exact ret h
  have hlt : i < ws.length := by omega
  have hd := hw _ (List.getElem_mem hlt)
  have hv := passV_b hg hf x y (ws.take i) (f t) (hf t ht)
  have hsn := passV_snoc g f x y (f t) ws hlt
  have hgs := gv_setI hg f (t := t) (passV g f x y (f t) (ws.take i)) hd.1
  rw [← hx, ← hy] at hgs
  generalize hV : passV g f x y (f t) (ws.take i) = V0 at *
  have ho : (st.setObj b (.cells (il g.T.length (setI f t V0)))).obj b = some (.cells (il g.T.length (setI f t V0))) := setObj_self _ _ _
  refine ⟨i, rfl, optK_intro _ (rws_get hlt) ?_⟩
  refine ⟨0, rfl, by decide, ?_⟩
  refine in64 (by omega) ?_
  refine ⟨1, rfl, by decide, ?_⟩
  refine in64 (by omega) ?_
  refine on_spec g (x + ws[i].1) (y + ws[i].2) _ _ (fun z hz => ?_)
  have hgv := gv_b hg hf (x + ws[i].1) (y + ws[i].2)
  have fin : min V0 (gv g f (x + ws[i].1) (y + ws[i].2) + 1) = passV g f x y (f t) (ws.take (i + 1)) := hsn.symm
  refine bcase_intro (fun c1 => ?_) (fun c1 => ?_)
  · have hon := hz.1 c1
    obtain ⟨e1, e2, e3, e4⟩ := tl_facts hg hon
    have hpos : 0 ≤ g.W * (y + ws[i].2) := Int.mul_nonneg (by omega) (by have := hon.2.1; omega)
    have hval : setI f t V0 (tl g (x + ws[i].1) (y + ws[i].2)) = gv g f (x + ws[i].1) (y + ws[i].2) := by
      rw [← hgs]; unfold gv; rw [if_pos hon]
    refine ⟨0, rfl, by decide, ?_⟩
    refine in64 (by omega) ?_
    refine ⟨1, rfl, by decide, ?_⟩
    refine in64 (by omega) ?_
    refine in64 (by omega) ?_
    refine in64 (by omega) ?_
    refine ⟨tl g (x + ws[i].1) (y + ws[i].2), e1.symm, e2, ?_⟩
    refine optK_intro _ ho (optK_intro _ (il_head e2) ?_)
    rw [hval]
    refine ⟨t, rfl, ht, ?_⟩
    refine optK_intro _ ho (optK_intro _ (il_head ht) ?_)
    rw [setI_self]
    refine in64 (by omega) ?_
    refine ⟨t, rfl, ht, ?_⟩
    refine storeK_objE (i := ti3) (v := int (min2 V0 (gv g f (x + ws[i].1) (y + ws[i].2) + 1))) (b := b) (o := 0 + t * 1) (l := il g.T.length (setI f t V0)) (st2 := st.setObj b (.cells (il g.T.length (setI f t (passV g f x y (f t) (ws.take (i + 1))))))) rfl rfl rfl ho (by rw [il_len]; omega) ?_ ?_
    · rw [setObj_setObj, show 0 + t * 1 = t by omega, il_set ht, setI_setI, min2_eq, fin]
    refine in64 (by omega) ?_
    refine ⟨i + 1, ?_, ⟨by omega, rfl⟩, ⟨LV.le_refl _, LV.le_refl _, LV.le_refl _, LV.le_refl _, LV.le_refl _, LV.le_refl _, LV.le_refl _, LV.le_refl _, trivial⟩, ⟨rfl, trivial⟩⟩
    show ws.length - (i + 1) < ws.length - i
    omega
  · have hoff : ¬ onG g (x + ws[i].1) (y + ws[i].2) := fun hh => by have := hz.2 hh; rw [this] at c1; cases c1
    have hz0 : gv g f (x + ws[i].1) (y + ws[i].2) = 0 := if_neg hoff
    rw [hz0] at fin
    refine ⟨t, rfl, ht, ?_⟩
    refine optK_intro _ ho (optK_intro _ (il_head ht) ?_)
    rw [setI_self]
    refine in64 (by omega) ?_
    refine ⟨t, rfl, ht, ?_⟩
    refine storeK_objE (i := ti3) (v := int (min2 V0 (0 + 1))) (b := b) (o := 0 + t * 1) (l := il g.T.length (setI f t V0)) (st2 := st.setObj b (.cells (il g.T.length (setI f t (passV g f x y (f t) (ws.take (i + 1))))))) rfl rfl rfl ho (by rw [il_len]; omega) ?_ ?_
    · rw [setObj_setObj, show 0 + t * 1 = t by omega, il_set ht, setI_setI, min2_eq, fin]
    refine in64 (by omega) ?_
    refine ⟨i + 1, ?_, ⟨by omega, rfl⟩, ⟨LV.le_refl _, LV.le_refl _, LV.le_refl _, LV.le_refl _, LV.le_refl _, LV.le_refl _, LV.le_refl _, LV.le_refl _, trivial⟩, ⟨rfl, trivial⟩⟩
    show ws.length - (i + 1) < ws.length - i
    omega
end Go.Proofs
namespace Go.Proofs
open Go Go.V
set_option linter.unusedVariables false
set_option linter.unusedSimpArgs false
def openI (o : Nat → Bool) (t : Nat) : Int := if o t then 128 else 0
def openTo (o : Nat → Bool) (i t : Nat) : Int := if t < i then openI o t else 0
theorem openI_b (o : Nat → Bool) (n : Nat) : ∀ t, t < n → 0 ≤ openI o t ∧ openI o t ≤ 128 := fun t _ => by unfold openI; split <;> decide
def roomV (g : Gnd) (l : List Bld) (c : Int) : AV := lst 1 intC (ilL g.T.length (roomF g (openB g l c)))
theorem room_spec (g : Gnd) (hg : gndP g) (l : List Bld) (hl : l.length ≤ 1000000000000) (hb : ∀ b ∈ l, bldP b ∧ onP g b) (c : Int) (st : Store) (R : AV → Store → Prop) (h : R (roomV g l c) st) :
    ACalls Tryz.prog 125 [.agg (gndC g), lst 6 bldC l, int c] st R := by
  have ha := gnd_area hg
  have fwd_ok : ∀ d ∈ fwdW, (d.1 ≠ 0 ∨ d.2 ≠ 0) ∧ (-1 ≤ d.1 ∧ d.1 ≤ 1) ∧ (-1 ≤ d.2 ∧ d.2 ≤ 1) := by decide
  have bwd_ok : ∀ d ∈ bwdW, (d.1 ≠ 0 ∨ d.2 ≠ 0) ∧ (-1 ≤ d.1 ∧ d.1 ≤ 1) ∧ (-1 ≤ d.2 ∧ d.2 ≤ 1) := by decide
  refine ACalls.of_awp (c := cfg 63) infoOK Tryz.func125 (by rfl) (by rfl) (by rfl) (by rfl) ?_
  refine AWp.seq (AWp.of_vc infoOK ?_)
  refine AWp.seq (AWp.of_vc infoOK ?_)
  refine aeff_make rfl (it := ti36) (ie := ti3) rfl rfl rfl rfl rfl (n := (rws u8C g.T).length) ?_ ?_ (fun b hf => ?_)
  · rw [rws_len]; show 8 * _ ≤ _; omega
  · rw [rws_len]; omega
  rw [rws_len, il_zero]
  refine AWp.meetA (σ := Unit) ⟨fun _ => [(3, .bx 3 0), (7, .av (blV b g.T.length))], fun _ => [(3, gndC g)], fun _ st' => st' = st.setObj b (.cells (il g.T.length (openI (openB g l c))))⟩ ?_ ?_
  · refine AWp.of_vc infoOK ?_
    refine ctiles_spec g hg l hl hb c _ _ ?_
    refine AWp.loop (σ := Nat) ⟨fun i => [(3, .bx 3 0), (7, .av (blV b g.T.length)), (19, .av (opV g l c)), (20, .av (int (g.T.length : Nat))), (21, .av (int (i : Nat)))], fun _ => [(3, gndC g)],
      fun i st' => i ≤ g.T.length ∧ st' = st.setObj b (.cells (il g.T.length (openTo (openB g l c) i))), fun i => g.T.length - i⟩ infoOK ?_ ?_
    · refine ⟨0, trivial, ⟨Nat.zero_le _, ?_⟩, ⟨LV.le_refl _, LV.le_refl _, LV.le_refl _, ?_, LV.le_refl _, trivial⟩, ⟨rfl, trivial⟩⟩
      · rw [show openTo (openB g l c) 0 = fun _ => 0 from funext fun t => if_neg (Nat.not_lt_zero t)]
      · show LV.le (.av (int ((rws boolC (blL g.T.length (openB g l c))).length : Nat))) (.av (int (g.T.length : Nat)))
        rw [rws_len, blL_len]; exact LV.le_refl _
    rintro i st' ⟨hi, rfl⟩
    refine bcd (fun h1 => ?_) (fun h1 => ?_)
    rotate_left
    · have : i = g.T.length := by omega
      subst this
      refine ⟨(), ?_, ⟨LV.le_refl _, LV.le_refl _, trivial⟩, ⟨rfl, trivial⟩⟩
      show st.setObj b (.cells (il g.T.length (openTo (openB g l c) g.T.length))) = st.setObj b (.cells (il g.T.length (openI (openB g l c))))
      rw [il_congr (f := openTo (openB g l c) g.T.length) (g := openI (openB g l c)) fun t ht => if_pos ht]
    have hlt : i < g.T.length := by omega
    have ho : (st.setObj b (.cells (il g.T.length (openTo (openB g l c) i)))).obj b = some (.cells (il g.T.length (openTo (openB g l c) i))) := setObj_self _ _ _
    have hlt2 : i < (blL g.T.length (openB g l c)).length := by rw [blL_len]; exact hlt
    have s2 : ∀ s, s ≠ i → openTo (openB g l c) (i + 1) s = openTo (openB g l c) i s := fun s hs => by
      unfold openTo
      by_cases h3 : s < i
      · rw [if_pos h3, if_pos (by omega)]
      · rw [if_neg h3, if_neg (by omega)]
    have s1 : openTo (openB g l c) (i + 1) i = openI (openB g l c) i := if_pos (by omega)
    refine ⟨i, rfl, optK_intro _ (rws_get hlt2) ?_⟩
    refine bcase_intro (fun c1 => ?_) (fun c1 => ?_)
    · rw [blL_get hlt] at c1
      refine ⟨i, rfl, hlt, ?_⟩
      refine storeK_objE (i := ti3) (v := int 128) (b := b) (o := 0 + i * 1) (l := _) (st2 := st.setObj b (.cells (il g.T.length (openTo (openB g l c) (i + 1))))) rfl rfl rfl ho (by rw [il_len]; omega) ?_ ?_
      · rw [setObj_setObj, show 0 + i * 1 = i by omega, ← il_set0 hlt _ s2, s1]
        unfold openI
        rw [if_pos c1]
      refine in64 (by omega) ?_
      refine ⟨i + 1, ?_, ⟨by omega, rfl⟩, ⟨LV.le_refl _, LV.le_refl _, LV.le_refl _, LV.le_refl _, LV.le_refl _, trivial⟩, ⟨rfl, trivial⟩⟩
      show g.T.length - (i + 1) < g.T.length - i
      omega
    · rw [blL_get hlt] at c1
      refine in64 (by omega) ?_
      refine ⟨i + 1, ?_, ⟨by omega, ?_⟩, ⟨LV.le_refl _, LV.le_refl _, LV.le_refl _, LV.le_refl _, LV.le_refl _, trivial⟩, ⟨rfl, trivial⟩⟩
      · show g.T.length - (i + 1) < g.T.length - i
        omega
      · refine congrArg (fun f => st.setObj b (.cells (il g.T.length f))) (funext fun s => ?_)
        by_cases h3 : s = i
        · subst h3
          rw [s1]
          unfold openI openTo
          rw [if_neg (by omega), if_neg (by rw [c1]; decide)]
        · exact (s2 s h3).symm
  rintro _ _ rfl
  refine AWp.meetA (σ := Unit) ⟨fun _ => [(3, .bx 3 0), (7, .av (blV b g.T.length))], fun _ => [(3, gndC g)], fun _ st' => st' = st.setObj b (.cells (il g.T.length (sweepA g (openI (openB g l c)) g.T.length)))⟩ ?_ ?_
  · refine AWp.of_vc infoOK ?_
    refine AWp.loop (σ := Nat) ⟨fun i => [(3, .bx 3 0), (7, .av (blV b g.T.length)), (32, .av (int (g.T.length : Nat))), (33, .av (int (i : Nat)))], fun _ => [(3, gndC g)],
      fun i st' => i ≤ g.T.length ∧ st' = st.setObj b (.cells (il g.T.length (sweepA g (openI (openB g l c)) i))), fun i => g.T.length - i⟩ infoOK ?_ ?_
    · exact ⟨0, trivial, ⟨Nat.zero_le _, rfl⟩, ⟨LV.le_refl _, LV.le_refl _, LV.le_refl _, LV.le_refl _, trivial⟩, ⟨rfl, trivial⟩⟩
    rintro i st' ⟨hi, rfl⟩
    refine bcd (fun h1 => ?_) (fun h1 => ?_)
    rotate_left
    · have : i = g.T.length := by omega
      subst this
      exact ⟨(), rfl, ⟨LV.le_refl _, LV.le_refl _, trivial⟩, ⟨rfl, trivial⟩⟩
    have hlt : i < g.T.length := by omega
    refine ⟨by decide, ?_⟩
    refine pass_spec g hg (sweepA g (openI (openB g l c)) i) (sweepA_b hg (openI_b _ _) i hi) i hlt fwdW fwd_ok (by decide) b _ _ ?_
    refine in64 (by omega) ?_
    refine ⟨i + 1, ?_, ⟨by omega, rfl⟩, ⟨LV.le_refl _, LV.le_refl _, LV.le_refl _, LV.le_refl _, trivial⟩, ⟨rfl, trivial⟩⟩
    show g.T.length - (i + 1) < g.T.length - i
    omega
  rintro _ _ rfl
  have hbA := sweepA_b hg (openI_b (openB g l c) g.T.length) g.T.length (Nat.le_refl _)
  have hroom : roomF g (openB g l c) = sweepB g (sweepA g (openI (openB g l c)) g.T.length) g.T.length g.T.length := rfl
  generalize sweepA g (openI (openB g l c)) g.T.length = FA at *
  refine AWp.meetA (σ := Unit) ⟨fun _ => [(7, .av (blV b g.T.length))], fun _ => [], fun _ st' => st' = st.setObj b (.cells (il g.T.length (roomF g (openB g l c))))⟩ ?_ ?_
  · refine AWp.of_vc infoOK ?_
    refine in64 (by omega) ?_
    refine AWp.loop (σ := Nat) ⟨fun j => [(3, .bx 3 0), (7, .av (blV b g.T.length)), (11, .av (int ((g.T.length : Int) - 1 - (j : Nat))))], fun _ => [(3, gndC g)],
      fun j st' => j ≤ g.T.length ∧ st' = st.setObj b (.cells (il g.T.length (sweepB g FA g.T.length j))), fun j => g.T.length - j⟩ infoOK ?_ ?_
    · refine ⟨0, trivial, ⟨Nat.zero_le _, rfl⟩, ⟨LV.le_refl _, LV.le_refl _, ?_, trivial⟩, ⟨rfl, trivial⟩⟩
      rw [show (g.T.length : Int) - 1 - ((0 : Nat) : Int) = (g.T.length : Int) - 1 by omega]; exact LV.le_refl _
    rintro j st' ⟨hj, rfl⟩
    refine bcd (fun h1 => ?_) (fun h1 => ?_)
    rotate_left
    · have : j = g.T.length := by omega
      subst this
      exact ⟨(), by rw [hroom], ⟨LV.le_refl _, trivial⟩, trivial⟩
    have hlt : j < g.T.length := by omega
    refine ⟨by decide, ?_⟩
    refine ACalls.le (ys := [.agg (gndC g), blV b g.T.length, int ((g.T.length - 1 - j : Nat) : Int), lst 2 wayC bwdW]) ⟨AV.le_refl _, AV.le_refl _, by rw [show (g.T.length : Int) - 1 - (j : Int) = ((g.T.length - 1 - j : Nat) : Int) by omega]; exact AV.le_refl _, AV.le_refl _, trivial⟩ ?_
    refine pass_spec g hg (sweepB g FA g.T.length j) (sweepB_b hg hbA j hj) (g.T.length - 1 - j) (by omega) bwdW bwd_ok (by decide) b _ _ ?_
    refine in64 (by omega) ?_
    refine ⟨j + 1, ?_, ⟨by omega, rfl⟩, ⟨LV.le_refl _, LV.le_refl _, ?_, trivial⟩, ⟨rfl, trivial⟩⟩
    · show g.T.length - (j + 1) < g.T.length - j
      omega
    · rw [show (g.T.length : Int) - 1 - ((j + 1 : Nat) : Int) = (g.T.length : Int) - 1 - (j : Nat) - 1 by omega]; exact LV.le_refl _
  rintro _ _ rfl
  refine AWp.freeze (d := 7) (b := b) (k := 1) (n := g.T.length) (cap := g.T.length) (rows := rws intC (ilL g.T.length (roomF g (openB g l c)))) (pad := []) rfl ?_ ?_ ?_ (Nat.le_refl _) ?_ ?_ ?_
  · rw [List.append_nil, il_flat]; exact setObj_self _ _ _
  · exact hf.2
  · rw [rws_len, ilL_len]
  · intro row hr
    obtain ⟨x, _, rfl⟩ := List.mem_map.1 hr
    rfl
  · intro row hr y hy
    obtain ⟨x, _, rfl⟩ := List.mem_map.1 hr
    simp [intC] at hy
    exact ⟨_, hy, rfl⟩
  rw [delObj_back hf.1]
  refine AWp.of_vc infoOK ?_
  exact ret h
end Go.Proofs
namespace Go.Proofs
open Go Go.V
set_option linter.unusedVariables false
set_option linter.unusedSimpArgs false
def fitTo (g : Gnd) (l : List Bld) (c s : Int) (i t : Nat) : Bool := if t < i then goodB g l c s t else false
theorem fit_spec (g : Gnd) (hg : gndP g) (l : List Bld) (hl : l.length ≤ 1000000000000) (hb : ∀ b ∈ l, bldP b ∧ onP g b) (c s : Int) (hs : 0 ≤ s ∧ s ≤ 3) (st : Store) (R : AV → Store → Prop) (h : R (goodV g l c s) st) :
    ACalls Tryz.prog 80 [.agg (gndC g), lst 6 bldC l, int c, int s] st R := by
  have ha := gnd_area hg
  refine ACalls.of_awp (c := cfg 34) infoOK Tryz.func80 (by rfl) (by rfl) (by rfl) (by rfl) ?_
  refine AWp.seq (AWp.of_vc infoOK ?_)
  refine AWp.seq (AWp.of_vc infoOK ?_)
  refine aeff_make rfl (it := ti108) (ie := ti4) rfl rfl rfl rfl rfl (n := (rws u8C g.T).length) ?_ ?_ (fun b hf => ?_)
  · rw [rws_len]; show 1 * _ ≤ _; omega
  · rw [rws_len]; omega
  rw [rws_len, bl_zero]
  refine AWp.meetA (σ := Unit) ⟨fun _ => [(9, .av (blV b g.T.length))], fun _ => [], fun _ st' => st' = st.setObj b (.cells (bl g.T.length (goodB g l c s)))⟩ ?_ ?_
  · refine AWp.of_vc infoOK ?_
    refine room_spec g hg l hl hb c _ _ ?_
    refine AWp.loop (σ := Nat) ⟨fun i => [(3, .av (int s)), (9, .av (blV b g.T.length)), (19, .av (roomV g l c)), (20, .av (int (g.T.length : Nat))), (21, .av (int (i : Nat)))], fun _ => [],
      fun i st' => i ≤ g.T.length ∧ st' = st.setObj b (.cells (bl g.T.length (fitTo g l c s i))), fun i => g.T.length - i⟩ infoOK ?_ ?_
    · refine ⟨0, trivial, ⟨Nat.zero_le _, ?_⟩, ⟨LV.le_refl _, LV.le_refl _, LV.le_refl _, ?_, LV.le_refl _, trivial⟩, trivial⟩
      · rw [show fitTo g l c s 0 = fun _ => false from funext fun t => if_neg (Nat.not_lt_zero t)]
      · show LV.le (.av (int ((rws intC (ilL g.T.length (roomF g (openB g l c)))).length : Nat))) (.av (int (g.T.length : Nat)))
        rw [rws_len, ilL_len]; exact LV.le_refl _
    rintro i st' ⟨hi, rfl⟩
    refine bcd (fun h1 => ?_) (fun h1 => ?_)
    rotate_left
    · have : i = g.T.length := by omega
      subst this
      refine ⟨(), ?_, ⟨LV.le_refl _, trivial⟩, trivial⟩
      show st.setObj b (.cells (bl g.T.length (fitTo g l c s g.T.length))) = st.setObj b (.cells (bl g.T.length (goodB g l c s)))
      rw [bl_congr (f := fitTo g l c s g.T.length) (g := goodB g l c s) fun t ht => if_pos ht]
    have hlt : i < g.T.length := by omega
    have ho : (st.setObj b (.cells (bl g.T.length (fitTo g l c s i)))).obj b = some (.cells (bl g.T.length (fitTo g l c s i))) := setObj_self _ _ _
    have hlt2 : i < (ilL g.T.length (roomF g (openB g l c))).length := by rw [ilL_len]; exact hlt
    have s2 : ∀ q, q ≠ i → fitTo g l c s (i + 1) q = fitTo g l c s i q := fun q hq => by
      unfold fitTo
      by_cases h3 : q < i
      · rw [if_pos h3, if_pos (by omega)]
      · rw [if_neg h3, if_neg (by omega)]
    have s1 : fitTo g l c s (i + 1) i = goodB g l c s i := if_pos (by omega)
    refine ⟨i, rfl, optK_intro _ (rws_get hlt2) ?_⟩
    refine ⟨i, rfl, hlt, ?_⟩
    refine storeK_objE (i := ti4) (v := V.bool (decide (s < (ilL g.T.length (roomF g (openB g l c)))[i]))) (b := b) (o := 0 + i * 1) (l := _) (st2 := st.setObj b (.cells (bl g.T.length (fitTo g l c s (i + 1))))) rfl rfl rfl ho (by rw [bl_len]; omega) ?_ ?_
    · rw [setObj_setObj, show 0 + i * 1 = i by omega, ← bl_set hlt _ s2, s1, ilL_get hlt, good_room hg l c hs hlt]
    refine in64 (by omega) ?_
    refine ⟨i + 1, ?_, ⟨by omega, rfl⟩, ⟨LV.le_refl _, LV.le_refl _, LV.le_refl _, LV.le_refl _, LV.le_refl _, trivial⟩, trivial⟩
    show g.T.length - (i + 1) < g.T.length - i
    omega
  rintro _ _ rfl
  refine AWp.freeze (d := 9) (b := b) (k := 1) (n := g.T.length) (cap := g.T.length) (rows := rws boolC (blL g.T.length (goodB g l c s))) (pad := []) rfl ?_ ?_ ?_ (Nat.le_refl _) ?_ ?_ ?_
  · rw [openFn_flat]; exact setObj_self _ _ _
  · exact hf.2
  · rw [rws_len, blL_len]
  · intro row hr
    obtain ⟨x, _, rfl⟩ := List.mem_map.1 hr
    rfl
  · intro row hr y hy
    obtain ⟨x, _, rfl⟩ := List.mem_map.1 hr
    simp [boolC] at hy
    exact ⟨_, hy, rfl⟩
  rw [delObj_back hf.1]
  refine AWp.of_vc infoOK ?_
  exact ret h
/-- A net, in an object. -/
def netC (g : Gnd) (l : List Bld) (c s : Int) : List AV := gndC g ++ [int c, goodV g l c s]
theorem fopen_spec (g : Gnd) (hg : gndP g) (l : List Bld) (hl : l.length ≤ 1000000000000) (hb : ∀ b ∈ l, bldP b ∧ onP g b) (c s : Int) (hs : 0 ≤ s ∧ s ≤ 3) (st : Store) (R : AV → Store → Prop) (h : ∀ b, Fresh st b → R (ptr b) (st.setObj b (.cells (netC g l c s)))) :
    ACalls Tryz.prog 45 [.agg (gndC g), lst 6 bldC l, int c, int s] st R := by
  refine ACalls.of_body (c := cfg 18 [17] []) infoOK Tryz.func45 (by rfl) (by rfl) (by rfl) (by rfl) ?_
  refine ADraw.of_sched infoOK (by rfl) (by rfl) sch45_1 (by rfl) ?_
  refine ⟨fit_spec g hg l hl hb c s hs _ _ ⟨(by repeat (first | exact trivial | refine ⟨rfl, ?_⟩ | refine ⟨optR (optR (optR (optK_intro _ (setObj_self _ _ _) rfl))), ?_⟩)), ?_⟩, trivial⟩
  refine ⟨fun b hf => ⟨(by repeat (first | exact trivial | refine ⟨rfl, ?_⟩ | refine ⟨optR (optR (optR (optK_intro _ (setObj_self _ _ _) rfl))), ?_⟩)), ?_⟩, trivial⟩
  refine ⟨⟨trivial, ?_⟩, trivial⟩
  exact ret (h b hf)
set_option maxRecDepth 10000 in
theorem rnear_spec (g : Gnd) (hg : gndP g) (t : Nat) (ht : t < g.T.length) (st : Store) (R : AV → Store → Prop) (h : R (ints (nearL g t)) st) : ACalls Tryz.prog 209 [.agg (gndC g), int t] st R := by
  have hm := gnd_area hg
  have htb := tile_b hg (t := t) (by omega)
  have hq := trem (t := t) hg.1.1
  have hq2 := tquo (t := t) hg.1.1
  have hg1 := hg.1
  have hg2 := hg.2.1
  unfold nearL at h
  generalize (t : Int) % g.W = x at *
  generalize (t : Int) / g.W = y at *
  have hd : ∀ i, (hi : i < 8) → -1 ≤ (dirL[i]'hi).1 ∧ (dirL[i]'hi).1 ≤ 1 ∧ -1 ≤ (dirL[i]'hi).2 ∧ (dirL[i]'hi).2 ≤ 1 := by decide
  refine ACalls.of_body (c := cfg 64) infoOK Tryz.func209 (by rfl) (by rfl) (by rfl) (by rfl) ?_
  refine AWp.loop (σ := Nat × AV) ⟨fun s => [(1, .av (int (t : Nat))), (2, .bx 2 0), (5, .bx 5 0), (6, .bx 6 0), (7, .av s.2), (8, .av (int (s.1 : Nat)))], fun _ => [(2, gndC g), (5, dirL.map fun d => int d.1), (6, dirL.map fun d => int d.2)],
    fun s st' => s.1 ≤ 8 ∧ App 1 st s.2 (rws intC ((dirL.take s.1).map (nearAt g x y))) st', fun s => 8 - s.1⟩ infoOK ?_ ?_
  · exact ⟨(0, _), trivial, ⟨Nat.zero_le _, App.start 1 st⟩, ⟨LV.le_refl _, LV.le_refl _, LV.le_refl _, LV.le_refl _, LV.le_refl _, LV.le_refl _, trivial⟩, ⟨rfl, rfl, rfl, trivial⟩⟩
  rintro ⟨i, v⟩ st' ⟨hi, ha⟩
  dsimp only at hi ha ⊢
  refine bcd (fun h1 => ?_) (fun h1 => ?_)
  rotate_left
  · have : i = 8 := by omega
    subst this
    exact ⟨_, st, AV.le_trans ha.le (AV.le_refl _), ha.has, h⟩
  have hlt : i < 8 := by omega
  have hdi := hd i hlt
  have hx5 : ((dirL.map fun d => int d.1).drop (0 + i * 1)).head? = some (int (dirL[i]'hlt).1) := by
    rw [List.head?_drop, show 0 + i * 1 = i by omega, List.getElem?_map, List.getElem?_eq_getElem hlt]; rfl
  have hx6 : ((dirL.map fun d => int d.2).drop (0 + i * 1)).head? = some (int (dirL[i]'hlt).2) := by
    rw [List.head?_drop, show 0 + i * 1 = i by omega, List.getElem?_map, List.getElem?_eq_getElem hlt]; rfl
  have hstep : (dirL.take (i + 1)).map (nearAt g x y) = (dirL.take i).map (nearAt g x y) ++ [nearAt g x y (dirL[i]'hlt)] := by
    rw [List.take_succ_eq_append_getElem hlt, List.map_append]; rfl
  have hlen : ((dirL.take i).map (nearAt g x y)).length ≤ 8 := by rw [List.length_map, List.length_take]; exact Nat.min_le_right _ _
  have hna : nearAt g x y (dirL[i]'hlt) = if onG g (x + (dirL[i]'hlt).1) (y + (dirL[i]'hlt).2) then x + (dirL[i]'hlt).1 + g.W * (y + (dirL[i]'hlt).2) else -1 := rfl
  generalize hD : dirL[i]'hlt = d at *
  refine ADraw.of_sched infoOK (by rfl) (by rfl) sch209_7 (by rfl) ?_
  refine ⟨by omega, ?_⟩
  refine ⟨i, rfl, hlt, ?_⟩
  refine optK_intro _ hx5 ?_
  refine in64 (by omega) ?_
  refine ⟨by omega, ?_⟩
  refine in64 (by omega) ?_
  refine ⟨i, rfl, hlt, ?_⟩
  refine optK_intro _ hx6 ?_
  refine in64 (by omega) ?_
  refine ⟨⟨(by repeat (first | exact trivial | refine ⟨rfl, ?_⟩ | refine ⟨⟨i, rfl, hlt, rfl⟩, ?_⟩ | refine ⟨optK_intro (o := List.head? _) _ hx5 rfl, ?_⟩ | refine ⟨optK_intro (o := List.head? _) _ hx6 rfl, ?_⟩ | refine ⟨in64 (by omega) rfl, ?_⟩ | refine ⟨⟨by omega, rfl⟩, ?_⟩)), ?_⟩, trivial⟩
  refine ⟨⟨(by repeat (first | exact trivial | refine ⟨rfl, ?_⟩ | refine ⟨⟨i, rfl, hlt, rfl⟩, ?_⟩ | refine ⟨optK_intro (o := List.head? _) _ hx5 rfl, ?_⟩ | refine ⟨optK_intro (o := List.head? _) _ hx6 rfl, ?_⟩ | refine ⟨in64 (by omega) rfl, ?_⟩ | refine ⟨⟨by omega, rfl⟩, ?_⟩)), ?_⟩, trivial⟩
  rw [hq, hq2]
  have app : ∀ z, z = nearAt g x y d → ∀ v2 st2, App 1 st v2 (rws intC ((dirL.take i).map (nearAt g x y)) ++ [intC z]) st2 → App 1 st v2 (rws intC ((dirL.take (i + 1)).map (nearAt g x y))) st2 := fun z hz v2 st2 h2 => by
    rw [hstep, ← rws_app]
    subst hz
    exact h2
  have out : ¬ onG g (x + d.1) (y + d.2) → nearAt g x y d = -1 := fun hn => by rw [hna, if_neg hn]
  have rest : ∀ {Q : AV → Store → Prop}, (∀ v2 st2, App 1 st v2 (rws intC ((dirL.take (i + 1)).map (nearAt g x y))) st2 → Q v2 st2) → ¬ onG g (x + d.1) (y + d.2) → appendK Tryz.prog (cfg 64) st' 3 (.av v) (.av (.lst 1 [[int (-1)]] none)) Q := fun hQ hn =>
    appendK_app (ie := ti3) (rows' := [intC (-1)]) ha rfl rfl ⟨by simp only [rws_len, List.length_singleton, ti3]; omega, by simp only [rws_len, List.length_singleton]; omega⟩ (fun v2 st2 h2 => hQ v2 st2 (app (-1) (out hn).symm v2 st2 h2))
  have next : ∀ v2 st2, App 1 st v2 (rws intC ((dirL.take (i + 1)).map (nearAt g x y))) st2 → ∃ s : Nat × AV, 8 - s.1 < 8 - i ∧ (s.1 ≤ 8 ∧ App 1 st s.2 (rws intC ((dirL.take s.1).map (nearAt g x y))) st2) ∧ s = (i + 1, v2) := fun v2 st2 h2 => ⟨(i + 1, v2), by dsimp only; omega, ⟨by dsimp only; omega, h2⟩, rfl⟩
  refine bcd (fun c1 => ?_) (fun c1 => ?_)
  · refine ⟨by decide, ?_⟩
    refine rest (fun v2 st2 h2 => ?_) (fun hh => by have := hh.1.1; omega)
    obtain ⟨s, f1, f2, rfl⟩ := next v2 st2 h2
    refine in64 (by omega) ?_
    exact ⟨(i + 1, v2), f1, f2, ⟨LV.le_refl _, LV.le_refl _, LV.le_refl _, LV.le_refl _, LV.le_refl _, LV.le_refl _, trivial⟩, ⟨rfl, rfl, rfl, trivial⟩⟩
  refine bcd (fun c2 => ?_) (fun c2 => ?_)
  · refine ⟨by decide, ?_⟩
    refine rest (fun v2 st2 h2 => ?_) (fun hh => by have := hh.1.2; omega)
    obtain ⟨s, f1, f2, rfl⟩ := next v2 st2 h2
    refine in64 (by omega) ?_
    exact ⟨(i + 1, v2), f1, f2, ⟨LV.le_refl _, LV.le_refl _, LV.le_refl _, LV.le_refl _, LV.le_refl _, LV.le_refl _, trivial⟩, ⟨rfl, rfl, rfl, trivial⟩⟩
  refine bcd (fun c3 => ?_) (fun c3 => ?_)
  · refine ⟨by decide, ?_⟩
    refine rest (fun v2 st2 h2 => ?_) (fun hh => by have := hh.2.1; omega)
    obtain ⟨s, f1, f2, rfl⟩ := next v2 st2 h2
    refine in64 (by omega) ?_
    exact ⟨(i + 1, v2), f1, f2, ⟨LV.le_refl _, LV.le_refl _, LV.le_refl _, LV.le_refl _, LV.le_refl _, LV.le_refl _, trivial⟩, ⟨rfl, rfl, rfl, trivial⟩⟩
  refine bcd (fun c4 => ?_) (fun c4 => ?_)
  · refine ⟨by decide, ?_⟩
    refine rest (fun v2 st2 h2 => ?_) (fun hh => by have := hh.2.2; omega)
    obtain ⟨s, f1, f2, rfl⟩ := next v2 st2 h2
    refine in64 (by omega) ?_
    exact ⟨(i + 1, v2), f1, f2, ⟨LV.le_refl _, LV.le_refl _, LV.le_refl _, LV.le_refl _, LV.le_refl _, LV.le_refl _, trivial⟩, ⟨rfl, rfl, rfl, trivial⟩⟩
  have hon : onG g (x + d.1) (y + d.2) := ⟨⟨by omega, by omega⟩, by omega, by omega⟩
  obtain ⟨e1, e2, _, _⟩ := tl_facts hg hon
  have hpos : 0 ≤ g.W * (y + d.2) := Int.mul_nonneg (by omega) (by omega)
  refine in64 (by omega) ?_
  refine in64 (by omega) ?_
  refine ⟨by decide, ?_⟩
  refine appendK_app (ie := ti3) (rows' := [intC (x + d.1 + g.W * (y + d.2))]) ha ?_ ?_ ⟨?_, ?_⟩ (fun v2 st2 h2 => ?_)
  · rfl
  · rfl
  · simp only [rws_len, List.length_singleton, ti3]; omega
  · simp only [rws_len, List.length_singleton]; omega
  obtain ⟨s, f1, f2, rfl⟩ := next v2 st2 (app _ (by rw [hna, if_pos hon]) v2 st2 h2)
  refine in64 (by omega) ?_
  exact ⟨(i + 1, v2), f1, f2, ⟨LV.le_refl _, LV.le_refl _, LV.le_refl _, LV.le_refl _, LV.le_refl _, LV.le_refl _, trivial⟩, ⟨rfl, rfl, rfl, trivial⟩⟩
end Go.Proofs
namespace Go.Proofs
open Go Go.V
set_option linter.unusedVariables false
set_option linter.unusedSimpArgs false
def inV (g : Gnd) (o : Nat → Bool) (r : Nat) : AV := lst 1 boolC (blL g.T.length (sqT g o r))
def gS (st : Store) (g : Gnd) (bn bx : Nat) (f : Nat → Int) (nx : Nat → Bool) : Store := (st.setObj bn (.cells (il g.T.length f))).setObj bx (.cells (bl g.T.length nx))
set_option maxHeartbeats 1000000 in
theorem rgrid_spec (g : Gnd) (hg : gndP g) (l : List Bld) (hl : l.length ≤ 1000000000000) (hb : ∀ b ∈ l, bldP b ∧ onP g b) (c : Int) (hc : c = 0 ∨ c = 1 ∨ c = 2) (st : Store) (R : AV → Store → Prop)
    (h : ∀ f, gridQ g (openB g l c) f → R (lst 1 intC (ilL g.T.length f)) st) : ACalls Tryz.prog 177 [.agg (gndC g), lst 6 bldC l, int c] st R := by
  have ha := gnd_area hg
  refine ACalls.of_awp (c := cfg 79) infoOK Tryz.func177 (by rfl) (by rfl) (by rfl) (by rfl) ?_
  refine AWp.seq (AWp.of_vc infoOK ?_)
  refine AWp.seq (AWp.of_vc infoOK ?_)
  refine ropen_spec g hg l hl hb c hc _ _ ?_
  generalize ho : openB g l c = o at *
  have hopV : opV g l c = inV g o 0 := by
    unfold opV inV
    rw [ho, blL_congr fun t ht => (sqT_zero hg o ht).symm]
  refine AWp.seq (AWp.of_vc infoOK ?_)
  refine aeff_make rfl (it := ti36) (ie := ti3) rfl rfl rfl rfl rfl (n := (rws boolC (blL g.T.length (openB g l c))).length) ?_ ?_ (fun bn hfn => ?_)
  · rw [rws_len, blL_len]; show 8 * _ ≤ _; omega
  · rw [rws_len, blL_len]; omega
  rw [rws_len, blL_len, il_zero]
  refine AWp.meetA (σ := Nat → Int) ⟨fun _ => [(8, .av (blV bn g.T.length))], fun _ => [], fun f st' => gridQ g o f ∧ st' = st.setObj bn (.cells (il g.T.length f))⟩ ?_ ?_
  · refine AWp.seq (AWp.of_vc infoOK ?_)
    refine AWp.block ?_
    refine AWp.loopA (σ := Nat × Bool × (Nat → Int)) ⟨fun s => [(3, .bx 3 0), (7, .av (inV g o s.1)), (8, .av (blV bn g.T.length)), (9, .av (V.bool s.2.1))], fun _ => [(3, gndC g)],
      fun s st' => st' = st.setObj bn (.cells (il g.T.length s.2.2)) ∧ gridP g o s.1 0 s.2.2 ∧ s.1 ≤ 64 ∧ (s.2.1 = true → s.1 ≤ 63) ∧ (s.2.1 = false → ∀ t, t < g.T.length → sqT g o s.1 t = false), fun s => 200 - s.1⟩ ?_ ?_
    · refine ⟨(0, true, fun _ => 0), trivial, ⟨rfl, gridP_zero g o, by decide, fun _ => by decide, fun hh => by cases hh⟩, ⟨LV.le_refl _, ?_, LV.le_refl _, LV.le_refl _, trivial⟩, ⟨rfl, trivial⟩⟩
      dsimp only
      rw [← hopV]; exact LV.le_refl _
    rintro ⟨r, left, f⟩ st' ⟨rfl, hgp, hr, hl1, hl2⟩
    dsimp only at hgp hr hl1 hl2 ⊢
    refine AWp.seq (AWp.of_vc infoOK ?_)
    refine bcase_intro (fun c1 => ?_) (fun c1 => ?_)
    rotate_left
    · exact ⟨f, ⟨gridP_end hgp (hl2 c1), rfl⟩, ⟨LV.le_refl _, trivial⟩, trivial⟩
    have hr63 := hl1 c1
    refine AWp.block ?_
    refine AWp.seq (AWp.of_vc infoOK ?_)
    refine AWp.seq (AWp.of_vc infoOK ?_)
    refine aeff_make rfl (it := ti108) (ie := ti4) rfl rfl rfl rfl rfl (n := (rws boolC (blL g.T.length (sqT g o r))).length) ?_ ?_ (fun bx hfx => ?_)
    · rw [rws_len, blL_len]; show 1 * _ ≤ _; omega
    · rw [rws_len, blL_len]; omega
    rw [rws_len, blL_len, bl_zero]
    have hne : bx ≠ bn := fun e => by
      have := hfx.1
      rw [e, setObj_self] at this
      cases this
    refine AWp.meetA (σ := Nat → Int) ⟨fun _ => [(3, .bx 3 0), (8, .av (blV bn g.T.length)), (9, .av (V.bool (leftB g o r g.T.length))), (10, .av (blV bx g.T.length))], fun _ => [(3, gndC g)],
      fun f st' => gridP g o (r + 1) 0 f ∧ st' = gS st g bn bx f (sqT g o (r + 1))⟩ ?_ ?_
    · refine AWp.of_vc infoOK ?_
      refine AWp.loop (σ := Nat × (Nat → Int)) ⟨fun s => [(3, .bx 3 0), (7, .av (inV g o r)), (8, .av (blV bn g.T.length)), (9, .av (V.bool (leftB g o r s.1))), (10, .av (blV bx g.T.length)), (11, .av (int (s.1 : Nat)))], fun _ => [(3, gndC g)],
        fun s st' => s.1 ≤ g.T.length ∧ gridP g o r s.1 s.2 ∧ st' = gS st g bn bx s.2 (nxF g o r s.1 false), fun s => g.T.length - s.1⟩ infoOK ?_ ?_
      · exact ⟨(0, f), trivial, ⟨Nat.zero_le _, hgp, by unfold gS; rw [nxF_zero]⟩, ⟨LV.le_refl _, LV.le_refl _, LV.le_refl _, LV.le_refl _, LV.le_refl _, LV.le_refl _, trivial⟩, ⟨rfl, trivial⟩⟩
      rintro ⟨t, f1⟩ st' ⟨ht, hgp1, rfl⟩
      dsimp only at ht hgp1 ⊢
      refine bcd (fun h1 => ?_) (fun h1 => ?_)
      rotate_left
      · rw [rws_len, blL_len] at h1
        have : t = g.T.length := by omega
        subst this
        refine ⟨f1, ⟨gridP_next hgp1, ?_⟩, ⟨LV.le_refl _, LV.le_refl _, LV.le_refl _, LV.le_refl _, trivial⟩, ⟨rfl, trivial⟩⟩
        unfold gS
        rw [bl_congr (nxF_end g o r g.T.length)]
      rw [rws_len, blL_len] at h1
      have hlt : t < g.T.length := by omega
      have hlt2 : t < (blL g.T.length (sqT g o r)).length := by rw [blL_len]; exact hlt
      have hsn := sqT_next hg (o := o) (r := r) hlt
      have hls := leftB_succ g o r t
      refine ⟨t, rfl, optK_intro _ (rws_get hlt2) ?_⟩
      rw [blL_get hlt]
      refine bcnot ?_
      refine bcase_intro (fun c2 => ?_) (fun c2 => ?_)
      rotate_left
      · rw [c2, Bool.false_and] at hsn
        refine in64 (by omega) ?_
        refine ⟨(t + 1, f1), ?_, ⟨by dsimp only; omega, gridP_no hgp1 c2, ?_⟩, ⟨LV.le_refl _, LV.le_refl _, LV.le_refl _, ?_, LV.le_refl _, LV.le_refl _, trivial⟩, ⟨rfl, trivial⟩⟩
        · show g.T.length - (t + 1) < g.T.length - t
          omega
        · show gS st g bn bx f1 (nxF g o r t false) = gS st g bn bx f1 (nxF g o r (t + 1) false)
          rw [← nxF_step, hsn]
        · show LV.le (.av (V.bool (leftB g o r t))) (.av (V.bool (leftB g o r (t + 1))))
          rw [hls, hsn, Bool.or_false]; exact LV.le_refl _
      rw [c2, Bool.true_and] at hsn
      have hgp2 := gridP_yes hgp1 hlt c2
      have hfb := gridP_b hgp1 hlt
      have hon : (gS st g bn bx f1 (nxF g o r t false)).obj bn = some (.cells (il g.T.length f1)) := (setObj_ne (Ne.symm hne)).trans (setObj_self _ _ _)
      refine ⟨t, rfl, hlt, ?_⟩
      refine optK_intro _ hon (optK_intro _ (il_head hlt) ?_)
      refine in64 (by omega) ?_
      refine ⟨t, rfl, hlt, ?_⟩
      refine storeK_objE (i := ti3) (v := int (f1 t + 1)) (b := bn) (o := 0 + t * 1) (l := il g.T.length f1) (st2 := gS st g bn bx (setI f1 t (f1 t + 1)) (nxF g o r t false)) rfl rfl rfl hon (by rw [il_len]; omega) ?_ ?_
      · unfold gS
        rw [setObj_comm (Ne.symm hne), setObj_setObj, show 0 + t * 1 = t by omega, il_set hlt]
      generalize setI f1 t (f1 t + 1) = f2 at *
      have hx : ∀ v, (gS st g bn bx f2 (nxF g o r t v)).obj bx = some (.cells (bl g.T.length (nxF g o r t v))) := fun v => setObj_self _ _ _
      have hst : ∀ v u, (gS st g bn bx f2 (nxF g o r t v)).setObj bx (.cells (splice (bl g.T.length (nxF g o r t v)) (0 + t * 1) [V.bool u])) = gS st g bn bx f2 (nxF g o r t u) := fun v u => by
        have := bl_set (f := nxF g o r t v) hlt (nxF g o r t u) (fun s hs => nxF_ne g o r t u v hs)
        rw [nxF_self] at this
        unfold gS
        rw [setObj_setObj, show 0 + t * 1 = t by omega, this]
      refine ⟨t, rfl, hlt, ?_⟩
      refine storeK_objE (i := ti4) (v := V.bool true) (b := bx) (o := 0 + t * 1) (l := bl g.T.length (nxF g o r t false)) (st2 := gS st g bn bx f2 (nxF g o r t true)) rfl rfl rfl (hx _) (by rw [bl_len]; omega) (hst _ _) ?_
      refine rnear_spec g hg t hlt _ _ ?_
      have hnb : ∀ i, (hi : i < (nearL g t).length) → (nearL g t)[i] = -1 ∨ ∃ m : Nat, (nearL g t)[i] = m ∧ m < g.T.length := fun i hi => nearL_mem hg (List.getElem_mem hi)
      have hn8 := nearL_len g t
      generalize hN : nearL g t = N at *
      refine AWp.loop (σ := Nat) ⟨fun i => [(3, .bx 3 0), (7, .av (inV g o r)), (8, .av (blV bn g.T.length)), (9, .av (V.bool (leftB g o r t))), (10, .av (blV bx g.T.length)), (11, .av (int (t : Nat))), (12, .av (ints N)), (13, .av (int (i : Nat)))], fun _ => [(3, gndC g)],
        fun i st' => i ≤ 8 ∧ st' = gS st g bn bx f2 (nxF g o r t ((N.take i).all (okB g o r))), fun i => 8 - i⟩ infoOK ?_ ?_
      · exact ⟨0, trivial, ⟨Nat.zero_le _, by rw [List.take_zero]; rfl⟩, ⟨LV.le_refl _, LV.le_refl _, LV.le_refl _, LV.le_refl _, LV.le_refl _, LV.le_refl _, LV.le_refl _, LV.le_refl _, trivial⟩, ⟨rfl, trivial⟩⟩
      rintro i st' ⟨hi, rfl⟩
      refine bcd (fun h2 => ?_) (fun h2 => ?_)
      rotate_left
      · have : i = 8 := by omega
        subst this
        have htk : N.take 8 = N := by rw [← hn8, List.take_length]
        rw [htk, ← hsn]
        have fin : ∀ b9 : AV, b9 = V.bool (leftB g o r (t + 1)) → LV.le (.av b9) (.av (V.bool (leftB g o r (t + 1)))) := fun b9 e => by rw [e]; exact LV.le_refl _
        have eS : gS st g bn bx f2 (nxF g o r t (sqT g o (r + 1) t)) = gS st g bn bx f2 (nxF g o r (t + 1) false) := by rw [nxF_step]
        have hx9 := hx (sqT g o (r + 1) t)
        have hdec : g.T.length - (t + 1) < g.T.length - t := by omega
        refine bcase_intro (fun c3 => ?_) (fun c3 => ?_)
        · refine in64 (by omega) ?_
          exact ⟨(t + 1, f2), hdec, ⟨by dsimp only; omega, hgp2, eS⟩, ⟨LV.le_refl _, LV.le_refl _, LV.le_refl _, fin _ (by rw [hls, c3, Bool.true_or]; rfl), LV.le_refl _, LV.le_refl _, trivial⟩, ⟨rfl, trivial⟩⟩
        · refine ⟨t, rfl, hlt, ?_⟩
          refine optK_intro _ hx9 (optK_intro _ (bl_head hlt) ?_)
          refine in64 (by omega) ?_
          exact ⟨(t + 1, f2), hdec, ⟨by dsimp only; omega, hgp2, eS⟩, ⟨LV.le_refl _, LV.le_refl _, LV.le_refl _, fin _ (by rw [hls, c3, Bool.false_or, nxF_self]), LV.le_refl _, LV.le_refl _, trivial⟩, ⟨rfl, trivial⟩⟩
      have hi8 : i < N.length := by omega
      have hal : (N.take (i + 1)).all (okB g o r) = ((N.take i).all (okB g o r) && okB g o r N[i]) := by
        rw [List.take_succ_eq_append_getElem hi8, List.all_append]
        simp
      have hx9 := hx ((N.take i).all (okB g o r))
      have hst9 := hst ((N.take i).all (okB g o r)) false
      have hdec : 8 - (i + 1) < 8 - i := by omega
      refine ⟨i, rfl, optK_intro _ (rws_get hi8) ?_⟩
      refine bcd (fun c3 => ?_) (fun c3 => ?_)
      · have hok : okB g o r N[i] = false := by
          unfold okB
          rw [decide_eq_false (by omega), Bool.false_and]
        rw [hok, Bool.and_false] at hal
        refine ⟨t, rfl, hlt, ?_⟩
        refine storeK_objE (i := ti4) (v := V.bool false) (b := bx) (o := 0 + t * 1) (l := _) (st2 := gS st g bn bx f2 (nxF g o r t false)) rfl rfl rfl hx9 (by rw [bl_len]; omega) hst9 ?_
        refine in64 (by omega) ?_
        exact ⟨i + 1, hdec, ⟨by omega, by rw [hal]⟩, ⟨LV.le_refl _, LV.le_refl _, LV.le_refl _, LV.le_refl _, LV.le_refl _, LV.le_refl _, LV.le_refl _, LV.le_refl _, trivial⟩, ⟨rfl, trivial⟩⟩
      rcases hnb i hi8 with q | ⟨m, q1, q2⟩
      · omega
      have hm2 : m < (blL g.T.length (sqT g o r)).length := by rw [blL_len]; exact q2
      have hok : okB g o r N[i] = sqT g o r m := by
        unfold okB
        rw [decide_eq_true (by omega), Bool.true_and, q1, Int.toNat_natCast]
      refine ⟨i, rfl, optK_intro _ (rws_get hi8) ?_⟩
      refine ⟨m, q1, optK_intro _ (rws_get hm2) ?_⟩
      rw [blL_get q2]
      refine bcnot ?_
      refine bcase_intro (fun c4 => ?_) (fun c4 => ?_)
      · rw [hok, c4, Bool.and_true] at hal
        refine in64 (by omega) ?_
        exact ⟨i + 1, hdec, ⟨by omega, by rw [hal]⟩, ⟨LV.le_refl _, LV.le_refl _, LV.le_refl _, LV.le_refl _, LV.le_refl _, LV.le_refl _, LV.le_refl _, LV.le_refl _, trivial⟩, ⟨rfl, trivial⟩⟩
      · rw [hok, c4, Bool.and_false] at hal
        refine ⟨t, rfl, hlt, ?_⟩
        refine storeK_objE (i := ti4) (v := V.bool false) (b := bx) (o := 0 + t * 1) (l := _) (st2 := gS st g bn bx f2 (nxF g o r t false)) rfl rfl rfl hx9 (by rw [bl_len]; omega) hst9 ?_
        refine in64 (by omega) ?_
        exact ⟨i + 1, hdec, ⟨by omega, by rw [hal]⟩, ⟨LV.le_refl _, LV.le_refl _, LV.le_refl _, LV.le_refl _, LV.le_refl _, LV.le_refl _, LV.le_refl _, LV.le_refl _, trivial⟩, ⟨rfl, trivial⟩⟩
    · rintro f3 _ ⟨hq, rfl⟩
      have hb3 := hq
      have hfb : (st.setObj bn (.cells (il g.T.length f3))).obj bx = none := by rw [setObj_ne hne]; have := hfx.1; rwa [setObj_ne hne] at this
      refine AWp.freeze (d := 10) (b := bx) (k := 1) (n := g.T.length) (cap := g.T.length) (rows := rws boolC (blL g.T.length (sqT g o (r + 1)))) (pad := []) rfl ?_ ?_ ?_ (Nat.le_refl _) ?_ ?_ ?_
      · rw [openFn_flat]; exact setObj_self _ _ _
      · exact hfx.2
      · rw [rws_len, blL_len]
      · intro row hr
        obtain ⟨x, _, rfl⟩ := List.mem_map.1 hr
        rfl
      · intro row hr y hy
        obtain ⟨x, _, rfl⟩ := List.mem_map.1 hr
        simp [boolC] at hy
        exact ⟨_, hy, rfl⟩
      unfold gS
      rw [delObj_back hfb]
      refine AWp.of_vc infoOK ?_
      refine ⟨(r + 1, leftB g o r g.T.length, f3), ?_, ⟨rfl, hq, by dsimp only; omega, fun hh => ?_, fun hh => ?_⟩, ⟨LV.le_refl _, LV.le_refl _, LV.le_refl _, LV.le_refl _, trivial⟩, ⟨rfl, trivial⟩⟩
      · show 200 - (r + 1) < 200 - r
        omega
      · dsimp only at hh ⊢
        unfold leftB at hh
        obtain ⟨t, _, ht2⟩ := List.any_eq_true.1 hh
        exact sqT_r hg ht2
      · dsimp only at hh ⊢
        unfold leftB at hh
        rw [List.any_eq_false] at hh
        intro t ht
        exact Bool.eq_false_iff.2 (hh t (List.mem_range.2 ht))
  · rintro f _ ⟨hq, rfl⟩
    refine AWp.freeze (d := 8) (b := bn) (k := 1) (n := g.T.length) (cap := g.T.length) (rows := rws intC (ilL g.T.length f)) (pad := []) rfl ?_ ?_ ?_ (Nat.le_refl _) ?_ ?_ ?_
    · rw [List.append_nil, il_flat]; exact setObj_self _ _ _
    · exact hfn.2
    · rw [rws_len, ilL_len]
    · intro row hr
      obtain ⟨x, _, rfl⟩ := List.mem_map.1 hr
      rfl
    · intro row hr y hy
      obtain ⟨x, _, rfl⟩ := List.mem_map.1 hr
      simp [intC] at hy
      exact ⟨_, hy, rfl⟩
    rw [delObj_back hfn.1]
    refine AWp.of_vc infoOK ?_
    exact ret (h f hq)
theorem rgood_spec (g : Gnd) (hg : gndP g) (l : List Bld) (hl : l.length ≤ 1000000000000) (hb : ∀ b ∈ l, bldP b ∧ onP g b) (c : Int) (hc : c = 0 ∨ c = 1 ∨ c = 2) (s : Int) (hs : 0 ≤ s) (st : Store) (R : AV → Store → Prop) (h : R (goodV g l c s) st) :
    ACalls Tryz.prog 128 [.agg (gndC g), lst 6 bldC l, int c, int s] st R := by
  have ha := gnd_area hg
  refine ACalls.of_awp (c := cfg 35) infoOK Tryz.func128 (by rfl) (by rfl) (by rfl) (by rfl) ?_
  refine AWp.seq (AWp.of_vc infoOK ?_)
  refine AWp.seq (AWp.of_vc infoOK ?_)
  refine rgrid_spec g hg l hl hb c hc _ _ (fun f hq => ?_)
  refine AWp.seq (AWp.of_vc infoOK ?_)
  refine aeff_make rfl (it := ti108) (ie := ti4) rfl rfl rfl rfl rfl (n := (rws intC (ilL g.T.length f)).length) ?_ ?_ (fun b hf => ?_)
  · rw [rws_len, ilL_len]; show 1 * _ ≤ _; omega
  · rw [rws_len, ilL_len]; omega
  rw [rws_len, ilL_len, bl_zero]
  refine AWp.meetA (σ := Unit) ⟨fun _ => [(10, .av (blV b g.T.length))], fun _ => [], fun _ st' => st' = st.setObj b (.cells (bl g.T.length (goodB g l c s)))⟩ ?_ ?_
  · refine AWp.of_vc infoOK ?_
    refine AWp.loop (σ := Nat) ⟨fun i => [(3, .av (int s)), (9, .av (lst 1 intC (ilL g.T.length f))), (10, .av (blV b g.T.length)), (11, .av (int (i : Nat)))], fun _ => [],
      fun i st' => i ≤ g.T.length ∧ st' = st.setObj b (.cells (bl g.T.length (fitTo g l c s i))), fun i => g.T.length - i⟩ infoOK ?_ ?_
    · refine ⟨0, trivial, ⟨Nat.zero_le _, ?_⟩, ⟨LV.le_refl _, LV.le_refl _, LV.le_refl _, LV.le_refl _, trivial⟩, trivial⟩
      rw [show fitTo g l c s 0 = fun _ => false from funext fun t => if_neg (Nat.not_lt_zero t)]
    rintro i st' ⟨hi, rfl⟩
    refine bcd (fun h1 => ?_) (fun h1 => ?_)
    rotate_left
    · rw [rws_len, ilL_len] at h1
      have : i = g.T.length := by omega
      subst this
      refine ⟨(), ?_, ⟨LV.le_refl _, trivial⟩, trivial⟩
      show st.setObj b (.cells (bl g.T.length (fitTo g l c s g.T.length))) = st.setObj b (.cells (bl g.T.length (goodB g l c s)))
      rw [bl_congr (f := fitTo g l c s g.T.length) (g := goodB g l c s) fun t ht => if_pos ht]
    rw [rws_len, ilL_len] at h1
    have hlt : i < g.T.length := by omega
    have ho : (st.setObj b (.cells (bl g.T.length (fitTo g l c s i)))).obj b = some (.cells (bl g.T.length (fitTo g l c s i))) := setObj_self _ _ _
    have hlt2 : i < (ilL g.T.length f).length := by rw [ilL_len]; exact hlt
    have s2 : ∀ q, q ≠ i → fitTo g l c s (i + 1) q = fitTo g l c s i q := fun q hq => by
      unfold fitTo
      by_cases h3 : q < i
      · rw [if_pos h3, if_pos (by omega)]
      · rw [if_neg h3, if_neg (by omega)]
    have s1 : fitTo g l c s (i + 1) i = goodB g l c s i := if_pos (by omega)
    refine ⟨i, rfl, optK_intro _ (rws_get hlt2) ?_⟩
    refine ⟨i, rfl, hlt, ?_⟩
    refine storeK_objE (i := ti4) (v := V.bool (decide (s < (ilL g.T.length f)[i]))) (b := b) (o := 0 + i * 1) (l := _) (st2 := st.setObj b (.cells (bl g.T.length (fitTo g l c s (i + 1))))) rfl rfl rfl ho (by rw [bl_len]; omega) ?_ ?_
    · rw [setObj_setObj, show 0 + i * 1 = i by omega, ← bl_set hlt _ s2, s1, ilL_get hlt, gridQ_good hq hs hlt]
    refine in64 (by omega) ?_
    refine ⟨i + 1, ?_, ⟨by omega, rfl⟩, ⟨LV.le_refl _, LV.le_refl _, LV.le_refl _, LV.le_refl _, trivial⟩, trivial⟩
    show g.T.length - (i + 1) < g.T.length - i
    omega
  rintro _ _ rfl
  refine AWp.freeze (d := 10) (b := b) (k := 1) (n := g.T.length) (cap := g.T.length) (rows := rws boolC (blL g.T.length (goodB g l c s))) (pad := []) rfl ?_ ?_ ?_ (Nat.le_refl _) ?_ ?_ ?_
  · rw [openFn_flat]; exact setObj_self _ _ _
  · exact hf.2
  · rw [rws_len, blL_len]
  · intro row hr
    obtain ⟨x, _, rfl⟩ := List.mem_map.1 hr
    rfl
  · intro row hr y hy
    obtain ⟨x, _, rfl⟩ := List.mem_map.1 hr
    simp [boolC] at hy
    exact ⟨_, hy, rfl⟩
  rw [delObj_back hf.1]
  refine AWp.of_vc infoOK ?_
  exact ret h
end Go.Proofs
namespace Go.Proofs
open Go Go.V
set_option linter.unusedVariables false
set_option linter.unusedSimpArgs false
theorem max4_eq (i j : Int) : max2 (max2 (max2 i (0 - i)) j) (0 - j) = absM i j := by
  have e : ∀ a b : Int, max2 a b = max a b := fun a b => by
    unfold max2
    by_cases h : b > a
    · rw [decide_eq_true h]; show b = _; omega
    · rw [decide_eq_false h]; show a = _; omega
  rw [e, e, e]
  unfold absM
  omega
theorem ringTo_len (g : Gnd) (x y k d j i : Int) : (ringTo g x y k d j i).length ≤ g.T.length := by
  have := List.length_filter_le (fun t => ringB g x y k d t && beforeB g x y j i t) (List.range g.T.length)
  rw [List.length_range] at this
  exact this
theorem natI_len (l : List Nat) : (natI l).length = l.length := List.length_map ..
set_option maxHeartbeats 1000000 in
theorem ring_spec (g : Gnd) (hg : gndP g) (t : Nat) (ht : t < g.T.length) (d k : Int) (hd : 0 ≤ d ∧ d ≤ 300) (hk : 1 ≤ k ∧ k ≤ 7) (st : Store) (R : AV → Store → Prop) (h : R (ints (natI (ringL g ((t : Int) % g.W) ((t : Int) / g.W) k d))) st) :
    ACalls Tryz.prog 221 [.agg (gndC g), int t, int d, int k] st R := by
  have hm := gnd_area hg
  have htb := tile_b hg (t := t) (by omega)
  have hq := trem (t := t) hg.1.1
  have hq2 := tquo (t := t) hg.1.1
  have hg1 := hg.1
  have hg2 := hg.2.1
  generalize (t : Int) % g.W = x at *
  generalize (t : Int) / g.W = y at *
  refine ACalls.of_body (c := cfg 80) infoOK Tryz.func221 (by rfl) (by rfl) (by rfl) (by rfl) ?_
  refine ADraw.of_sched infoOK (by rfl) (by rfl) sch221_1 (by rfl) ?_
  refine ⟨by omega, ?_⟩
  refine ⟨by omega, ?_⟩
  refine in64 (by omega) ?_
  refine ⟨⟨(by repeat (first | exact trivial | refine ⟨rfl, ?_⟩ | refine ⟨optR (optR (optR (optK_intro _ (setObj_self _ _ _) rfl))), ?_⟩)), ?_⟩, trivial⟩
  refine ⟨⟨trivial, ?_⟩, trivial⟩
  refine in64 (by omega) ?_
  refine AWp.loop (σ := Nat × AV) ⟨fun s => [(2, .av (int d)), (3, .av (int k)), (4, .bx 4 0), (8, .av s.2), (9, .av (int x)), (10, .av (int y)), (11, .av (int ((s.1 : Nat) - d)))], fun _ => [(4, gndC g)],
    fun s st' => (s.1 : Int) ≤ 2 * d + 1 ∧ App 1 st s.2 (rws intC (natI (ringTo g x y k d ((s.1 : Nat) - d) (-d)))) st', fun s => 700 - s.1⟩ infoOK ?_ ?_
  · refine ⟨(0, _), trivial, ⟨by dsimp only; omega, ?_⟩, ⟨LV.le_refl _, LV.le_refl _, LV.le_refl _, LV.le_refl _, ?_, ?_, ?_, trivial⟩, ⟨rfl, trivial⟩⟩
    · dsimp only
      rw [show ((0 : Nat) : Int) - d = -d by omega, ringTo_start]
      exact App.start 1 st
    · rw [← hq]; exact LV.le_refl _
    · rw [← hq2]; exact LV.le_refl _
    · dsimp only
      rw [show ((0 : Nat) : Int) - d = 0 - d by omega]; exact LV.le_refl _
  rintro ⟨a, v⟩ st' ⟨ha, hap⟩
  dsimp only at ha hap ⊢
  refine bcd (fun h1 => ?_) (fun h1 => ?_)
  rotate_left
  · rw [show (a : Int) - d = d + 1 by omega, ringTo_end] at hap
    exact ⟨_, st, AV.le_trans hap.le (AV.le_refl _), hap.has, h⟩
  refine in64 (by omega) ?_
  have hj : ∃ j : Int, (a : Int) - d = j := ⟨_, rfl⟩
  obtain ⟨j, hj⟩ := hj
  rw [hj] at hap h1 ⊢
  refine AWp.loop (σ := Nat × AV) ⟨fun s => [(2, .av (int d)), (3, .av (int k)), (4, .bx 4 0), (8, .av s.2), (9, .av (int x)), (10, .av (int y)), (11, .av (int j)), (12, .av (int ((s.1 : Nat) - d)))], fun _ => [(4, gndC g)],
    fun s st' => (s.1 : Int) ≤ 2 * d + 1 ∧ App 1 st s.2 (rws intC (natI (ringTo g x y k d j ((s.1 : Nat) - d)))) st', fun s => 700 - s.1⟩ infoOK ?_ ?_
  · refine ⟨(0, v), trivial, ⟨by dsimp only; omega, ?_⟩, ⟨LV.le_refl _, LV.le_refl _, LV.le_refl _, LV.le_refl _, LV.le_refl _, LV.le_refl _, LV.le_refl _, ?_, trivial⟩, ⟨rfl, trivial⟩⟩
    · dsimp only
      rw [show ((0 : Nat) : Int) - d = -d by omega]
      exact hap
    · dsimp only
      rw [show ((0 : Nat) : Int) - d = 0 - d by omega]; exact LV.le_refl _
  rintro ⟨b, v2⟩ st2 ⟨hb, hap2⟩
  dsimp only at hb hap2 ⊢
  have hi : ∃ i : Int, (b : Int) - d = i := ⟨_, rfl⟩
  obtain ⟨i, hi⟩ := hi
  rw [hi] at hap2 ⊢
  refine bcd (fun h2 => ?_) (fun h2 => ?_)
  rotate_left
  · rw [show i = d + 1 by omega, ringTo_row] at hap2
    refine in64 (by omega) ?_
    refine ⟨(a + 1, v2), ?_, ⟨by dsimp only; omega, ?_⟩, ⟨LV.le_refl _, LV.le_refl _, LV.le_refl _, LV.le_refl _, LV.le_refl _, LV.le_refl _, ?_, trivial⟩, ⟨rfl, trivial⟩⟩
    · show 700 - (a + 1) < 700 - a
      omega
    · dsimp only
      rw [show ((a + 1 : Nat) : Int) - d = j + 1 by omega]
      exact hap2
    · dsimp only
      rw [show ((a + 1 : Nat) : Int) - d = j + 1 by omega]; exact LV.le_refl _
  have next : ∀ v3 st3, App 1 st v3 (rws intC (natI (ringTo g x y k d j (i + 1)))) st3 → ∃ s : Nat × AV, 700 - s.1 < 700 - b ∧ ((s.1 : Int) ≤ 2 * d + 1 ∧ App 1 st s.2 (rws intC (natI (ringTo g x y k d j ((s.1 : Nat) - d)))) st3) ∧ s = (b + 1, v3) ∧ ((s.1 : Nat) : Int) - d = i + 1 := fun v3 st3 h3 =>
    ⟨(b + 1, v3), by dsimp only; omega, ⟨by dsimp only; omega, by dsimp only; rw [show ((b + 1 : Nat) : Int) - d = i + 1 by omega]; exact h3⟩, rfl, by dsimp only; omega⟩
  have no : ¬ (absM i j = d ∧ i.tmod k = 0 ∧ j.tmod k = 0 ∧ onG g (x + i) (y + j)) → App 1 st v2 (rws intC (natI (ringTo g x y k d j (i + 1)))) st2 := fun hn => by
    rw [ringTo_no hg hn]; exact hap2
  refine in64 (by omega) ?_
  refine in64 (by omega) ?_
  refine bceq (fun c1 => ?_) (fun c1 => ?_)
  rotate_left
  · have c1 : ¬ absM i j = d := fun e => c1 ((max4_eq i j).trans e)
    obtain ⟨s, f1, f2, rfl, f3⟩ := next v2 st2 (no fun hh => c1 hh.1)
    refine in64 (by omega) ?_
    exact ⟨(b + 1, v2), f1, f2, ⟨LV.le_refl _, LV.le_refl _, LV.le_refl _, LV.le_refl _, LV.le_refl _, LV.le_refl _, LV.le_refl _, by dsimp only at f3 ⊢; rw [f3]; exact LV.le_refl _, trivial⟩, ⟨rfl, trivial⟩⟩
  have c1 : absM i j = d := (max4_eq i j).symm.trans c1
  refine ⟨by omega, ?_⟩
  refine bceq (fun c2 => ?_) (fun c2 => ?_)
  rotate_left
  · obtain ⟨s, f1, f2, rfl, f3⟩ := next v2 st2 (no fun hh => c2 hh.2.1)
    refine in64 (by omega) ?_
    exact ⟨(b + 1, v2), f1, f2, ⟨LV.le_refl _, LV.le_refl _, LV.le_refl _, LV.le_refl _, LV.le_refl _, LV.le_refl _, LV.le_refl _, by dsimp only at f3 ⊢; rw [f3]; exact LV.le_refl _, trivial⟩, ⟨rfl, trivial⟩⟩
  refine ⟨by omega, ?_⟩
  refine bceq (fun c3 => ?_) (fun c3 => ?_)
  rotate_left
  · obtain ⟨s, f1, f2, rfl, f3⟩ := next v2 st2 (no fun hh => c3 hh.2.2.1)
    refine in64 (by omega) ?_
    exact ⟨(b + 1, v2), f1, f2, ⟨LV.le_refl _, LV.le_refl _, LV.le_refl _, LV.le_refl _, LV.le_refl _, LV.le_refl _, LV.le_refl _, by dsimp only at f3 ⊢; rw [f3]; exact LV.le_refl _, trivial⟩, ⟨rfl, trivial⟩⟩
  refine in64 (by omega) ?_
  refine in64 (by omega) ?_
  refine on_spec g (x + i) (y + j) _ _ (fun z hz => ?_)
  refine bcase_intro (fun c4 => ?_) (fun c4 => ?_)
  rotate_left
  · obtain ⟨s, f1, f2, rfl, f3⟩ := next v2 st2 (no fun hh => by have := hz.2 hh.2.2.2; rw [this] at c4; cases c4)
    refine in64 (by omega) ?_
    exact ⟨(b + 1, v2), f1, f2, ⟨LV.le_refl _, LV.le_refl _, LV.le_refl _, LV.le_refl _, LV.le_refl _, LV.le_refl _, LV.le_refl _, by dsimp only at f3 ⊢; rw [f3]; exact LV.le_refl _, trivial⟩, ⟨rfl, trivial⟩⟩
  have hon := hz.1 c4
  obtain ⟨e1, e2, _, _⟩ := tl_facts hg hon
  have hon2 := hon
  unfold onG at hon2
  have hpos : 0 ≤ g.W * (y + j) := Int.mul_nonneg (by omega) (by omega)
  have hrl := ringTo_len g x y k d j i
  refine in64 (by omega) ?_
  refine in64 (by omega) ?_
  refine in64 (by omega) ?_
  refine in64 (by omega) ?_
  refine ⟨by decide, ?_⟩
  refine appendK_app (ie := ti3) (rows' := [intC (x + i + g.W * (y + j))]) hap2 ?_ ?_ ⟨?_, ?_⟩ (fun v3 st3 h3 => ?_)
  · rfl
  · rfl
  · simp only [rws_len, natI_len, List.length_singleton, ti3]; omega
  · simp only [rws_len, natI_len, List.length_singleton]; omega
  obtain ⟨s, f1, f2, rfl, f3⟩ := next v3 st3 (by
    rw [ringTo_yes hg hon c1 c2 c3, natI_app, ← rws_app, show natI [tl g (x + i) (y + j)] = [x + i + g.W * (y + j)] by unfold natI; rw [List.map_cons, e1]; rfl]
    exact h3)
  refine in64 (by omega) ?_
  exact ⟨(b + 1, v3), f1, f2, ⟨LV.le_refl _, LV.le_refl _, LV.le_refl _, LV.le_refl _, LV.le_refl _, LV.le_refl _, LV.le_refl _, by dsimp only at f3 ⊢; rw [f3]; exact LV.le_refl _, trivial⟩, ⟨rfl, trivial⟩⟩
end Go.Proofs
