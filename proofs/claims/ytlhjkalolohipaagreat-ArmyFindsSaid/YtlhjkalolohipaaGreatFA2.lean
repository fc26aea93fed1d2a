/- The ground on which laws of thronglaw21 are proved: contracts of functions and plain lemmas; no condition beyond the row's own. -/
import Derived.Test.YtlhjkalolohipaaGreatRows
import Derived.Test.YtlhjkalolohipaaGreatSH
import Derived.Test.YtlhjkalolohipaaGreatSG
namespace Go.Proofs
open Go Go.V
set_option linter.unusedVariables false

def findE (z : Bool) (w : Wld) (id : Int) : Int × Unt × List Int :=
  if z then (match findU w.U id with | none => (3, unt0, []) | some i => (0, w.U.getD i unt0, inOf w.U id)) else (1, unt0, [])

theorem inOf_len (l : List Unt) (id : Int) : (inOf l id).length ≤ l.length := by
  unfold inOf; rw [List.length_map]; exact List.length_filter_le _ _
theorem findE_len (z : Bool) (w : Wld) (id : Int) : (findE z w id).2.2.length ≤ w.U.length := by
  unfold findE
  split
  · split
    · exact Nat.zero_le _
    · exact inOf_len _ _
  · exact Nat.zero_le _

theorem afindE_spec (w : Wld) (hw : w.fits) (hn : ∀ u ∈ w.U, u.pos.ok) {z : Bool} (hz : z = true ↔ mayP w) {id : Int} {e : Int × Unt × List Int} (he : findE z w id = e) (st : Store) (R : AV → Store → Prop)
    (h : R (.tup [.agg (untC e.2.1), int e.1]) st) : ACalls Tryz.prog 32 [.agg (wldC w), int id] st R := by
  subst he
  unfold findE at h
  refine afind_spec w hw hn id st R (fun hm => ?_) (fun hm hf => ?_) (fun hm i hi hf => ?_)
  · rw [if_neg fun hh => hm (hz.1 hh)] at h
    exact h
  · rw [if_pos (hz.2 hm), hf] at h
    exact h
  · rw [if_pos (hz.2 hm), hf] at h
    dsimp only at h
    rw [List.getD_eq_getElem?_getD, List.getElem?_eq_getElem hi, Option.getD_some] at h
    exact h

theorem aridersE_spec (w : Wld) (hw : w.fits) (hn : ∀ u ∈ w.U, u.pos.ok) {z : Bool} (hz : z = true ↔ mayP w) {id : Int} {e : Int × Unt × List Int} (he : findE z w id = e) (st : Store) (R : AV → Store → Prop)
    (h : ∀ v N, Ints N v e.2.2 → Disj N st → R (.tup [v, int e.1]) (N.un st)) : ACalls Tryz.prog 27 [.agg (wldC w), int id] st R := by
  subst he
  unfold findE at h
  refine ariders_spec w hw hn id st R (fun hm => ?_) (fun hm hf => ?_) (fun hm i hf v N hv hd => ?_)
  · rw [if_neg fun hh => hm (hz.1 hh)] at h
    have := h _ Store.empty (.inl ⟨rfl, rfl⟩) (disj_emptyL st)
    rw [empty_un] at this
    exact this
  · rw [if_pos (hz.2 hm), hf] at h
    have := h _ Store.empty (.inl ⟨rfl, rfl⟩) (disj_emptyL st)
    rw [empty_un] at this
    exact this
  · rw [if_pos (hz.2 hm), hf] at h
    exact h v N hv hd

theorem rfindU_spec (w : Wld) (hU : w.U.length ≤ 1000000) (id : Int) (st : Store) (R : AV → Store → Prop) (h : R (int (idxI (findU w.U id))) st) : ACalls Tryz.prog 30 [.agg (wldC w), int id] st R := rfind_spec w hU id st R h

set_option maxHeartbeats 1000000 in
theorem armyFinds_law (a : Ask21) (hn : ∀ u ∈ a.W.U, u.pos.ok) (st : Store) (R : AV → Store → Prop) (h : R (V.bool true) st) : ACalls Tryz.prog 8 [.agg (ask21C a)] st R := by
  refine ACalls.of_awp (c := cfg 99) infoOK Tryz.func8 (by rfl) (by rfl) (by rfl) (by rfl) ?_
  refine AWp.seq (AWp.of_vc infoOK ?_)
  refine AWp.seq (AWp.of_vc infoOK ?_)
  refine heavy_spec a _ _ (fun z hz => ?_)
  refine bcase_intro (fun c1 => ret h) (fun c1 => ?_)
  have hnh : ¬ heavyP a := fun hh => by have := hz.2 hh; rw [this] at c1; cases c1
  unfold heavyP greatP at hnh
  have hw : a.W.fits := ⟨by unfold Gnd.fits; omega, by omega, by omega⟩
  have hU : a.W.U.length ≤ 30 := by omega
  have hI : a.I.length ≤ 30 := by omega
  refine AWp.seq (AWp.of_vc infoOK ?_)
  refine check21_spec a.W hw hn _ _ (fun zc hzc => ?_)
  refine AWp.seq ?_
  refine AWp.seq (AWp.of_vc infoOK ?_)
  refine AWp.block ?_
  refine AWp.loopA (σ := Nat) ⟨fun i => [(1, .bx 1 0), (3, .av (int (codeZ zc))), (4, .av (int (i : Nat)))], fun _ => [(1, ask21C a)], fun i st' => i ≤ a.I.length ∧ st' = st, fun i => a.I.length - i⟩ ?_ ?_
  · exact ⟨0, trivial, ⟨Nat.zero_le _, rfl⟩, ⟨LV.le_refl _, LV.le_refl _, LV.le_refl _, trivial⟩, ⟨rfl, trivial⟩⟩
  rintro i st' ⟨hi, rfl⟩
  refine AWp.seq (AWp.of_vc infoOK ?_)
  refine bcase_intro (fun h1 => ?_) (fun h1 => ?_)
  rotate_left
  · refine AWp.of_vc infoOK ?_
    exact awakes_spec _ _ (ret h)
  have hlt : i < a.I.length := lt_len h1
  have hel := findE_len zc a.W a.I[i]
  generalize he : findE zc a.W a.I[i] = e at hel
  have hun := he
  unfold findE at hun
  refine AWp.seq (AWp.block (AWp.seq (AWp.of_vc infoOK ?_)))
  refine AWp.meetA (σ := Unit) ⟨fun _ => [(1, .bx 1 0), (3, .av (int (codeZ zc))), (4, .av (int (i : Nat))), (5, .av (int e.1)), (6, .bx 6 0), (7, .av (ints e.2.2))], fun _ => [(1, ask21C a), (6, untC e.2.1)], fun _ s => s = st'⟩ ?_ ?_
  · refine AWp.of_vc infoOK ?_
    refine bceq (fun c2 => ?_) (fun c2 => ?_)
    rotate_left
    · have : zc = false := by cases zc with
        | false => rfl
        | true => exact absurd rfl c2
      subst this
      rw [if_neg (by decide)] at hun
      subst hun
      exact ⟨(), rfl, ⟨LV.le_refl _, LV.le_refl _, LV.le_refl _, LV.le_refl _, LV.le_refl _, LV.le_av (AV.le_nil 1), trivial⟩, ⟨rfl, rfl, trivial⟩⟩
    have hzt : zc = true := by cases zc with
        | false => cases c2
        | true => rfl
    subst hzt
    rw [if_pos rfl] at hun
    refine ADraw.of_sched infoOK (by rfl) (by rfl) sch8_9 (by rfl) ?_
    refine ⟨i, rfl, optK_intro _ (rws_get hlt) ?_⟩
    refine ⟨rfindU_spec a.W (by omega) a.I[i] _ _ ⟨trivial, ?_⟩, trivial⟩
    refine ⟨⟨trivial, ?_⟩, trivial⟩
    refine bcd (fun c3 => ?_) (fun c3 => ?_)
    rotate_left
    · cases hf : findU a.W.U a.I[i] with
      | some k => rw [hf] at c3; exact absurd (Int.natCast_nonneg k) c3
      | none =>
        rw [hf] at hun
        subst hun
        exact ⟨(), rfl, ⟨LV.le_refl _, LV.le_refl _, LV.le_refl _, LV.le_refl _, LV.le_refl _, LV.le_av (AV.le_nil 1), trivial⟩, ⟨rfl, rfl, trivial⟩⟩
    cases hf : findU a.W.U a.I[i] with
    | none => rw [hf] at c3; exact absurd c3 (by decide)
    | some k =>
      obtain ⟨hk, _⟩ := findU_some hf
      rw [hf] at hun
      dsimp only at hun
      rw [List.getD_eq_getElem?_getD, List.getElem?_eq_getElem hk, Option.getD_some] at hun
      subst hun
      refine ADraw.of_sched infoOK (by rfl) (by rfl) sch8_12 (by rfl) ?_
      refine ⟨k, rfl, optK_intro _ (rws_get hk) ?_⟩
      refine ⟨i, rfl, optK_intro _ (rws_get hlt) ?_⟩
      refine ⟨rriders_spec a.W (by omega) a.I[i] _ _ ⟨?_, ?_⟩, trivial⟩
      · repeat (first | exact trivial | refine ⟨rfl, ?_⟩ | refine ⟨⟨k, rfl, optK_intro _ (rws_get hk) rfl⟩, ?_⟩)
      refine ⟨⟨?_, ?_⟩, trivial⟩
      · repeat (first | exact trivial | refine ⟨rfl, ?_⟩ | refine ⟨⟨k, rfl, optK_intro _ (rws_get hk) rfl⟩, ?_⟩)
      refine ⟨⟨trivial, ?_⟩, trivial⟩
      refine ⟨⟨trivial, ?_⟩, trivial⟩
      exact ⟨(), rfl, ⟨LV.le_refl _, LV.le_refl _, LV.le_refl _, LV.le_refl _, LV.le_refl _, LV.le_refl _, trivial⟩, ⟨rfl, rfl, trivial⟩⟩
  rintro _ st' rfl
  have rest : ∀ (R' : AV → Store → Prop), R' (.tup [.agg (untC e.2.1), int e.1]) st' → ACalls Tryz.prog 32 [.agg (wldC a.W), int a.I[i]] st' R' := fun R' hR => afindE_spec a.W hw hn hzc he st' R' hR
  refine AWp.meetA (σ := Unit) ⟨fun _ => [(1, .bx 1 0), (3, .av (int (codeZ zc))), (4, .av (int (i : Nat))), (5, .av (int e.1)), (6, .bx 6 0), (7, .av (ints e.2.2)), (9, .bx 9 0), (10, .av (int e.1))], fun _ => [(1, ask21C a), (6, untC e.2.1), (9, untC e.2.1)], fun _ s => s = st'⟩ ?_ ?_
  · refine AWp.of_vc infoOK ?_
    have fin : ∀ {A : Fr}, fitsT A [(1, .bx 1 0), (3, .av (int (codeZ zc))), (4, .av (int (i : Nat))), (5, .av (int e.1)), (6, .bx 6 0), (7, .av (ints e.2.2)), (9, .bx 9 0), (10, .av (int e.1))] → fitsB A [(1, ask21C a), (6, untC e.2.1), (9, untC e.2.1)] →
      Meet.at (σ := Unit) ⟨fun _ => [(1, .bx 1 0), (3, .av (int (codeZ zc))), (4, .av (int (i : Nat))), (5, .av (int e.1)), (6, .bx 6 0), (7, .av (ints e.2.2)), (9, .bx 9 0), (10, .av (int e.1))], fun _ => [(1, ask21C a), (6, untC e.2.1), (9, untC e.2.1)], fun _ s => s = st'⟩ A st' := fun h1 h2 => ⟨(), rfl, h1, h2⟩
    refine ADraw.of_sched infoOK (by rfl) (by rfl) sch8_13 (by rfl) ?_
    refine ⟨i, rfl, optK_intro _ (rws_get hlt) ?_⟩
    constructor
    · refine rest _ ⟨trivial, ?_⟩
      refine ⟨⟨?_, ?_⟩, trivial⟩
      · repeat (first | exact trivial | refine ⟨rfl, ?_⟩ | refine ⟨⟨i, rfl, optK_intro _ (rws_get hlt) rfl⟩, ?_⟩)
      refine ⟨⟨trivial, ?_⟩, trivial⟩
      refine ⟨⟨trivial, ?_⟩, trivial⟩
      exact fin ⟨LV.le_refl _, LV.le_refl _, LV.le_refl _, LV.le_refl _, LV.le_refl _, LV.le_refl _, LV.le_refl _, LV.le_refl _, trivial⟩ ⟨rfl, rfl, rfl, trivial⟩
    · refine ⟨⟨?_, ?_⟩, trivial⟩
      · repeat (first | exact trivial | refine ⟨rfl, ?_⟩ | refine ⟨⟨i, rfl, optK_intro _ (rws_get hlt) rfl⟩, ?_⟩)
      refine ⟨rest _ ⟨trivial, ?_⟩, trivial⟩
      refine ⟨⟨trivial, ?_⟩, trivial⟩
      refine ⟨⟨trivial, ?_⟩, trivial⟩
      exact fin ⟨LV.le_refl _, LV.le_refl _, LV.le_refl _, LV.le_refl _, LV.le_refl _, LV.le_refl _, LV.le_refl _, LV.le_refl _, trivial⟩ ⟨rfl, rfl, rfl, trivial⟩
  rintro _ st' rfl
  refine AWp.of_vc infoOK ?_
  refine ADraw.of_sched infoOK (by rfl) (by rfl) sch8_14 (by rfl) ?_
  refine ⟨i, rfl, optK_intro _ (rws_get hlt) ?_⟩
  refine ⟨aridersE_spec a.W hw hn hzc he _ _ (fun v N hv hd => ⟨trivial, ?_⟩), trivial⟩
  refine ⟨⟨trivial, ?_⟩, trivial⟩
  refine ⟨⟨trivial, ?_⟩, trivial⟩
  refine num21_spec _ _ _ ?_
  refine bcne (fun c5 => absurd rfl c5) (fun _ => ?_)
  refine bcase_intro (fun c5 => absurd c5 (by simp)) (fun _ => ?_)
  refine num21_spec _ _ _ ?_
  refine bcne (fun c5 => absurd rfl c5) (fun _ => ?_)
  refine eqBorrow (Ints.unL hv hd) (by omega) e.2.2 _ ?_
  rw [show decide (e.2.2 = e.2.2) = true from decide_eq_true rfl]
  refine ACalls.frame hd (numbers_spec hv (by omega) (fun r s => r = .tup [] ∧ s = Store.empty) ⟨rfl, rfl⟩) (fun r a' hh _ => ?_)
  obtain ⟨rfl, rfl⟩ := hh
  rw [empty_un]
  refine AWp.of_vc infoOK ?_
  refine in64 (by omega) ?_
  refine ⟨i + 1, ?_, ⟨hlt, rfl⟩, ⟨LV.le_refl _, LV.le_refl _, LV.le_refl _, trivial⟩, ⟨rfl, trivial⟩⟩
  show a.I.length - (i + 1) < a.I.length - i
  omega
end Go.Proofs
namespace Go.Proofs.YtlhjkalolohipaaGreat
open Go Go.V Go.ChangeShapes Go.WideShapes Go.ChangeAt Go.RowKit
set_option linter.unusedVariables false
set_option linter.unusedSimpArgs false

theorem own : ownKnob Tryz.prog.godebug = none := by kernel_rfl
theorem laid : laidOutB Tryz.prog = true := by kernel_rfl

theorem agg_cells {P : Program} {w : World} {r : Reach} {base : Nat} {t : TypeId} {fs : Array Field} {v : Value} (ht : P.underlying t = some (.struct fs)) (h : Value.okWide P w r base t v) : ∃ cs, v = .agg cs := by
  simp only [Value.okWide, ht] at h
  cases v <;> simp_all [Cell.okWide, Cell.ok]

set_option maxRecDepth 100000 in
theorem armyFinds_lifted (os : Os) (started : os.Started) (H : Type) (enc : TypeId × Value → H) :
    ReturnsInHanded {} Tryz.checked os 8 .any (Rows.armyFindsSpec.pre6 enc Tryz.prog Tryz.f8 Rows.armyFindsRow.domain false) (Rows.armyFindsSpec.post enc Tryz.prog Tryz.f8 false true false false) := by
  refine returnsInHanded_of_change_sized (C := Tryz.checked) own started (by kernel_rfl) Tryz.func8
    (ChangeSpec.witness6 (enc := enc) (C := Tryz.checked) false ⟨#[], #[.agg #[.int .i64 0, .int .i64 0, .int .i64 0, .int .i64 0, .int .i64 0, .slice none 0 0, .slice none 0 0, .slice none 0 0, .slice none 0 0, .slice none 0 0, .slice none 0 0]], []⟩ 8 (by kernel_rfl) (by kernel_rfl) (by kernel_rfl) (by kernel_rfl)) ?_
  intro W base args ds gs before hval0 hW hcnd hsz _
  have hval : ∀ (j : Nat) t v, Tryz.f8.params[j]? = some t → args[j]? = some v → Value.okWide Tryz.prog W .any base t v := hval0
  have hW' := hW
  obtain ⟨p, q, hA0, hV, rfl, hfz, hnd⟩ := hW
  have hA : DataW.TrodAll enc Tryz.prog W 0 (fun _ => true) true Tryz.f8.params.toList args.toList ds p := hA0
  rw [Tryz.params8] at hA hval
  obtain ⟨v, d, rfl, rfl, hd⟩ := trodAll_one hA
  obtain ⟨rfl, rfl⟩ := trodVars_none hV
  obtain ⟨fuel, hd0⟩ := hd
  have hw : ∀ n ∈ d.weights Tryz.prog 32, n ≤ reachBytes := fun n hn => by
    have h2 := List.all_eq_true.1 hsz n (DataW.weights_mem_each (j := 0) (t := 32) (d := d) (by rfl) (by rfl) n hn)
    simpa using h2
  obtain ⟨l, hl, hc⟩ := ask21_codec.out enc W 0 true fuel _ _ hd0 hw
  obtain ⟨cs, rfl⟩ := agg_cells Tryz.underlying32 (hval 0 _ v rfl rfl)
  have hv : VRel W T0 (.agg (ask21C l)) (.agg cs) := by
    refine VRel.agg _ _ ?_ fun i x y hx hy => (hc.2 i x y hx ?_).1
    · exact hc.1.trans (by simp [Value.cells])
    · simpa [Value.cells] using hy
  have hlt : ∀ x ∈ p, x.block < W.heap.size := fun x hx => hW'.lt x (by simpa using hx)
  clear hA0 hval0
  refine (calls_of_acalls Tryz.func8 rfl (by rfl) (R := fun r => r = V.bool true) (armyFinds_law l hl.1 _ (fun r _ => r = V.bool true) rfl) hv).mono fun e W' ⟨r, u, he, hr, ⟨T, hvr⟩, hb⟩ => ?_
  subst hr
  have hu : u = .bool true := VRel.eq_s hvr
  subst hu
  subst he
  refine ⟨_, rfl, post_of_old (pa := p) (pv := []) hW' (fun _ _ _ => trodAll_cons_mk (shut_bool Tryz.underlying4 _) trodAll_mk0) (fun sp hsp => ?_) (fun _ _ => rfl) rfl (Below.kept hb _) (Below.froz hb) (ok_one (by kernel_rfl) rfl (okWide_bool_mk Tryz.underlying4 _))⟩
  exact trodAll_mk1 (WideElems.Trod_stays laid (by kernel_rfl) (of_decide_eq_true (by kernel_rfl)) ⟨fuel, hd0⟩ (fun x hx => hb.same (hlt x hx)) (fun x hx => hsp x (by simpa using hx)))

theorem armyFinds_proved : Rows.ArmyFindsSaid :=
  OpenClaim.holds_of_wide 8 Tryz.f8 rfl rfl rfl rfl rfl rfl rfl ⟨rfl, rfl, rfl, rfl, rfl⟩ rfl rfl rfl rfl rfl (by kernel_rfl) Tryz.func8 (by kernel_rfl)
    (of_decide_eq_true (by kernel_rfl)) (by unfold Func.isWrapper; first | (rw [if_pos (by decide +kernel)]; kernel_rfl) | (rw [if_neg (by decide +kernel)]; exact ⟨rfl, rfl⟩))
    (fun os started H enc _ => armyFinds_lifted os started H enc)
#print axioms armyFinds_proved
end Go.Proofs.YtlhjkalolohipaaGreat
