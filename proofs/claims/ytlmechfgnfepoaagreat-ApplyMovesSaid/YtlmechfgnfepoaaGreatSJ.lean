/- The ground on which laws of thronglaw23 are proved: contracts of functions and plain lemmas; no condition beyond the row's own. -/
import Derived.Test.YtlmechfgnfepoaaGreatVH
import Derived.Test.YtlmechfgnfepoaaGreatSI
import Derived.Test.YtlmechfgnfepoaaGreatVC
set_option linter.unusedSimpArgs false
set_option linter.unusedVariables false
namespace Go.Proofs
open Go Go.V
set_option linter.unusedVariables false
set_option linter.unusedSimpArgs false
theorem num23_spec (n : Int) (st : Store) (R : AV → Store → Prop) (h : R (int n) st) : ACalls Tryz.prog 22 [int n] st R := by
  refine ACalls.of_body (c := cfg 4) infoOK Tryz.func22 (by rfl) (by rfl) (by rfl) (by rfl) ?_
  exact ret h
theorem applyF {k : Int} {E : Wld → Cmd → Int} {W : Wld → Cmd → Wld} (hD : DoesOK k E W) (w : Wld) (hw : w.fits) (hn : ∀ u ∈ w.U, u.pos.ok) (hT : w.G.T.length ≤ 1000000) (hB : w.B.length ≤ 1000000) (hU : w.U.length ≤ 1000000)
    (c : Cmd) (hW : mayP w → (W w c).G.T.length ≤ 1000000 ∧ (W w c).B.length ≤ 1000000 ∧ (W w c).U.length ≤ 1000000) (hc : c.fits) (hK : c.K = k) (st : Store) (R : AV → Store → Prop)
    (h : ∀ N vT vB vU NT NB NU, OwnQ N (doW E W w c) vT vB vU NT NB NU → Disj N st → R (.tup [.agg (wld3 (doW E W w c) vT vB vU), int (doE E w c)]) (N.un st)) : ACalls Tryz.prog 21 [.agg (wldC w), .agg (cmdC c)] st R := by
  rw [← empty_un st]
  exact ACalls.frame (disj_emptyL st) (apply_spec hD w hw hn hT hB hU c hW hc hK (fun r S => ∃ vT vB vU NT NB NU, OwnQ S (doW E W w c) vT vB vU NT NB NU ∧ r = .tup [.agg (wld3 (doW E W w c) vT vB vU), int (doE E w c)]) fun S vT vB vU NT NB NU ho => ⟨vT, vB, vU, NT, NB, NU, ho, rfl⟩) fun r S ⟨vT, vB, vU, NT, NB, NU, ho, e⟩ hd => e ▸ h S vT vB vU NT NB NU ho hd
theorem refF {k : Int} {E : Wld → Cmd → Int} {W : Wld → Cmd → Wld} (hR : RefOK k E W) (w : Wld) (hw : w.fits) (hn : ∀ u ∈ w.U, u.pos.ok) (hU : w.U.length ≤ 1000000) (c : Cmd) (hc : c.fits) (hK : c.K = k) (st : Store) (R : AV → Store → Prop) (h : R (.tup [.agg (wldC (doW E W w c)), int (doE E w c)]) st) :
    ACalls Tryz.prog 34 [.agg (wldC w), .agg (cmdC c)] st R := by
  rw [← empty_un st]
  exact ACalls.frame (disj_emptyL st) (hR w hw hn hU c hc hK (fun r S => S = Store.empty ∧ r = .tup [.agg (wldC (doW E W w c)), int (doE E w c)]) ⟨rfl, rfl⟩) fun r S ⟨e, e2⟩ hd => by subst e e2; rw [empty_un]; exact h
theorem eqWorldQ_self {N NT NB NU st : Store} {w : Wld} {vT vB vU : AV} (ho : OwnQ N w vT vB vU NT NB NU) (hd : Disj N st) (hw : w.fits) (R : AV → Store → Prop) (h : R (V.bool true) (N.un st)) : ACalls Tryz.prog 35 [.agg (wld3 w vT vB vU), .agg (wldC w)] (N.un st) R :=
  ACalls.frame hd (ACalls.read (R := fun r S => r = V.bool true ∧ S = N) (ys := [.agg (wldC w), .agg (wldC w)]) (Q := fun r => r = V.bool true) (fun Oth M W vs sto hr => by
    obtain ⟨x, y, rfl, h1, h2⟩ := reads2 hr
    exact Reads.cons (ownQ_borrow ho sto h1) (Reads.cons (mono_borrow h2) Reads.nil)) (eqWorld_self w hw _ _ rfl) (fun r hr => by subst hr; exact flat_s _) (fun r hr => ⟨hr, rfl⟩)) fun r S ⟨e, e2⟩ _ => by subst e e2; exact h
theorem spoilF {N NT NB NU st : Store} {w : Wld} {vT vB vU : AV} (ho : OwnQ N w vT vB vU NT NB NU) (hd : Disj N st) (hT : w.G.T.length ≤ 1000000) (hB : w.B.length ≤ 1000000) (hU : w.U.length ≤ 1000000) (R : AV → Store → Prop) (h : R (.tup []) st) : ACalls Tryz.prog 37 [.agg (wld3 w vT vB vU)] (N.un st) R :=
  ACalls.frame hd (spoilWq_spec ho hT hB hU (fun r S => r = .tup [] ∧ S = Store.empty) ⟨rfl, rfl⟩) fun r S ⟨e, e2⟩ _ => by subst e e2; rw [empty_un]; exact h
def w00q : Wld := ⟨0, 0, 0, ⟨0, 0, []⟩, [], []⟩
def zerW : List AV := [int 0, int 0, int 0, int 0, int 0, .s (.slice none 0 0), .s (.slice none 0 0), .s (.slice none 0 0)]
set_option maxHeartbeats 2000000 in
set_option maxRecDepth 20000 in
theorem one_spec {k : Int} {E : Wld → Cmd → Int} {W : Wld → Cmd → Wld} (hD : DoesOK k E W) (hR : RefOK k E W) (w : Wld) (hw : w.fits) (hn : ∀ u ∈ w.U, u.pos.ok) (hT : w.G.T.length ≤ 1000000) (hB : w.B.length ≤ 1000000) (hU : w.U.length ≤ 1000000)
    (c : Cmd) (hW : mayP w → (W w c).G.T.length ≤ 1000000 ∧ (W w c).B.length ≤ 1000000 ∧ (W w c).U.length ≤ 1000000) (hc : c.fits) (hK : c.K = k) (st : Store) (R : AV → Store → Prop)
    (h : ∀ z : Wld, (z = doW E W w c ∨ z = w00q) → R (.tup [.agg (wldC z), V.bool true]) st) : ACalls Tryz.prog 17 [.agg (wldC w), .agg (cmdC c)] st R := by
  have hl2 : (doW E W w c).G.T.length ≤ 1000000 ∧ (doW E W w c).B.length ≤ 1000000 ∧ (doW E W w c).U.length ≤ 1000000 := by
    by_cases he : doE E w c = 0
    · rw [doW_ok he]
      refine hW (Classical.byContradiction fun hm => ?_)
      rw [doE_bad (.inl hm)] at he
      cases he
    · rw [doW_bad he]; exact ⟨hT, hB, hU⟩
  have hf2 : (doW E W w c).fits := ⟨by unfold Gnd.fits; omega, by omega, by omega⟩
  have hbw : doE E w c ≠ 0 → doW E W w c = w := doW_bad
  refine ACalls.of_awp (c := cfg 84) infoOK Tryz.func17 (by rfl) (by rfl) (by rfl) (by rfl) ?_
  refine AWp.seq (AWp.of_vc infoOK ?_)
  refine AWp.seq (AWp.of_vc infoOK ?_)
  refine copyWorld_spec w hw _ _ ?_
  refine AWp.seq (AWp.of_vc infoOK ?_)
  refine copyCommand_specC c hc _ _ ?_
  refine AWp.seq (AWp.of_vc infoOK ?_)
  refine refF hR w hw hn hU c hc hK _ _ ?_
  have hap := fun st2 R2 => applyF hD w hw hn hT hB hU c hW hc hK st2 R2
  generalize doW E W w c = w2 at *
  generalize doE E w c = e at *
  refine AWp.meetA (σ := List AV) ⟨fun zc => [(2, .bx 2 0), (3, .bx 3 0), (4, .bx 4 0), (6, .bx 6 0), (7, .bx 7 0), (8, .bx 8 0), (9, .av (int e))], fun zc => [(2, wldC w), (3, cmdC c), (4, zerW), (6, wldC w), (7, cmdC c), (8, zc)],
    fun zc s => s = st ∧ (e = 0 → zc = wldC w2) ∧ (zc = wldC w2 ∨ zc = zerW)⟩ ?_ ?_
  · refine AWp.of_vc infoOK ?_
    refine bceq (fun e1 => ?_) (fun e1 => ?_)
    · refine rmay_spec w hw hn _ _ (fun z hz => ?_)
      refine bcnot ?_
      refine bcase_intro (fun c1 => ?_) (fun c1 => ?_)
      · exact ⟨wldC w2, ⟨rfl, fun _ => rfl, .inl rfl⟩, ⟨LV.le_refl _, LV.le_refl _, LV.le_refl _, LV.le_refl _, LV.le_refl _, LV.le_refl _, LV.le_refl _, trivial⟩, ⟨rfl, rfl, rfl, rfl, rfl, rfl, trivial⟩⟩
      · exact ⟨zerW, ⟨rfl, fun h0 => absurd (e1.symm.trans h0) (by decide), .inr rfl⟩, ⟨LV.le_refl _, LV.le_refl _, LV.le_refl _, LV.le_refl _, LV.le_refl _, LV.le_refl _, LV.le_refl _, trivial⟩, ⟨rfl, rfl, rfl, rfl, rfl, rfl, trivial⟩⟩
    · exact ⟨wldC w2, ⟨rfl, fun _ => rfl, .inl rfl⟩, ⟨LV.le_refl _, LV.le_refl _, LV.le_refl _, LV.le_refl _, LV.le_refl _, LV.le_refl _, LV.le_refl _, trivial⟩, ⟨rfl, rfl, rfl, rfl, rfl, rfl, trivial⟩⟩
  rintro zc _ ⟨rfl, hz0, hz1⟩
  refine AWp.of_vc infoOK ?_
  refine hap _ _ (fun N vT vB vU NT NB NU ho hd => ?_)
  obtain ⟨rT, rB, rU⟩ := ownQ_sub ho
  obtain ⟨_, _, e1, _⟩ := rT.form
  obtain ⟨_, _, e2, _⟩ := rB.form
  obtain ⟨_, _, e3, _⟩ := rU.form
  subst e1 e2 e3
  refine num23_spec e _ _ ?_
  refine bceq (fun _ => ?_) (fun h => absurd rfl h)
  refine eqWorld_self w hw _ _ ?_
  refine eqCommand_specC c c hc _ _ ?_
  rw [show decide (c = c) = true from decide_eq_true rfl]
  rcases hz1 with rfl | rfl
  · refine bceq (fun e0 => ?_) (fun e0 => ?_)
    · refine eqWorldQ_self ho hd hf2 _ ?_
      refine spoilF ho hd hl2.1 hl2.2.1 hl2.2.2 _ ?_
      refine copyWorld_spec w2 hf2 _ _ ?_
      refine bcne (fun h5 => absurd e0 h5) (fun h5 => ?_)
      refine eqWorld_self w hw _ _ ?_
      exact ret (h _ (.inl rfl))
    · have hww := hbw e0
      subst hww
      refine eqWorldQ_self ho hd hf2 _ ?_
      refine spoilF ho hd hl2.1 hl2.2.1 hl2.2.2 _ ?_
      refine copyWorld_spec w2 hf2 _ _ ?_
      refine bcne (fun h5 => ?_) (fun h5 => absurd h5 e0)
      exact ret (h _ (.inl rfl))
  · refine bceq (fun e0 => absurd (hz0 e0) (fun hh => by have := congrArg (fun l : List AV => l[7]?) hh; simp [zerW, wldC, lst] at this)) (fun e0 => ?_)
    have hww := hbw e0
    subst hww
    refine eqWorldQ_self ho hd hf2 _ ?_
    refine spoilF ho hd hl2.1 hl2.2.1 hl2.2.2 _ ?_
    refine ACalls.le (ys := [.agg (wldC w00q)]) ⟨AV.le_aggL ⟨AV.le_refl _, AV.le_refl _, AV.le_refl _, AV.le_refl _, AV.le_refl _, AV.le_nil 1, AV.le_nil 6, AV.le_nil 10, trivial⟩, trivial⟩ (copyWorld_spec w00q ⟨Nat.zero_le _, Nat.zero_le _, Nat.zero_le _⟩ _ _ ?_)
    refine bcne (fun h5 => ?_) (fun h5 => absurd h5 e0)
    exact ret (h _ (.inr rfl))
end Go.Proofs
namespace Go.Proofs
open Go Go.V
set_option linter.unusedVariables false
set_option linter.unusedSimpArgs false
theorem cweight_spec (l : List Cmd) (hl : l.length ≤ 140737488355328) (hu : ∀ c ∈ l, c.sized) (st : Store) (R : AV → Store → Prop)
    (h : ∀ w : Int, l.length ≤ w → (w < 1048576 → ∀ c ∈ l, (c.U.length : Int) ≤ w) → w ≤ 281474976710656 → R (int w) st) : ACalls Tryz.prog 29 [lst 10 cmdC l] st R := by
  refine ACalls.of_body (c := cfg 26) infoOK Tryz.func29 (by rfl) (by rfl) (by rfl) (by rfl) ?_
  refine AWp.loop (σ := Nat × Int) ⟨fun s => [(0, .av (lst 10 cmdC l)), (3, .av (int s.2)), (4, .av (int (s.1 : Nat)))], fun _ => [],
    fun s st' => s.1 ≤ l.length ∧ st' = st ∧ (l.length : Int) ≤ s.2 ∧ s.2 ≤ 281474976710656 ∧ (s.2 < 1048576 → ∀ c ∈ l.take s.1, (c.U.length : Int) ≤ s.2), fun s => l.length - s.1⟩ infoOK ?_ ?_
  · refine ⟨(0, (l.length : Int)), trivial, ⟨Nat.zero_le _, rfl, Int.le_refl _, by simp only; omega, fun _ c hc => by simp at hc⟩, ⟨LV.le_refl _, ?_, LV.le_refl _, trivial⟩, trivial⟩
    rw [← rws_len (f := cmdC) l]
    exact LV.le_refl _
  rintro ⟨i, n⟩ st' ⟨hi, rfl, hn, hn2, hU⟩
  dsimp only at hi hn hn2 hU ⊢
  refine bcase_intro (fun h1 => ?_) (fun h1 => ?_)
  · have hlt : i < l.length := lt_len h1
    have hsz := hu _ (List.getElem_mem hlt)
    unfold Cmd.sized at hsz
    refine bcd (fun h2 => ?_) (fun h2 => ?_)
    · refine ⟨i, rfl, optK_intro _ (rws_get hlt) ?_⟩
      refine ⟨by rw [rws_len]; exact ⟨by omega, by omega⟩, ?_⟩
      refine ⟨⟨by omega, by omega⟩, ?_⟩
      refine ⟨(i + 1, n + (l[i].U.length : Int)), ?_, ⟨hlt, rfl, by simp only; omega, by simp only; omega, fun h3 c hc => ?_⟩, ⟨LV.le_refl _, ?_, LV.le_refl _, trivial⟩, trivial⟩
      · show l.length - (i + 1) < l.length - i
        omega
      · simp only at h3 ⊢
        rw [List.take_succ_eq_append_getElem hlt] at hc
        rcases List.mem_append.1 hc with hc | hc
        · have := hU (by omega) c hc; omega
        · rw [List.mem_singleton] at hc
          subst hc; omega
      · simp only
        rw [← rws_len (f := intC) l[i].U]
        exact LV.le_refl _
    · exact ret (h n hn (fun h3 => absurd h3 h2) hn2)
  · have hge : i = l.length := ge_len h1 hi
    subst hge
    rw [List.take_length] at hU
    exact ret (h n hn hU hn2)
theorem heavy23_spec (s : Scr) (hf : ∀ c ∈ s.L, c.sized) (st : Store) (R : AV → Store → Prop) (h : ∀ z : Bool, (z = false → ¬ greatP s.W ∧ s.L.length ≤ 60 ∧ ∀ c ∈ s.L, c.fits) → R (V.bool z) st) : ACalls Tryz.prog 15 [.agg (scrC s)] st R := by
  have yes := h true (fun hh => by cases hh)
  refine ACalls.of_body (c := cfg 18) infoOK Tryz.func15 (by rfl) (by rfl) (by rfl) (by rfl) ?_
  refine greatWorld_spec s.W _ _ (fun z hz => ?_)
  refine bcase_intro (fun c1 => ret yes) (fun c1 => ?_)
  have hng : ¬ greatP s.W := fun hh => by have := hz.2 hh; rw [this] at c1; cases c1
  refine bcase_intro (fun c2 => ret yes) (fun c2 => ?_)
  have hl : s.L.length ≤ 60 := by
    have c2 := of_decide_eq_false c2
    rw [rws_len] at c2
    omega
  refine cweight_spec s.L (by omega) hf _ _ (fun n h1 h2 h3 => ?_)
  refine ret (h _ fun hz => ⟨hng, hl, fun c hc => ?_⟩)
  have hz := of_decide_eq_false hz
  have := h2 (by omega) c hc
  unfold Cmd.fits
  omega
set_option maxHeartbeats 2000000 in
set_option maxRecDepth 20000 in
theorem only23_spec {k : Int} {E : Wld → Cmd → Int} {W : Wld → Cmd → Wld} (hD : DoesOK k E W) (hR : RefOK k E W) (hWb : ∀ w c, mayP w → ¬ greatP w → (W w c).G.T.length ≤ 1000000 ∧ (W w c).B.length ≤ 1000000 ∧ (W w c).U.length ≤ 1000000)
    (wak : ∀ st R, R (V.bool true) st → ACalls Tryz.prog 19 [] st R) (s : Scr) (hn : ∀ u ∈ s.W.U, u.pos.ok) (hfs : ∀ c ∈ s.L, c.sized) (st : Store) (R : AV → Store → Prop) (h : R (V.bool true) st) : ACalls Tryz.prog 20 [.agg (scrC s), int k] st R := by
  refine ACalls.of_body (c := cfg 43) infoOK Tryz.func20 (by rfl) (by rfl) (by rfl) (by rfl) ?_
  refine heavy23_spec s hfs _ _ (fun z hz => ?_)
  refine bcase_intro (fun c1 => ret h) (fun c1 => ?_)
  obtain ⟨hng, hl60, hf⟩ := hz c1
  have hng2 := hng
  unfold greatP at hng2
  have hw : s.W.fits := ⟨by unfold Gnd.fits; omega, by omega, by omega⟩
  refine AWp.loop (σ := Nat) ⟨fun i => [(1, .av (int k)), (2, .bx 2 0), (5, .av (int (i : Nat)))], fun _ => [(2, scrC s)], fun i st' => i ≤ s.L.length ∧ st' = st, fun i => s.L.length - i⟩ infoOK ?_ ?_
  · exact ⟨0, trivial, ⟨Nat.zero_le _, rfl⟩, ⟨LV.le_refl _, LV.le_refl _, LV.le_refl _, trivial⟩, ⟨rfl, trivial⟩⟩
  rintro i st' ⟨hi, rfl⟩
  refine bcase_intro (fun h1 => ?_) (fun h1 => wak _ _ (ret h))
  have hlt : i < s.L.length := lt_len h1
  refine bcd (fun h2 => ?_) (fun h2 => wak _ _ (ret h))
  refine ⟨i, rfl, optK_intro _ (rws_get hlt) ?_⟩
  refine bcne (fun h3 => ?_) (fun h3 => ?_)
  · refine in64 (by omega) ?_
    refine ⟨i + 1, ?_, ⟨by omega, rfl⟩, ⟨LV.le_refl _, LV.le_refl _, LV.le_refl _, trivial⟩, ⟨rfl, trivial⟩⟩
    show s.L.length - (i + 1) < s.L.length - i
    omega
  have one := fun st2 R2 => one_spec hD hR s.W hw hn (by omega) (by omega) (by omega) s.L[i] (fun hm => hWb s.W s.L[i] hm hng) (hf _ (List.getElem_mem hlt)) h3 st2 R2
  refine ADraw.of_sched infoOK (by rfl) (by rfl) sch20_7 (by rfl) ?_
  refine ⟨i, rfl, optK_intro _ (rws_get hlt) ?_⟩
  have next : ∀ A : Fr, A.t 1 = .av (int k) → A.t 2 = .bx 2 0 → A.t 5 = .av (int (((i : Int) + 1))) → A.bx 2 = some (scrC s) → ∃ j : Nat, s.L.length - j < s.L.length - i ∧ (j ≤ s.L.length ∧ st' = st') ∧ fitsT A [(1, .av (int k)), (2, .bx 2 0), (5, .av (int (j : Nat)))] ∧ fitsB A [(2, scrC s)] := by
    intro A g1 g2 g5 gb
    exact ⟨i + 1, by omega, ⟨hlt, rfl⟩, ⟨by rw [g1]; exact LV.le_refl _, by rw [g2]; exact LV.le_refl _, by rw [g5]; exact LV.le_refl _, trivial⟩, ⟨gb, trivial⟩⟩
  refine ⟨one _ _ (fun z _ => ⟨trivial, ?_⟩), ⟨⟨?_, ⟨one _ _ (fun z _ => ⟨trivial, ?_⟩), trivial⟩⟩, trivial⟩⟩
  · refine ⟨⟨(by repeat (first | exact trivial | refine ⟨rfl, ?_⟩ | refine ⟨⟨i, rfl, optK_intro _ (rws_get hlt) rfl⟩, ?_⟩)), ⟨⟨trivial, ⟨⟨trivial, ?_⟩, trivial⟩⟩, trivial⟩⟩, trivial⟩
    refine in64 (by omega) ?_
    exact next _ rfl rfl rfl rfl
  · repeat (first | exact trivial | refine ⟨rfl, ?_⟩ | refine ⟨⟨i, rfl, optK_intro _ (rws_get hlt) rfl⟩, ?_⟩)
  · refine ⟨⟨trivial, ⟨⟨trivial, ?_⟩, trivial⟩⟩, trivial⟩
    refine in64 (by omega) ?_
    exact next _ rfl rfl rfl rfl
end Go.Proofs
namespace Go.Proofs
open Go Go.V
set_option linter.unusedVariables false
set_option linter.unusedSimpArgs false
theorem apply_froz {k : Int} {E : Wld → Cmd → Int} {W : Wld → Cmd → Wld} (hD : DoesOK k E W) (w : Wld) (hw : w.fits) (hn : ∀ u ∈ w.U, u.pos.ok) (hT : w.G.T.length ≤ 1000000) (hB : w.B.length ≤ 1000000) (hU : w.U.length ≤ 1000000)
    (c : Cmd) (hW : mayP w → (W w c).G.T.length ≤ 1000000 ∧ (W w c).B.length ≤ 1000000 ∧ (W w c).U.length ≤ 1000000) (hc : c.fits) (hK : c.K = k) (st : Store) (R : AV → Store → Prop)
    (h : R (.tup [.agg (wldC (doW E W w c)), int (doE E w c)]) st) : ACalls Tryz.prog 21 [.agg (wldC w), .agg (cmdC c)] st R := by
  have h1 := (apply_spec hD w hw hn hT hB hU c hW hc hK (fun r S => ∃ vT vB vU NT NB NU, OwnQ S (doW E W w c) vT vB vU NT NB NU ∧ r = .tup [.agg (wld3 (doW E W w c) vT vB vU), int (doE E w c)]) fun S vT vB vU NT NB NU ho => ⟨vT, vB, vU, NT, NB, NU, ho, rfl⟩).frozen (R := fun r => r = .tup [.agg (wldC (doW E W w c)), int (doE E w c)]) (by
    rintro r S ⟨vT, vB, vU, NT, NB, NU, ho, rfl⟩
    refine ⟨_, rfl, fun Oth M w' v' sto hx => ?_⟩
    cases hx with
    | tup _ c2 hl hc2 =>
      refine .tup _ c2 hl fun i x y hx hy => ?_
      match i with
      | 0 => simp only [List.getElem?_cons_zero, Option.some.injEq] at hx; subst hx; exact ownQ_borrow ho sto (hc2 0 _ y rfl hy)
      | 1 => simp only [List.getElem?_cons_succ, List.getElem?_cons_zero, Option.some.injEq] at hx; subst hx; exact mono_borrow (hc2 1 _ y rfl hy)
      | i + 2 => simp at hx)
  have h2 : ACalls Tryz.prog 21 [.agg (wldC w), .agg (cmdC c)] Store.empty fun r S => r = .tup [.agg (wldC (doW E W w c)), int (doE E w c)] ∧ S = Store.empty :=
    h1.post (Store.Le.refl _) fun r st' hr => ⟨r, Store.empty, AV.le_refl r, (hasE st').toLe, hr, rfl⟩
  rw [← empty_un st]
  exact ACalls.frame (disj_emptyL st) h2 fun r S ⟨e, e2⟩ hd => by subst e e2; rw [empty_un]; exact h
theorem wakes23_spec (st : Store) (R : AV → Store → Prop) (h : R (V.bool true) st) : ACalls Tryz.prog 19 [] st R := by
  have f1 : w0a.fits := ⟨by unfold Gnd.fits; decide, by decide, by decide⟩
  have f2 : w1a.fits := ⟨by unfold Gnd.fits; decide, by decide, by decide⟩
  have hn2 : ∀ u ∈ w1a.U, u.pos.ok := fun u hu => by
    rcases List.mem_singleton.1 hu with rfl
    unfold Vc.ok InI64
    decide
  refine ACalls.of_body (c := cfg 38) infoOK Tryz.func19 (by rfl) (by rfl) (by rfl) (by rfl) ?_
  refine ⟨by decide, ?_⟩
  refine ACalls.le (ys := [.agg (wldC w0a), .agg (cmdC c0a)]) ⟨AV.le_aggL ⟨AV.le_refl _, AV.le_refl _, AV.le_refl _, AV.le_refl _, AV.le_refl _, AV.le_refl _, AV.le_nil 6, AV.le_nil 10, trivial⟩, AV.le_aggL ⟨AV.le_refl _, AV.le_refl _, AV.le_refl _, AV.le_refl _, AV.le_nil 1, AV.le_refl _, AV.le_refl _, AV.le_refl _, AV.le_refl _, AV.le_refl _, trivial⟩, trivial⟩ ?_
  refine apply_froz does1 w0a f1 (fun u hu => by cases hu) (by decide) (by decide) (by decide) c0a (fun _ => ⟨by decide, by decide, by decide⟩) (by unfold Cmd.fits; decide) rfl _ _ ?_
  rw [doW_0a, doE_0a]
  refine ACalls.le (ys := [.agg (wldC w1a), .agg (cmdC c0a)]) ⟨AV.le_refl _, AV.le_aggL ⟨AV.le_refl _, AV.le_refl _, AV.le_refl _, AV.le_refl _, AV.le_nil 1, AV.le_refl _, AV.le_refl _, AV.le_refl _, AV.le_refl _, AV.le_refl _, trivial⟩, trivial⟩ ?_
  refine apply_froz does1 w1a f2 hn2 (by decide) (by decide) (by decide) c0a (fun _ => ⟨by decide, by decide, by decide⟩) (by unfold Cmd.fits; decide) rfl _ _ ?_
  rw [doE_1a]
  refine num23_spec _ _ _ ?_
  refine num23_spec _ _ _ ?_
  exact ret h
end Go.Proofs
namespace Go.Proofs
open Go Go.V
set_option linter.unusedVariables false
theorem bounds_i64 {n : Int} (h : (Lit.int .i64 n).wf = true) : InI64 n := by
  simp [Lit.wf, IntKind.min, IntKind.max, IntKind.signed, IntKind.bits] at h
  unfold InI64
  omega
theorem i64_codec : Codec Tryz.prog 2 Int intC InI64 := (Codec.int Tryz.underlying2).weaken fun _ h => bounds_i64 h
theorem int_codec : Codec Tryz.prog 3 Int intC InI64 := (Codec.int Tryz.underlying3).weaken fun _ h => bounds_i64 h
theorem bytes_codec : Codec Tryz.prog 22 (List UInt8) (fun l => [byts l]) (fun l => l.length ≤ 140737488355328) :=
  (Codec.slice Tryz.underlying22 (k := 1) (by kernel_rfl) (by decide) (of_decide_eq_true (by kernel_rfl)) (Codec.byte Tryz.underlying5)).weaken fun _ h => h.2
theorem ints_codec : Codec Tryz.prog 36 (List Int) (fun l => [ints l]) (fun l => l.length ≤ 140737488355328 ∧ ∀ n ∈ l, InI64 n) :=
  (Codec.slice Tryz.underlying36 (k := 1) (by kernel_rfl) (by decide) (of_decide_eq_true (by kernel_rfl)) int_codec).weaken fun _ h => ⟨h.2, h.1⟩
theorem vec_codec : Codec Tryz.prog 38 Vc vecC Vc.ok := by
  refine ⟨fun {H} enc w base held fuel cs x hx hw => ?_⟩
  have hu := Tryz.underlying38
  have hl : cs.length = 2 := (struct_len hu hx).trans (by kernel_rfl)
  obtain ⟨a0, q0, h0⟩ := struct_field hu hx hw 0 0 1 rfl rfl (by kernel_rfl) i64_codec
  obtain ⟨a1, q1, h1⟩ := struct_field hu hx hw 1 1 1 rfl rfl (by kernel_rfl) i64_codec
  refine ⟨(a0, a1), ⟨q0, q1⟩, ?_⟩
  have := h0.cons rfl (h1.cons rfl (CellsOK.stop hl))
  rw [List.drop_zero] at this
  exact this
theorem gnd_codec : Codec Tryz.prog 24 Gnd gndC (fun g => g.T.length ≤ 140737488355328) := by
  refine ⟨fun {H} enc w base held fuel cs x hx hw => ?_⟩
  have hu := Tryz.underlying24
  have hl : cs.length = 3 := (struct_len hu hx).trans (by kernel_rfl)
  obtain ⟨a0, q0, h0⟩ := struct_field hu hx hw 0 0 1 rfl rfl (by kernel_rfl) int_codec
  obtain ⟨a1, q1, h1⟩ := struct_field hu hx hw 1 1 1 rfl rfl (by kernel_rfl) int_codec
  obtain ⟨a2, q2, h2⟩ := struct_field hu hx hw 2 2 1 rfl rfl (by kernel_rfl) bytes_codec
  refine ⟨⟨a0, a1, a2⟩, q2, ?_⟩
  have := h0.cons rfl (h1.cons rfl (h2.cons rfl (CellsOK.stop hl)))
  rw [List.drop_zero] at this
  exact this
theorem bld_codec : Codec Tryz.prog 59 Bld bldC (fun _ => True) := by
  refine ⟨fun {H} enc w base held fuel cs x hx hw => ?_⟩
  have hu := Tryz.underlying59
  have hl : cs.length = 6 := (struct_len hu hx).trans (by kernel_rfl)
  obtain ⟨a0, q0, h0⟩ := struct_field hu hx hw 0 0 1 rfl rfl (by kernel_rfl) int_codec
  obtain ⟨a1, q1, h1⟩ := struct_field hu hx hw 1 1 1 rfl rfl (by kernel_rfl) int_codec
  obtain ⟨a2, q2, h2⟩ := struct_field hu hx hw 2 2 1 rfl rfl (by kernel_rfl) int_codec
  obtain ⟨a3, q3, h3⟩ := struct_field hu hx hw 3 3 1 rfl rfl (by kernel_rfl) int_codec
  obtain ⟨a4, q4, h4⟩ := struct_field hu hx hw 4 4 1 rfl rfl (by kernel_rfl) int_codec
  obtain ⟨a5, q5, h5⟩ := struct_field hu hx hw 5 5 1 rfl rfl (by kernel_rfl) int_codec
  refine ⟨⟨a0, a1, a2, a3, a4, a5⟩, trivial, ?_⟩
  have := h0.cons rfl (h1.cons rfl (h2.cons rfl (h3.cons rfl (h4.cons rfl (h5.cons rfl (CellsOK.stop hl))))))
  rw [List.drop_zero] at this
  exact this
theorem blds_codec : Codec Tryz.prog 25 (List Bld) (fun l => [lst 6 bldC l]) (fun l => l.length ≤ 140737488355328) :=
  (Codec.slice Tryz.underlying25 (k := 6) (by kernel_rfl) (by decide) (of_decide_eq_true (by kernel_rfl)) bld_codec).weaken fun _ h => h.2
theorem unt_codec : Codec Tryz.prog 50 Unt untC (fun u => u.pos.ok) := by
  refine ⟨fun {H} enc w base held fuel cs x hx hw => ?_⟩
  have hu := Tryz.underlying50
  have hl : cs.length = 10 := (struct_len hu hx).trans (by kernel_rfl)
  obtain ⟨a0, q0, h0⟩ := struct_field hu hx hw 0 0 1 rfl rfl (by kernel_rfl) int_codec
  obtain ⟨a1, q1, h1⟩ := struct_field hu hx hw 1 1 1 rfl rfl (by kernel_rfl) int_codec
  obtain ⟨a2, q2, h2⟩ := struct_field hu hx hw 2 2 1 rfl rfl (by kernel_rfl) int_codec
  obtain ⟨a3, q3, h3⟩ := struct_field hu hx hw 3 3 2 rfl rfl (by kernel_rfl) vec_codec
  obtain ⟨a4, q4, h4⟩ := struct_field hu hx hw 4 5 1 rfl rfl (by kernel_rfl) int_codec
  obtain ⟨a5, q5, h5⟩ := struct_field hu hx hw 5 6 1 rfl rfl (by kernel_rfl) int_codec
  obtain ⟨a6, q6, h6⟩ := struct_field hu hx hw 6 7 1 rfl rfl (by kernel_rfl) int_codec
  obtain ⟨a7, q7, h7⟩ := struct_field hu hx hw 7 8 1 rfl rfl (by kernel_rfl) int_codec
  obtain ⟨a8, q8, h8⟩ := struct_field hu hx hw 8 9 1 rfl rfl (by kernel_rfl) int_codec
  refine ⟨⟨a0, a1, a2, a3, a4, a5, a6, a7, a8⟩, q3, ?_⟩
  have := h0.cons rfl (h1.cons rfl (h2.cons rfl (h3.cons rfl (h4.cons rfl (h5.cons rfl (h6.cons rfl (h7.cons rfl (h8.cons rfl (CellsOK.stop hl)))))))))
  rw [List.drop_zero] at this
  exact this
theorem unts_codec : Codec Tryz.prog 26 (List Unt) (fun l => [lst 10 untC l]) (fun l => l.length ≤ 140737488355328 ∧ ∀ u ∈ l, u.pos.ok) :=
  (Codec.slice Tryz.underlying26 (k := 10) (by kernel_rfl) (by decide) (of_decide_eq_true (by kernel_rfl)) unt_codec).weaken fun _ h => ⟨h.2, h.1⟩
theorem wld_codec : Codec Tryz.prog 28 Wld wldC (fun w => ∀ u ∈ w.U, u.pos.ok) := by
  refine ⟨fun {H} enc w base held fuel cs x hx hw => ?_⟩
  have hu := Tryz.underlying28
  have hl : cs.length = 8 := (struct_len hu hx).trans (by kernel_rfl)
  obtain ⟨a0, q0, h0⟩ := struct_field hu hx hw 0 0 1 rfl rfl (by kernel_rfl) int_codec
  obtain ⟨a1, q1, h1⟩ := struct_field hu hx hw 1 1 1 rfl rfl (by kernel_rfl) int_codec
  obtain ⟨a2, q2, h2⟩ := struct_field hu hx hw 2 2 1 rfl rfl (by kernel_rfl) int_codec
  obtain ⟨a3, q3, h3⟩ := struct_field hu hx hw 3 3 3 rfl rfl (by kernel_rfl) gnd_codec
  obtain ⟨a4, q4, h4⟩ := struct_field hu hx hw 4 6 1 rfl rfl (by kernel_rfl) blds_codec
  obtain ⟨a5, q5, h5⟩ := struct_field hu hx hw 5 7 1 rfl rfl (by kernel_rfl) unts_codec
  refine ⟨⟨a0, a1, a2, a3, a4, a5⟩, q5.2, ?_⟩
  have := h0.cons rfl (h1.cons rfl (h2.cons rfl (h3.cons rfl (h4.cons rfl (h5.cons rfl (CellsOK.stop hl))))))
  rw [List.drop_zero] at this
  exact this
theorem cmd_codec : Codec Tryz.prog 40 Cmd cmdC Cmd.sized := by
  refine ⟨fun {H} enc w base held fuel cs x hx hw => ?_⟩
  have hu := Tryz.underlying40
  have hl : cs.length = 10 := (struct_len hu hx).trans (by kernel_rfl)
  obtain ⟨a0, q0, h0⟩ := struct_field hu hx hw 0 0 1 rfl rfl (by kernel_rfl) int_codec
  obtain ⟨a1, q1, h1⟩ := struct_field hu hx hw 1 1 1 rfl rfl (by kernel_rfl) int_codec
  obtain ⟨a2, q2, h2⟩ := struct_field hu hx hw 2 2 1 rfl rfl (by kernel_rfl) int_codec
  obtain ⟨a3, q3, h3⟩ := struct_field hu hx hw 3 3 1 rfl rfl (by kernel_rfl) int_codec
  obtain ⟨a4, q4, h4⟩ := struct_field hu hx hw 4 4 1 rfl rfl (by kernel_rfl) ints_codec
  obtain ⟨a5, q5, h5⟩ := struct_field hu hx hw 5 5 1 rfl rfl (by kernel_rfl) int_codec
  obtain ⟨a6, q6, h6⟩ := struct_field hu hx hw 6 6 1 rfl rfl (by kernel_rfl) int_codec
  obtain ⟨a7, q7, h7⟩ := struct_field hu hx hw 7 7 1 rfl rfl (by kernel_rfl) int_codec
  obtain ⟨a8, q8, h8⟩ := struct_field hu hx hw 8 8 2 rfl rfl (by kernel_rfl) vec_codec
  refine ⟨⟨a0, a1, a2, a3, a4, a5, a6, a7, a8.1, a8.2⟩, q4.1, ?_⟩
  have := h0.cons rfl (h1.cons rfl (h2.cons rfl (h3.cons rfl (h4.cons rfl (h5.cons rfl (h6.cons rfl (h7.cons rfl (h8.cons rfl (CellsOK.stop hl)))))))))
  rw [List.drop_zero] at this
  exact this
theorem cmds_codec : Codec Tryz.prog 29 (List Cmd) (fun l => [lst 10 cmdC l]) (fun l => l.length ≤ 140737488355328 ∧ ∀ c ∈ l, c.sized) :=
  (Codec.slice Tryz.underlying29 (k := 10) (by kernel_rfl) (by decide) (of_decide_eq_true (by kernel_rfl)) cmd_codec).weaken fun _ h => ⟨h.2, h.1⟩
def Scr.good (s : Scr) : Prop := (∀ u ∈ s.W.U, u.pos.ok) ∧ ∀ c ∈ s.L, c.sized
theorem scr_codec : Codec Tryz.prog 31 Scr scrC Scr.good := by
  refine ⟨fun {H} enc w base held fuel cs x hx hw => ?_⟩
  have hu := Tryz.underlying31
  have hl : cs.length = 9 := (struct_len hu hx).trans (by kernel_rfl)
  obtain ⟨a0, q0, h0⟩ := struct_field hu hx hw 0 0 8 rfl rfl (by kernel_rfl) wld_codec
  obtain ⟨a1, q1, h1⟩ := struct_field hu hx hw 1 8 1 rfl rfl (by kernel_rfl) cmds_codec
  refine ⟨⟨a0, a1⟩, ⟨q0, q1.2⟩, ?_⟩
  have := h0.cons rfl (h1.cons rfl (CellsOK.stop hl))
  rw [List.drop_zero] at this
  exact this
end Go.Proofs
