/- The ground on which laws of thronglaw23 are proved: contracts of functions and plain lemmas; no condition beyond the row's own. -/
import Derived.Test.YtlmechfgnfepoaaGreatVH
import Derived.Test.YtlmechfgnfepoaaGreatSI
import Derived.Test.YtlmechfgnfepoaaGreatVC
set_option linter.unusedSimpArgs false
set_option linter.unusedVariables false
namespace Go.Proofs
open Go Go.V
theorem jh (n : Int) (st : Store) (R : AV → Store → Prop) (h : R (int n) st) : ACalls Tryz.prog 22 [int n] st R := by
 refine ACalls.of_body (c := cfg 4) zd Tryz.func22 (by rfl) (by rfl) (by rfl) (by rfl) ?_
 exact ret h
def w00q : Wld := ⟨0, 0, 0, ⟨0, 0, []⟩, [], []⟩
end Go.Proofs
namespace Go.Proofs
open Go Go.V
end Go.Proofs
namespace Go.Proofs
open Go Go.V
theorem zb0 {k : Int} {E : Wld → Cmd → Int} {W : Wld → Cmd → Wld} (hD : vg k E W) (w : Wld) (hw : w.fits) (hn : ∀ u ∈ w.U, u.pos.ok) (hT : w.G.T.length ≤ 1000000) (hB : w.B.length ≤ 1000000) (hU : w.U.length ≤ 1000000)
  (c : Cmd) (hW : mayP w → (W w c).G.T.length ≤ 1000000 ∧ (W w c).B.length ≤ 1000000 ∧ (W w c).U.length ≤ 1000000) (hc : c.fits) (hK : c.K = k) (st : Store) (R : AV → Store → Prop)
  (h : R (.tup [.agg (wldC (doW E W w c)), int (doE E w c)]) st) : ACalls Tryz.prog 21 [.agg (wldC w), .agg (cmdC c)] st R := by
 have h1 := (znr hD w hw hn hT hB hU c hW hc hK (fun r S => ∃ vT vB vU NT NB NU, OwnQ S (doW E W w c) vT vB vU NT NB NU ∧ r = .tup [.agg (wld3 (doW E W w c) vT vB vU), int (doE E w c)]) fun S vT vB vU NT NB NU ho => ⟨vT, vB, vU, NT, NB, NU, ho, rfl⟩).frozen (R := fun r => r = .tup [.agg (wldC (doW E W w c)), int (doE E w c)]) (by
  rintro r S ⟨vT, vB, vU, NT, NB, NU, ho, rfl⟩
  refine ⟨_, rfl, fun Oth M w' v' sto hx => ?_⟩
  cases hx with
  | tup _ c2 hl hc2 =>
   refine .tup _ c2 hl fun i x y hx hy => ?_
   match i with
   | 0 => simp only [List.getElem?_cons_zero, Option.some.injEq] at hx; subst hx; exact zjw ho sto (hc2 0 _ y rfl hy)
   | 1 => simp only [List.getElem?_cons_succ, List.getElem?_cons_zero, Option.some.injEq] at hx; subst hx; exact zw (hc2 1 _ y rfl hy)
   | i + 2 => simp at hx)
 have h2 : ACalls Tryz.prog 21 [.agg (wldC w), .agg (cmdC c)] Store.empty fun r S => r = .tup [.agg (wldC (doW E W w c)), int (doE E w c)] ∧ S = Store.empty :=
  h1.post (Store.Le.refl _) fun r st' hr => ⟨r, Store.empty, AV.le_refl r, (hasE st').toLe, hr, rfl⟩
 rw [← yx st]
 exact ACalls.frame (kw st) h2 fun r S ⟨e, e2⟩ hd => by subst e e2; rw [yx]; exact h
theorem zgy (st : Store) (R : AV → Store → Prop) (h : R (V.bool true) st) : ACalls Tryz.prog 19 [] st R := by
 have f1 : w0a.fits := ⟨by unfold Gnd.fits; decide, by decide, by decide⟩
 have f2 : w1a.fits := ⟨by unfold Gnd.fits; decide, by decide, by decide⟩
 have hn2 : ∀ u ∈ w1a.U, u.pos.ok := fun u hu => by
  rcases List.mem_singleton.1 hu with rfl
  unfold Vc.ok yd
  decide
 refine ACalls.of_body (c := cfg 38) zd Tryz.func19 (by rfl) (by rfl) (by rfl) (by rfl) ?_
 refine ⟨by decide, ?_⟩
 refine ACalls.le (ys := [.agg (wldC w0a), .agg (cmdC c0a)]) ⟨AV.le_aggL ⟨ar_ _, ar_ _, ar_ _, ar_ _, ar_ _, ar_ _, AV.le_nil 6, AV.le_nil 10, trivial⟩, AV.le_aggL ⟨ar_ _, ar_ _, ar_ _, ar_ _, AV.le_nil 1, ar_ _, ar_ _, ar_ _, ar_ _, ar_ _, trivial⟩, trivial⟩ ?_
 refine zb0 ycr w0a f1 (fun u hu => by cases hu) (by decide) (by decide) (by decide) c0a (fun _ => ⟨by decide, by decide, by decide⟩) (by unfold Cmd.fits; decide) rfl _ _ ?_
 rw [ydw, zy9]
 refine ACalls.le (ys := [.agg (wldC w1a), .agg (cmdC c0a)]) ⟨ar_ _, AV.le_aggL ⟨ar_ _, ar_ _, ar_ _, ar_ _, AV.le_nil 1, ar_ _, ar_ _, ar_ _, ar_ _, ar_ _, trivial⟩, trivial⟩ ?_
 refine zb0 ycr w1a f2 hn2 (by decide) (by decide) (by decide) c0a (fun _ => ⟨by decide, by decide, by decide⟩) (by unfold Cmd.fits; decide) rfl _ _ ?_
 rw [ydy]
 refine jh _ _ _ ?_
 refine jh _ _ _ ?_
 exact ret h
end Go.Proofs
namespace Go.Proofs
open Go Go.V
theorem zfh {n : Int} (h : (Lit.int .i64 n).wf = true) : yd n := by
 simp [Lit.wf, IntKind.min, IntKind.max, IntKind.signed, IntKind.bits] at h
 unfold yd
 omega
theorem zh8 : Codec Tryz.prog 2 Int intC yd := (Codec.int Tryz.underlying2).weaken fun _ h => zfh h
theorem zp : Codec Tryz.prog 3 Int intC yd := (Codec.int Tryz.underlying3).weaken fun _ h => zfh h
theorem zko : Codec Tryz.prog 22 (List UInt8) (fun l => [byts l]) (fun l => l.length ≤ 140737488355328) :=
 (Codec.slice Tryz.underlying22 (k := 1) (by kernel_rfl) (by decide) (of_decide_eq_true (by kernel_rfl)) (Codec.byte Tryz.underlying5)).weaken fun _ h => h.2
theorem zm1 : Codec Tryz.prog 36 (List Int) (fun l => [ints l]) (fun l => l.length ≤ 140737488355328 ∧ ∀ n ∈ l, yd n) :=
 (Codec.slice Tryz.underlying36 (k := 1) (by kernel_rfl) (by decide) (of_decide_eq_true (by kernel_rfl)) zp).weaken fun _ h => ⟨h.2, h.1⟩
theorem zg1 : Codec Tryz.prog 38 Vc vecC Vc.ok := by
 refine ⟨fun {H} enc w base held fuel cs x hx hw => ?_⟩
 have hu := Tryz.underlying38
 have hl : cs.length = 2 := (xl hu hx).trans (by kernel_rfl)
 obtain ⟨a0, q0, h0⟩ := zi hu hx hw 0 0 1 rfl rfl (by kernel_rfl) zh8
 obtain ⟨a1, q1, h1⟩ := zi hu hx hw 1 1 1 rfl rfl (by kernel_rfl) zh8
 refine ⟨(a0, a1), ⟨q0, q1⟩, ?_⟩
 have := h0.cons rfl (h1.cons rfl (CellsOK.stop hl))
 rw [List.drop_zero] at this
 exact this
theorem zqi : Codec Tryz.prog 24 Gnd gndC (fun g => g.T.length ≤ 140737488355328) := by
 refine ⟨fun {H} enc w base held fuel cs x hx hw => ?_⟩
 have hu := Tryz.underlying24
 have hl : cs.length = 3 := (xl hu hx).trans (by kernel_rfl)
 obtain ⟨a0, q0, h0⟩ := zi hu hx hw 0 0 1 rfl rfl (by kernel_rfl) zp
 obtain ⟨a1, q1, h1⟩ := zi hu hx hw 1 1 1 rfl rfl (by kernel_rfl) zp
 obtain ⟨a2, q2, h2⟩ := zi hu hx hw 2 2 1 rfl rfl (by kernel_rfl) zko
 refine ⟨⟨a0, a1, a2⟩, q2, ?_⟩
 have := h0.cons rfl (h1.cons rfl (h2.cons rfl (CellsOK.stop hl)))
 rw [List.drop_zero] at this
 exact this
theorem zq8 : Codec Tryz.prog 59 Bld bldC (fun _ => True) := by
 refine ⟨fun {H} enc w base held fuel cs x hx hw => ?_⟩
 have hu := Tryz.underlying59
 have hl : cs.length = 6 := (xl hu hx).trans (by kernel_rfl)
 obtain ⟨a0, q0, h0⟩ := zi hu hx hw 0 0 1 rfl rfl (by kernel_rfl) zp
 obtain ⟨a1, q1, h1⟩ := zi hu hx hw 1 1 1 rfl rfl (by kernel_rfl) zp
 obtain ⟨a2, q2, h2⟩ := zi hu hx hw 2 2 1 rfl rfl (by kernel_rfl) zp
 obtain ⟨a3, q3, h3⟩ := zi hu hx hw 3 3 1 rfl rfl (by kernel_rfl) zp
 obtain ⟨a4, q4, h4⟩ := zi hu hx hw 4 4 1 rfl rfl (by kernel_rfl) zp
 obtain ⟨a5, q5, h5⟩ := zi hu hx hw 5 5 1 rfl rfl (by kernel_rfl) zp
 refine ⟨⟨a0, a1, a2, a3, a4, a5⟩, trivial, ?_⟩
 have := h0.cons rfl (h1.cons rfl (h2.cons rfl (h3.cons rfl (h4.cons rfl (h5.cons rfl (CellsOK.stop hl))))))
 rw [List.drop_zero] at this
 exact this
theorem znp : Codec Tryz.prog 25 (List Bld) (fun l => [lst 6 bldC l]) (fun l => l.length ≤ 140737488355328) :=
 (Codec.slice Tryz.underlying25 (k := 6) (by kernel_rfl) (by decide) (of_decide_eq_true (by kernel_rfl)) zq8).weaken fun _ h => h.2
theorem zn2 : Codec Tryz.prog 50 Unt untC (fun u => u.pos.ok) := by
 refine ⟨fun {H} enc w base held fuel cs x hx hw => ?_⟩
 have hu := Tryz.underlying50
 have hl : cs.length = 10 := (xl hu hx).trans (by kernel_rfl)
 obtain ⟨a0, q0, h0⟩ := zi hu hx hw 0 0 1 rfl rfl (by kernel_rfl) zp
 obtain ⟨a1, q1, h1⟩ := zi hu hx hw 1 1 1 rfl rfl (by kernel_rfl) zp
 obtain ⟨a2, q2, h2⟩ := zi hu hx hw 2 2 1 rfl rfl (by kernel_rfl) zp
 obtain ⟨a3, q3, h3⟩ := zi hu hx hw 3 3 2 rfl rfl (by kernel_rfl) zg1
 obtain ⟨a4, q4, h4⟩ := zi hu hx hw 4 5 1 rfl rfl (by kernel_rfl) zp
 obtain ⟨a5, q5, h5⟩ := zi hu hx hw 5 6 1 rfl rfl (by kernel_rfl) zp
 obtain ⟨a6, q6, h6⟩ := zi hu hx hw 6 7 1 rfl rfl (by kernel_rfl) zp
 obtain ⟨a7, q7, h7⟩ := zi hu hx hw 7 8 1 rfl rfl (by kernel_rfl) zp
 obtain ⟨a8, q8, h8⟩ := zi hu hx hw 8 9 1 rfl rfl (by kernel_rfl) zp
 refine ⟨⟨a0, a1, a2, a3, a4, a5, a6, a7, a8⟩, q3, ?_⟩
 have := h0.cons rfl (h1.cons rfl (h2.cons rfl (h3.cons rfl (h4.cons rfl (h5.cons rfl (h6.cons rfl (h7.cons rfl (h8.cons rfl (CellsOK.stop hl)))))))))
 rw [List.drop_zero] at this
 exact this
theorem zl3 : Codec Tryz.prog 26 (List Unt) (fun l => [lst 10 untC l]) (fun l => l.length ≤ 140737488355328 ∧ ∀ u ∈ l, u.pos.ok) :=
 (Codec.slice Tryz.underlying26 (k := 10) (by kernel_rfl) (by decide) (of_decide_eq_true (by kernel_rfl)) zn2).weaken fun _ h => ⟨h.2, h.1⟩
theorem zn1 : Codec Tryz.prog 28 Wld wldC (fun w => ∀ u ∈ w.U, u.pos.ok) := by
 refine ⟨fun {H} enc w base held fuel cs x hx hw => ?_⟩
 have hu := Tryz.underlying28
 have hl : cs.length = 8 := (xl hu hx).trans (by kernel_rfl)
 obtain ⟨a0, q0, h0⟩ := zi hu hx hw 0 0 1 rfl rfl (by kernel_rfl) zp
 obtain ⟨a1, q1, h1⟩ := zi hu hx hw 1 1 1 rfl rfl (by kernel_rfl) zp
 obtain ⟨a2, q2, h2⟩ := zi hu hx hw 2 2 1 rfl rfl (by kernel_rfl) zp
 obtain ⟨a3, q3, h3⟩ := zi hu hx hw 3 3 3 rfl rfl (by kernel_rfl) zqi
 obtain ⟨a4, q4, h4⟩ := zi hu hx hw 4 6 1 rfl rfl (by kernel_rfl) znp
 obtain ⟨a5, q5, h5⟩ := zi hu hx hw 5 7 1 rfl rfl (by kernel_rfl) zl3
 refine ⟨⟨a0, a1, a2, a3, a4, a5⟩, q5.2, ?_⟩
 have := h0.cons rfl (h1.cons rfl (h2.cons rfl (h3.cons rfl (h4.cons rfl (h5.cons rfl (CellsOK.stop hl))))))
 rw [List.drop_zero] at this
 exact this
theorem zq1 : Codec Tryz.prog 40 Cmd cmdC Cmd.sized := by
 refine ⟨fun {H} enc w base held fuel cs x hx hw => ?_⟩
 have hu := Tryz.underlying40
 have hl : cs.length = 10 := (xl hu hx).trans (by kernel_rfl)
 obtain ⟨a0, q0, h0⟩ := zi hu hx hw 0 0 1 rfl rfl (by kernel_rfl) zp
 obtain ⟨a1, q1, h1⟩ := zi hu hx hw 1 1 1 rfl rfl (by kernel_rfl) zp
 obtain ⟨a2, q2, h2⟩ := zi hu hx hw 2 2 1 rfl rfl (by kernel_rfl) zp
 obtain ⟨a3, q3, h3⟩ := zi hu hx hw 3 3 1 rfl rfl (by kernel_rfl) zp
 obtain ⟨a4, q4, h4⟩ := zi hu hx hw 4 4 1 rfl rfl (by kernel_rfl) zm1
 obtain ⟨a5, q5, h5⟩ := zi hu hx hw 5 5 1 rfl rfl (by kernel_rfl) zp
 obtain ⟨a6, q6, h6⟩ := zi hu hx hw 6 6 1 rfl rfl (by kernel_rfl) zp
 obtain ⟨a7, q7, h7⟩ := zi hu hx hw 7 7 1 rfl rfl (by kernel_rfl) zp
 obtain ⟨a8, q8, h8⟩ := zi hu hx hw 8 8 2 rfl rfl (by kernel_rfl) zg1
 refine ⟨⟨a0, a1, a2, a3, a4, a5, a6, a7, a8.1, a8.2⟩, q4.1, ?_⟩
 have := h0.cons rfl (h1.cons rfl (h2.cons rfl (h3.cons rfl (h4.cons rfl (h5.cons rfl (h6.cons rfl (h7.cons rfl (h8.cons rfl (CellsOK.stop hl)))))))))
 rw [List.drop_zero] at this
 exact this
theorem znn : Codec Tryz.prog 29 (List Cmd) (fun l => [lst 10 cmdC l]) (fun l => l.length ≤ 140737488355328 ∧ ∀ c ∈ l, c.sized) :=
 (Codec.slice Tryz.underlying29 (k := 10) (by kernel_rfl) (by decide) (of_decide_eq_true (by kernel_rfl)) zq1).weaken fun _ h => ⟨h.2, h.1⟩
def Scr.good (s : Scr) : Prop := (∀ u ∈ s.W.U, u.pos.ok) ∧ ∀ c ∈ s.L, c.sized
theorem scr_codec : Codec Tryz.prog 31 Scr scrC Scr.good := by
 refine ⟨fun {H} enc w base held fuel cs x hx hw => ?_⟩
 have hu := Tryz.underlying31
 have hl : cs.length = 9 := (xl hu hx).trans (by kernel_rfl)
 obtain ⟨a0, q0, h0⟩ := zi hu hx hw 0 0 8 rfl rfl (by kernel_rfl) zn1
 obtain ⟨a1, q1, h1⟩ := zi hu hx hw 1 8 1 rfl rfl (by kernel_rfl) znn
 refine ⟨⟨a0, a1⟩, ⟨q0, q1.2⟩, ?_⟩
 have := h0.cons rfl (h1.cons rfl (CellsOK.stop hl))
 rw [List.drop_zero] at this
 exact this
end Go.Proofs
