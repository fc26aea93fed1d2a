/- Ground of laws of thronglaw21: contracts and plain lemmas; no condition beyond the row's own. -/
import Derived.Test.YthjfdaifoocijaaGreatKL
import Derived.Test.YthjfdaifoocijaaGreatKM
set_option linter.unusedSimpArgs false
set_option linter.unusedVariables false
namespace Go.Proofs
open Go Go.V
set_option maxRecDepth 4000
theorem L8 {n : Int} (h : (Lit.int .i64 n).wf = true) : zl n := by
 simp [Lit.wf, IntKind.min, IntKind.max, IntKind.signed, IntKind.bits] at h
 unfold zl
 omega
theorem Kx : Codec Tryz.prog 2 Int xf zl := (Codec.int Tryz.underlying2).weaken fun _ h => L8 h
theorem y7 : Codec Tryz.prog 3 Int xf zl := (Codec.int Tryz.underlying3).weaken fun _ h => L8 h
theorem zds : Codec Tryz.prog 22 (List UInt8) (fun l => [xl l]) (fun l => l.length <= 140737488355328) :=
 (Codec.slice Tryz.underlying22 (k := 1) (by kernel_rfl) (by decide) (of_decide_eq_true (by kernel_rfl)) (Codec.byte Tryz.underlying5)).weaken fun _ h => h.2
theorem Ku : Codec Tryz.prog 29 (List Int) (fun l => [kx l]) (fun l => l.length <= 140737488355328 /\ ∀ n ∈ l, zl n) :=
 (Codec.slice Tryz.underlying29 (k := 1) (by kernel_rfl) (by decide) (of_decide_eq_true (by kernel_rfl)) y7).weaken fun _ h => ⟨h.2, h.1⟩
theorem Hu : Codec Tryz.prog 34 Vc zn Vc.ok := by
 refine ⟨fun {H} enc w base held fuel cs x hx hw => ?_⟩
 have hu := Tryz.underlying34
 have hl : cs.length = 2 := (wg hu hx).trans (by kernel_rfl)
 obtain ⟨a0, q0, h0⟩ := yh hu hx hw 0 0 1 rfl rfl (by kernel_rfl) Kx
 obtain ⟨a1, q1, h1⟩ := yh hu hx hw 1 1 1 rfl rfl (by kernel_rfl) Kx
 refine ⟨(a0, a1), ⟨q0, q1⟩, ?_⟩
 have := h0.cons rfl (h1.cons rfl (CellsOK.stop hl))
 rw [List.drop_zero] at this
 exact this
theorem M6 : Codec Tryz.prog 30 (List Vc) (fun l => [lst 2 zn l]) (fun l => l.length <= 140737488355328 /\ ∀ v ∈ l, v.ok) :=
 (Codec.slice Tryz.underlying30 (k := 2) (by kernel_rfl) (by decide) (of_decide_eq_true (by kernel_rfl)) Hu).weaken fun _ h => ⟨h.2, h.1⟩
theorem zbr : Codec Tryz.prog 24 Gnd zz (fun g => g.T.length <= 140737488355328) := by
 refine ⟨fun {H} enc w base held fuel cs x hx hw => ?_⟩
 have hu := Tryz.underlying24
 have hl : cs.length = 3 := (wg hu hx).trans (by kernel_rfl)
 obtain ⟨a0, q0, h0⟩ := yh hu hx hw 0 0 1 rfl rfl (by kernel_rfl) y7
 obtain ⟨a1, q1, h1⟩ := yh hu hx hw 1 1 1 rfl rfl (by kernel_rfl) y7
 obtain ⟨a2, q2, h2⟩ := yh hu hx hw 2 2 1 rfl rfl (by kernel_rfl) zds
 refine ⟨⟨a0, a1, a2⟩, q2, ?_⟩
 have := h0.cons rfl (h1.cons rfl (h2.cons rfl (CellsOK.stop hl)))
 rw [List.drop_zero] at this
 exact this
theorem zdy : Codec Tryz.prog 164 Bld zo (fun _ => True) := by
 refine ⟨fun {H} enc w base held fuel cs x hx hw => ?_⟩
 have hu := Tryz.underlying164
 have hl : cs.length = 6 := (wg hu hx).trans (by kernel_rfl)
 obtain ⟨a0, q0, h0⟩ := yh hu hx hw 0 0 1 rfl rfl (by kernel_rfl) y7
 obtain ⟨a1, q1, h1⟩ := yh hu hx hw 1 1 1 rfl rfl (by kernel_rfl) y7
 obtain ⟨a2, q2, h2⟩ := yh hu hx hw 2 2 1 rfl rfl (by kernel_rfl) y7
 obtain ⟨a3, q3, h3⟩ := yh hu hx hw 3 3 1 rfl rfl (by kernel_rfl) y7
 obtain ⟨a4, q4, h4⟩ := yh hu hx hw 4 4 1 rfl rfl (by kernel_rfl) y7
 obtain ⟨a5, q5, h5⟩ := yh hu hx hw 5 5 1 rfl rfl (by kernel_rfl) y7
 refine ⟨⟨a0, a1, a2, a3, a4, a5⟩, Tv, ?_⟩
 have := h0.cons rfl (h1.cons rfl (h2.cons rfl (h3.cons rfl (h4.cons rfl (h5.cons rfl (CellsOK.stop hl))))))
 rw [List.drop_zero] at this
 exact this
theorem zdx : Codec Tryz.prog 25 (List Bld) (fun l => [lst 6 zo l]) (fun l => l.length <= 140737488355328) :=
 (Codec.slice Tryz.underlying25 (k := 6) (by kernel_rfl) (by decide) (of_decide_eq_true (by kernel_rfl)) zdy).weaken fun _ h => h.2
theorem Nc : Codec Tryz.prog 37 Unt zi (fun u => u.pos.ok) := by
 refine ⟨fun {H} enc w base held fuel cs x hx hw => ?_⟩
 have hu := Tryz.underlying37
 have hl : cs.length = 10 := (wg hu hx).trans (by kernel_rfl)
 obtain ⟨a0, q0, h0⟩ := yh hu hx hw 0 0 1 rfl rfl (by kernel_rfl) y7
 obtain ⟨a1, q1, h1⟩ := yh hu hx hw 1 1 1 rfl rfl (by kernel_rfl) y7
 obtain ⟨a2, q2, h2⟩ := yh hu hx hw 2 2 1 rfl rfl (by kernel_rfl) y7
 obtain ⟨a3, q3, h3⟩ := yh hu hx hw 3 3 2 rfl rfl (by kernel_rfl) Hu
 obtain ⟨a4, q4, h4⟩ := yh hu hx hw 4 5 1 rfl rfl (by kernel_rfl) y7
 obtain ⟨a5, q5, h5⟩ := yh hu hx hw 5 6 1 rfl rfl (by kernel_rfl) y7
 obtain ⟨a6, q6, h6⟩ := yh hu hx hw 6 7 1 rfl rfl (by kernel_rfl) y7
 obtain ⟨a7, q7, h7⟩ := yh hu hx hw 7 8 1 rfl rfl (by kernel_rfl) y7
 obtain ⟨a8, q8, h8⟩ := yh hu hx hw 8 9 1 rfl rfl (by kernel_rfl) y7
 refine ⟨⟨a0, a1, a2, a3, a4, a5, a6, a7, a8⟩, q3, ?_⟩
 have := h0.cons rfl (h1.cons rfl (h2.cons rfl (h3.cons rfl (h4.cons rfl (h5.cons rfl (h6.cons rfl (h7.cons rfl (h8.cons rfl (CellsOK.stop hl)))))))))
 rw [List.drop_zero] at this
 exact this
theorem Nb : Codec Tryz.prog 26 (List Unt) (fun l => [lst 10 zi l]) (fun l => l.length <= 140737488355328 /\ ∀ u ∈ l, u.pos.ok) :=
 (Codec.slice Tryz.underlying26 (k := 10) (by kernel_rfl) (by decide) (of_decide_eq_true (by kernel_rfl)) Nc).weaken fun _ h => ⟨h.2, h.1⟩
theorem Mw : Codec Tryz.prog 28 Wld zp (fun w => ∀ u ∈ w.U, u.pos.ok) := by
 refine ⟨fun {H} enc w base held fuel cs x hx hw => ?_⟩
 have hu := Tryz.underlying28
 have hl : cs.length = 8 := (wg hu hx).trans (by kernel_rfl)
 obtain ⟨a0, q0, h0⟩ := yh hu hx hw 0 0 1 rfl rfl (by kernel_rfl) y7
 obtain ⟨a1, q1, h1⟩ := yh hu hx hw 1 1 1 rfl rfl (by kernel_rfl) y7
 obtain ⟨a2, q2, h2⟩ := yh hu hx hw 2 2 1 rfl rfl (by kernel_rfl) y7
 obtain ⟨a3, q3, h3⟩ := yh hu hx hw 3 3 3 rfl rfl (by kernel_rfl) zbr
 obtain ⟨a4, q4, h4⟩ := yh hu hx hw 4 6 1 rfl rfl (by kernel_rfl) zdx
 obtain ⟨a5, q5, h5⟩ := yh hu hx hw 5 7 1 rfl rfl (by kernel_rfl) Nb
 refine ⟨⟨a0, a1, a2, a3, a4, a5⟩, q5.2, ?_⟩
 have := h0.cons rfl (h1.cons rfl (h2.cons rfl (h3.cons rfl (h4.cons rfl (h5.cons rfl (CellsOK.stop hl))))))
 rw [List.drop_zero] at this
 exact this
def Ask21.good (a : Ask21) : Prop := (∀ u ∈ a.W.U, u.pos.ok) /\ (∀ n ∈ a.I, zl n) /\ (∀ n ∈ a.K, zl n) /\ ∀ v ∈ a.P, v.ok
theorem ask21_codec : Codec Tryz.prog 32 Ask21 kk Ask21.good := by
 refine ⟨fun {H} enc w base held fuel cs x hx hw => ?_⟩
 have hu := Tryz.underlying32
 have hl : cs.length = 11 := (wg hu hx).trans (by kernel_rfl)
 obtain ⟨a0, q0, h0⟩ := yh hu hx hw 0 0 8 rfl rfl (by kernel_rfl) Mw
 obtain ⟨a1, q1, h1⟩ := yh hu hx hw 1 8 1 rfl rfl (by kernel_rfl) Ku
 obtain ⟨a2, q2, h2⟩ := yh hu hx hw 2 9 1 rfl rfl (by kernel_rfl) Ku
 obtain ⟨a3, q3, h3⟩ := yh hu hx hw 3 10 1 rfl rfl (by kernel_rfl) M6
 refine ⟨⟨a0, a1, a2, a3⟩, ⟨q0, q1.2, q2.2, q3.2⟩, ?_⟩
 have := h0.cons rfl (h1.cons rfl (h2.cons rfl (h3.cons rfl (CellsOK.stop hl))))
 rw [List.drop_zero] at this
 exact this
end Go.Proofs
