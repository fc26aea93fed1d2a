/- The ground on which laws of thronglaw31 are proved: contracts of functions and plain lemmas; no condition beyond the row's own. -/
import Derived.Test.YtlidamnkhidljaaGreatKD
import Derived.Test.YtlidamnkhidljaaGreatKG
import Derived.Test.YtlidamnkhidljaaGreatKF
set_option linter.unusedSimpArgs false
set_option linter.unusedVariables false
namespace Go.Proofs
open Go Go.V
def zfd : V.Sched := (sv [0, 1, 2, 3, 4, 5, 6] (.e 7 [1] (sv [8, 9] (.e 10 [] (sv [11] (.e 12 [] .done .stop)) .stop)) .stop))
def zr7 : V.Sched := (sv [0, 1, 2, 3, 4, 5] (.e 6 [3] (sv [7, 8] (.e 9 [] .done .stop)) .stop))
def zsf : V.Sched := (sv [0, 1, 2, 3, 4] (.e 5 [] .done .stop))
def zse : V.Sched := (sv [0, 1, 2, 3, 4, 5, 6, 7, 8] .done)
def zsd : V.Sched := (sv [0, 1, 2, 3, 4, 5, 6, 7, 8, 9, 10, 11, 12] (.e 13 [] .done .stop))
def zn0 : V.Sched := (sv [0, 1] (.e 2 [] (sv [3, 4, 5, 6, 7] (.e 8 [] (sv [9, 10, 11, 12, 13, 14, 15, 16, 17, 18, 19, 20, 21, 22, 23, 24, 25] .done) .stop)) .stop))
def zsc : V.Sched := (sv [0] (.e 1 [0] (sv [2] (.e 3 [] (.e 4 [] .done .stop) .stop)) .stop))
def zsb : V.Sched := (sv [0, 1, 2, 3, 4, 5, 6, 7] (.e 8 [] .done .stop))
def zsa : V.Sched := (sv [0, 1, 2, 3, 4, 5, 6, 7, 9, 10, 11] (.e 8 [4, 9, 11] (.e 12 [] (sv [13] .done) .stop) .stop))
def zr9 : V.Sched := (sv [0, 1, 2, 3, 4, 5, 6, 7, 8, 9, 10, 11] (.e 12 [5, 7, 9] (sv [13] (.e 14 [] (sv [15, 16] .done) .stop)) .stop))
def znz : V.Sched := (sv [0, 1, 2, 3, 4, 5, 6, 7, 8, 9, 10, 11, 12, 13, 15, 16] (.e 14 [16] (.e 17 [13] (sv [18, 19, 20] .done) .stop) (.e 17 [13] (sv [18] (.e 14 [16] (sv [19, 20] .done) .stop)) .stop)))
def zr8 : V.Sched := (sv [0, 1, 2, 3, 4, 5] (.e 6 [] .done .stop))
def zr6 : V.Sched := (sv [0, 1, 2, 3, 4, 6] (.e 5 [] (.e 7 [] (sv [8, 9, 10] (.e 11 [] (.e 12 [] .done .stop) .stop)) .stop) .stop))
def zr5 : V.Sched := (sv [0, 1, 2, 3, 4, 5, 6, 7, 8, 9, 11, 12] (.e 10 [3, 4] (.e 13 [3, 4, 8, 9] (.e 14 [3, 4] (.e 15 [] .done .stop) .stop) .stop) (.e 13 [3, 4, 8, 9] (.e 10 [3, 4] (.e 14 [3, 4] (.e 15 [] .done .stop) .stop) .stop) .stop)))
def zit : V.Sched := (sv [0, 1, 2, 3, 4, 5] (.e 6 [] .done .stop))
def zr4 : V.Sched := (sv [0, 1, 2, 3, 4, 5] (.e 6 [4] (.e 7 [] .done .stop) .stop))
def zfc : V.Sched := (sv [0, 1, 2, 3, 4, 5, 6, 7, 8, 9, 10, 11, 12, 14, 15] (.e 13 [] (sv [16] (.e 17 [] .done .stop)) .stop))
def zr3 : V.Sched := (sv [0, 1, 2, 3, 4, 5, 6, 9] (.e 7 [] (sv [8] .done) .stop))
def zr2 : V.Sched := (sv [0, 1, 2, 4] (.e 3 [0, 1] (.e 5 [0, 1] (sv [6] (.e 7 [] (sv [8] (.e 9 [] .done .stop)) .stop)) .stop) .stop))
def zr1 : V.Sched := (sv [0, 1, 2, 3, 4, 5, 6, 7, 8, 9, 10, 11] .done)
def zr0 : V.Sched := (sv [0, 1, 2, 3, 4] (.e 5 [] (.e 6 [] .done .stop) .stop))
def zrz : V.Sched := (sv [0, 1, 2, 3, 4] (.e 5 [] .done .stop))
def zny : V.Sched := (sv [0, 1, 2, 3, 4, 5] (.e 6 [] .done .stop))
def zry : V.Sched := (sv [0, 1, 3, 4] (.e 2 [4] (.e 5 [] (sv [6] (.e 7 [] .done .stop)) .stop) .stop))
def zrx : V.Sched := (sv [0, 1, 2, 3, 4, 5, 6, 7, 8, 9] (.e 10 [7] (.e 11 [] .done .stop) .stop))
def zrw : V.Sched := (sv [0, 1, 2, 4, 5, 6] (.e 3 [5, 6] (.e 7 [] (sv [8] (.e 9 [] (.e 10 [0, 1, 2, 4, 5, 6, 8] (.e 11 [] .done .stop) .stop) (.e 10 [0, 1, 2, 4, 5, 6, 8] (.e 9 [] (.e 11 [] .done .stop) .stop) .stop))) (.e 10 [0, 1, 2, 4, 5, 6] (.e 7 [] (sv [8] (.e 9 [] (.e 11 [] .done .stop) .stop)) .stop) .stop)) (.e 10 [0, 1, 2, 4, 5, 6] (.e 3 [5, 6] (.e 7 [] (sv [8] (.e 9 [] (.e 11 [] .done .stop) .stop)) .stop) .stop) .stop)))
def zrv : V.Sched := (sv [0, 1, 2, 4, 5, 6] (.e 3 [5, 6] (.e 7 [] (sv [8] (.e 9 [] (.e 10 [0, 1, 2, 4, 5, 6, 8] (.e 11 [] .done .stop) .stop) (.e 10 [0, 1, 2, 4, 5, 6, 8] (.e 9 [] (.e 11 [] .done .stop) .stop) .stop))) (.e 10 [0, 1, 2, 4, 5, 6] (.e 7 [] (sv [8] (.e 9 [] (.e 11 [] .done .stop) .stop)) .stop) .stop)) (.e 10 [0, 1, 2, 4, 5, 6] (.e 3 [5, 6] (.e 7 [] (sv [8] (.e 9 [] (.e 11 [] .done .stop) .stop)) .stop) .stop) .stop)))
def zn2 : V.Sched := (sv [0, 1, 2, 3, 4, 5, 7] (.e 6 [0, 7] (.e 8 [] .done .stop) .stop))
def zn1 : V.Sched := (sv [0, 1, 2, 3, 5, 6, 7, 8] (.e 4 [6, 8] (.e 9 [] (sv [10] (.e 11 [] .done .stop)) .stop) .stop))
end Go.Proofs
namespace Go.Proofs
open Go Go.V
set_option maxRecDepth 4000
theorem ze : zp Tryz.prog infoTree.get := Tr.ok _ zfl
def cfg (n : Nat) (G : List Nat := []) (W : List Nat := []) : Cfg := { n := n, I := infoTree.get, G := G, W := W }
theorem zcb {n : Int} (h : (Lit.int .i64 n).wf = true) : yu n := by
 simp [Lit.wf, IntKind.min, IntKind.max, IntKind.signed, IntKind.bits] at h
 unfold yu
 omega
theorem zd2 : Codec Tryz.prog 2 Int intC yu := (Codec.int Tryz.underlying2).weaken fun _ h => zcb h
theorem zw : Codec Tryz.prog 3 Int intC yu := (Codec.int Tryz.underlying3).weaken fun _ h => zcb h
theorem zf0 : Codec Tryz.prog 24 (List UInt8) (fun l => [byts l]) (fun l => l.length <= 140737488355328) :=
 (Codec.slice Tryz.underlying24 (k := 1) (by kernel_rfl) (by decide) (of_decide_eq_true (by kernel_rfl)) (Codec.byte Tryz.underlying5)).weaken fun _ h => h.2
theorem zic : Codec Tryz.prog 45 Vc vecC Vc.ok := by
 refine ⟨fun {H} enc w base held fuel cs x hx hw => ?_⟩
 have hu := Tryz.underlying45
 have hl : cs.length = 2 := (xu hu hx).trans (by kernel_rfl)
 obtain ⟨a0, q0, h0⟩ := zg hu hx hw 0 0 1 rfl rfl (by kernel_rfl) zd2
 obtain ⟨a1, q1, h1⟩ := zg hu hx hw 1 1 1 rfl rfl (by kernel_rfl) zd2
 refine ⟨(a0, a1), ⟨q0, q1⟩, ?_⟩
 have := h0.cons rfl (h1.cons rfl (CellsOK.stop hl))
 rw [List.drop_zero] at this
 exact this
theorem zjv : Codec Tryz.prog 26 Gnd gndC (fun g => g.T.length <= 140737488355328) := by
 refine ⟨fun {H} enc w base held fuel cs x hx hw => ?_⟩
 have hu := Tryz.underlying26
 have hl : cs.length = 3 := (xu hu hx).trans (by kernel_rfl)
 obtain ⟨a0, q0, h0⟩ := zg hu hx hw 0 0 1 rfl rfl (by kernel_rfl) zw
 obtain ⟨a1, q1, h1⟩ := zg hu hx hw 1 1 1 rfl rfl (by kernel_rfl) zw
 obtain ⟨a2, q2, h2⟩ := zg hu hx hw 2 2 1 rfl rfl (by kernel_rfl) zf0
 refine ⟨⟨a0, a1, a2⟩, q2, ?_⟩
 have := h0.cons rfl (h1.cons rfl (h2.cons rfl (CellsOK.stop hl)))
 rw [List.drop_zero] at this
 exact this
theorem zkf : Codec Tryz.prog 50 Bld bldC (fun _ => True) := by
 refine ⟨fun {H} enc w base held fuel cs x hx hw => ?_⟩
 have hu := Tryz.underlying50
 have hl : cs.length = 6 := (xu hu hx).trans (by kernel_rfl)
 obtain ⟨a0, q0, h0⟩ := zg hu hx hw 0 0 1 rfl rfl (by kernel_rfl) zw
 obtain ⟨a1, q1, h1⟩ := zg hu hx hw 1 1 1 rfl rfl (by kernel_rfl) zw
 obtain ⟨a2, q2, h2⟩ := zg hu hx hw 2 2 1 rfl rfl (by kernel_rfl) zw
 obtain ⟨a3, q3, h3⟩ := zg hu hx hw 3 3 1 rfl rfl (by kernel_rfl) zw
 obtain ⟨a4, q4, h4⟩ := zg hu hx hw 4 4 1 rfl rfl (by kernel_rfl) zw
 obtain ⟨a5, q5, h5⟩ := zg hu hx hw 5 5 1 rfl rfl (by kernel_rfl) zw
 refine ⟨⟨a0, a1, a2, a3, a4, a5⟩, Tv, ?_⟩
 have := h0.cons rfl (h1.cons rfl (h2.cons rfl (h3.cons rfl (h4.cons rfl (h5.cons rfl (CellsOK.stop hl))))))
 rw [List.drop_zero] at this
 exact this
theorem zht : Codec Tryz.prog 27 (List Bld) (fun l => [lst 6 bldC l]) (fun l => l.length <= 140737488355328) :=
 (Codec.slice Tryz.underlying27 (k := 6) (by kernel_rfl) (by decide) (of_decide_eq_true (by kernel_rfl)) zkf).weaken fun _ h => h.2
theorem zie : Codec Tryz.prog 47 Unt untC (fun u => u.pos.ok) := by
 refine ⟨fun {H} enc w base held fuel cs x hx hw => ?_⟩
 have hu := Tryz.underlying47
 have hl : cs.length = 10 := (xu hu hx).trans (by kernel_rfl)
 obtain ⟨a0, q0, h0⟩ := zg hu hx hw 0 0 1 rfl rfl (by kernel_rfl) zw
 obtain ⟨a1, q1, h1⟩ := zg hu hx hw 1 1 1 rfl rfl (by kernel_rfl) zw
 obtain ⟨a2, q2, h2⟩ := zg hu hx hw 2 2 1 rfl rfl (by kernel_rfl) zw
 obtain ⟨a3, q3, h3⟩ := zg hu hx hw 3 3 2 rfl rfl (by kernel_rfl) zic
 obtain ⟨a4, q4, h4⟩ := zg hu hx hw 4 5 1 rfl rfl (by kernel_rfl) zw
 obtain ⟨a5, q5, h5⟩ := zg hu hx hw 5 6 1 rfl rfl (by kernel_rfl) zw
 obtain ⟨a6, q6, h6⟩ := zg hu hx hw 6 7 1 rfl rfl (by kernel_rfl) zw
 obtain ⟨a7, q7, h7⟩ := zg hu hx hw 7 8 1 rfl rfl (by kernel_rfl) zw
 obtain ⟨a8, q8, h8⟩ := zg hu hx hw 8 9 1 rfl rfl (by kernel_rfl) zw
 refine ⟨⟨a0, a1, a2, a3, a4, a5, a6, a7, a8⟩, q3, ?_⟩
 have := h0.cons rfl (h1.cons rfl (h2.cons rfl (h3.cons rfl (h4.cons rfl (h5.cons rfl (h6.cons rfl (h7.cons rfl (h8.cons rfl (CellsOK.stop hl)))))))))
 rw [List.drop_zero] at this
 exact this
theorem zgu : Codec Tryz.prog 28 (List Unt) (fun l => [lst 10 untC l]) (fun l => l.length <= 140737488355328 /\ ∀ u ∈ l, u.pos.ok) :=
 (Codec.slice Tryz.underlying28 (k := 10) (by kernel_rfl) (by decide) (of_decide_eq_true (by kernel_rfl)) zie).weaken fun _ h => ⟨h.2, h.1⟩
theorem zh9 : Codec Tryz.prog 30 Wld wldC (fun w => ∀ u ∈ w.U, u.pos.ok) := by
 refine ⟨fun {H} enc w base held fuel cs x hx hw => ?_⟩
 have hu := Tryz.underlying30
 have hl : cs.length = 8 := (xu hu hx).trans (by kernel_rfl)
 obtain ⟨a0, q0, h0⟩ := zg hu hx hw 0 0 1 rfl rfl (by kernel_rfl) zw
 obtain ⟨a1, q1, h1⟩ := zg hu hx hw 1 1 1 rfl rfl (by kernel_rfl) zw
 obtain ⟨a2, q2, h2⟩ := zg hu hx hw 2 2 1 rfl rfl (by kernel_rfl) zw
 obtain ⟨a3, q3, h3⟩ := zg hu hx hw 3 3 3 rfl rfl (by kernel_rfl) zjv
 obtain ⟨a4, q4, h4⟩ := zg hu hx hw 4 6 1 rfl rfl (by kernel_rfl) zht
 obtain ⟨a5, q5, h5⟩ := zg hu hx hw 5 7 1 rfl rfl (by kernel_rfl) zgu
 refine ⟨⟨a0, a1, a2, a3, a4, a5⟩, q5.2, ?_⟩
 have := h0.cons rfl (h1.cons rfl (h2.cons rfl (h3.cons rfl (h4.cons rfl (h5.cons rfl (CellsOK.stop hl))))))
 rw [List.drop_zero] at this
 exact this
/-- Worlds, one behind the other. -/
def wsC (l : List Wld) : AV := lst 8 wldC l
theorem worlds_codec : Codec Tryz.prog 22 (List Wld) (fun l => [wsC l]) (fun l => l.length <= 140737488355328 /\ ∀ w ∈ l, ∀ u ∈ w.U, u.pos.ok) :=
 (Codec.slice Tryz.underlying22 (k := 8) (by kernel_rfl) (by decide) (of_decide_eq_true (by kernel_rfl)) zh9).weaken fun _ h => ⟨h.2, h.1⟩
end Go.Proofs
