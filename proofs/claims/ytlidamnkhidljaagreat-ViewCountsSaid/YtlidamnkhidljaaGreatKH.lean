/- The ground on which laws of thronglaw31 are proved: contracts of functions and plain lemmas; no condition beyond the row's own. -/
import Derived.Test.YtlidamnkhidljaaGreatKD
import Derived.Test.YtlidamnkhidljaaGreatKG
import Derived.Test.YtlidamnkhidljaaGreatKF
set_option linter.unusedSimpArgs false
set_option linter.unusedVariables false
namespace Go.Proofs
open Go Go.V
def zuk : V.Sched := (sv [0, 1, 2, 3, 4, 5, 6, 7] (.e 8 [] (.e 9 [] .done .stop) .stop))
def zuj : V.Sched := (sv [0, 1, 2, 3, 4, 5, 6, 7, 8] .done)
def zui : V.Sched := (sv [0, 1, 2, 3, 4, 5, 6, 7, 8, 9, 10, 11, 12, 13, 14] (.e 15 [] .done .stop))
def zke : V.Sched := (sv [0, 1, 2, 3, 4, 5, 6, 7, 8, 9, 10, 11, 12, 13, 14, 15, 16, 17, 18, 19, 20, 21, 22, 23, 24] (.e 25 [] (sv [26, 27, 28, 29, 30, 31, 32, 35, 36, 37, 38, 39, 40] (.e 33 [36, 40] (sv [34] (.e 41 [34] (sv [42, 43, 44, 45, 46, 47, 48, 49, 50, 51, 52, 53, 54, 55, 56, 57, 58, 59, 60] .done) .stop)) .stop)) .stop))
def zuu : V.Sched := (sv [0, 1, 2, 3, 4] (.e 5 [] .done .stop))
def zut : V.Sched := (sv [0, 1, 2, 3, 4, 5, 6, 7, 8, 9, 10, 11, 12, 13, 14, 15, 16, 17, 18, 19] .done)
def zpx : V.Sched := (sv [0, 1, 2, 3, 4, 5, 6, 7, 8, 9, 10, 11, 12, 13, 14, 15, 16, 17, 18, 19, 20, 21, 22, 23, 24, 25, 26, 27, 28, 29, 30, 31, 32, 33, 34, 35, 36, 37, 38, 39, 40, 41, 42, 43, 44, 45, 46, 47, 48, 49, 50] (.e 51 [] (sv [52, 53, 54, 55, 56, 57, 58, 59, 60, 61, 62, 63] (.e 64 [] (sv [65, 66, 67, 68, 69, 70, 71, 72, 73, 74, 75, 76, 77, 78, 79, 80, 81, 82, 83, 84, 85, 86, 87] .done) .stop)) .stop))
def zpw : V.Sched := (sv [0, 1, 2, 3, 4, 5, 6, 7, 8] .done)
def zus : V.Sched := (sv [0, 1, 2, 3, 4, 5, 6, 7, 8, 9, 10, 11, 12, 13, 14, 15, 16] (.e 17 [10, 12, 14] (sv [18] (.e 19 [] (sv [20, 21] .done) .stop)) .stop))
def zur : V.Sched := (sv [0, 1, 2, 3, 4, 5, 6, 7, 8, 9, 10, 11, 12] .done)
def zuq : V.Sched := (sv [0, 1, 2, 3, 4, 5, 6, 7, 8, 9, 10, 11, 12] .done)
def zpv : V.Sched := (sv [0, 1] (.e 2 [] (sv [3, 4, 5, 6, 7] (.e 8 [] (sv [9, 10, 11, 12, 13, 14, 15, 16, 17, 18, 19, 20, 21, 22, 23, 24, 25] .done) .stop)) .stop))
def zup : V.Sched := (sv [0, 1, 2, 3] (.e 4 [] (sv [5, 6, 7, 8, 9, 10, 11] (.e 12 [] (sv [13, 14, 15, 16, 17, 18, 19, 20] (.e 21 [] (sv [22, 23] .done) .stop)) .stop)) .stop))
def zpu : V.Sched := (sv [0, 1, 2, 3, 4, 5, 6, 7] (.e 8 [] .done .stop))
def zuo : V.Sched := (sv [0] (.e 1 [0] (sv [2] (.e 3 [] (.e 4 [] .done .stop) .stop)) .stop))
def zun : V.Sched := (sv [0, 1, 2, 3, 4, 5, 6, 7] (.e 8 [] .done .stop))
def zum : V.Sched := (sv [0, 1, 2, 3, 4, 5, 6, 7, 9, 10, 11] (.e 8 [4, 9, 11] (.e 12 [] (sv [13] .done) .stop) .stop))
def zul : V.Sched := (sv [0, 1, 2, 3, 4, 5, 6, 7, 8, 9, 10, 11] (.e 12 [5, 7, 9] (sv [13] (.e 14 [] (sv [15, 16] .done) .stop)) .stop))
def zpt : V.Sched := (sv [0, 1, 2, 3, 4, 5, 6, 7, 8, 9, 10, 11, 12, 13, 15, 16] (.e 14 [16] (.e 17 [13] (sv [18, 19, 20] .done) .stop) (.e 17 [13] (sv [18] (.e 14 [16] (sv [19, 20] .done) .stop)) .stop)))
def zuh : V.Sched := (sv [0, 1, 2, 3, 4, 5] (.e 6 [] .done .stop))
def zug : V.Sched := (sv [0, 1, 2, 3, 4, 5, 6, 7, 8, 9, 10, 11] .done)
def zuf : V.Sched := (sv [0, 1, 2, 3, 4, 5, 6, 7, 8, 9] (.e 10 [7] (.e 11 [] .done .stop) .stop))
def zue : V.Sched := (sv [0, 1, 2, 3, 4, 6, 7, 8, 9, 10] (.e 5 [7] (.e 11 [] (.e 12 [] (.e 13 [] .done .stop) .stop) .stop) .stop))
def zud : V.Sched := (sv [0, 1, 2, 3, 4, 6] (.e 5 [] (.e 7 [] (sv [8, 9, 10] (.e 11 [] (.e 12 [] .done .stop) .stop)) .stop) .stop))
def zuc : V.Sched := (sv [0, 1, 2, 3, 4, 5, 6, 7, 8, 9, 11, 12] (.e 10 [3, 4] (.e 13 [3, 4, 8, 9] (.e 14 [3, 4] (.e 15 [] .done .stop) .stop) .stop) (.e 13 [3, 4, 8, 9] (.e 10 [3, 4] (.e 14 [3, 4] (.e 15 [] .done .stop) .stop) .stop) .stop)))
def zkf : V.Sched := (sv [0, 1, 2, 3, 4, 5] (.e 6 [] .done .stop))
def zub : V.Sched := (sv [0, 1, 2, 3, 4, 5] (.e 6 [4] (.e 7 [] .done .stop) .stop))
def zge : V.Sched := (sv [0, 1, 2, 3, 4, 5, 6, 7, 8, 9, 10, 11, 12, 14, 15] (.e 13 [] (sv [16] (.e 17 [] .done .stop)) .stop))
def zua : V.Sched := (sv [0, 1, 2, 3, 4, 5, 6, 9] (.e 7 [] (sv [8] .done) .stop))
def zt9 : V.Sched := (sv [0, 1, 2, 4] (.e 3 [0, 1] (.e 5 [0, 1] (sv [6] (.e 7 [] (sv [8] (.e 9 [] .done .stop)) .stop)) .stop) .stop))
def zt8 : V.Sched := (sv [0, 1, 2, 3, 4, 5, 6, 7] (.e 8 [6] (.e 9 [] .done .stop) .stop))
def zt7 : V.Sched := (sv [0, 1, 4, 5] (.e 2 [5] (.e 3 [5] (.e 6 [] (.e 7 [] (.e 8 [] (.e 9 [] .done .stop) .stop) .stop) .stop) .stop) .stop))
def zt6 : V.Sched := (sv [0, 1, 2, 3, 5, 6, 7, 8] (.e 4 [6, 8] (.e 9 [] (sv [10] (.e 11 [] .done .stop)) .stop) .stop))
def zt5 : V.Sched := (sv [0, 1, 2, 3, 4, 5, 6, 7, 8, 9, 10, 11] .done)
def zt4 : V.Sched := (sv [0, 1, 2, 3, 4] (.e 5 [] (.e 6 [] .done .stop) .stop))
def zt3 : V.Sched := (sv [0, 1, 2, 3, 4] (.e 5 [] .done .stop))
def zps : V.Sched := (sv [0, 1, 2, 3, 4, 5] (.e 6 [] .done .stop))
def zt2 : V.Sched := (sv [0, 1, 3, 4] (.e 2 [4] (.e 5 [] (sv [6] (.e 7 [] .done .stop)) .stop) .stop))
def zt1 : V.Sched := (sv [0, 1, 2, 3, 4, 5, 6, 7, 8, 9] (.e 10 [7] (.e 11 [] .done .stop) .stop))
def zt0 : V.Sched := (sv [0, 1, 2, 4, 5, 6] (.e 3 [5, 6] (.e 7 [] (sv [8] (.e 9 [] (.e 10 [0, 1, 2, 4, 5, 6, 8] (.e 11 [] .done .stop) .stop) (.e 10 [0, 1, 2, 4, 5, 6, 8] (.e 9 [] (.e 11 [] .done .stop) .stop) .stop))) (.e 10 [0, 1, 2, 4, 5, 6] (.e 7 [] (sv [8] (.e 9 [] (.e 11 [] .done .stop) .stop)) .stop) .stop)) (.e 10 [0, 1, 2, 4, 5, 6] (.e 3 [5, 6] (.e 7 [] (sv [8] (.e 9 [] (.e 11 [] .done .stop) .stop)) .stop) .stop) .stop)))
def ztz : V.Sched := (sv [0, 1, 2, 4, 5, 6] (.e 3 [5, 6] (.e 7 [] (sv [8] (.e 9 [] (.e 10 [0, 1, 2, 4, 5, 6, 8] (.e 11 [] .done .stop) .stop) (.e 10 [0, 1, 2, 4, 5, 6, 8] (.e 9 [] (.e 11 [] .done .stop) .stop) .stop))) (.e 10 [0, 1, 2, 4, 5, 6] (.e 7 [] (sv [8] (.e 9 [] (.e 11 [] .done .stop) .stop)) .stop) .stop)) (.e 10 [0, 1, 2, 4, 5, 6] (.e 3 [5, 6] (.e 7 [] (sv [8] (.e 9 [] (.e 11 [] .done .stop) .stop)) .stop) .stop) .stop)))
def zpz : V.Sched := (sv [0, 1, 2, 3, 4, 5, 7] (.e 6 [0, 7] (.e 8 [] .done .stop) .stop))
def zpy : V.Sched := (sv [0, 1, 2, 3, 5, 6, 7, 8] (.e 4 [6, 8] (.e 9 [] (sv [10] (.e 11 [] .done .stop)) .stop) .stop))
end Go.Proofs
namespace Go.Proofs
open Go Go.V
set_option maxRecDepth 4000
theorem zd : zq Tryz.prog infoTree.get := Tr.ok _ zgp
def cfg (n : Nat) (G : List Nat := []) (W : List Nat := []) : Cfg := { n := n, I := infoTree.get, G := G, W := W }
theorem zdc {n : Int} (h : (Lit.int .i64 n).wf = true) : yb n := by
 simp [Lit.wf, IntKind.min, IntKind.max, IntKind.signed, IntKind.bits] at h
 unfold yb
 omega
theorem ze5 : Codec Tryz.prog 2 Int intC yb := (Codec.int Tryz.underlying2).weaken fun _ h => zdc h
theorem zw : Codec Tryz.prog 3 Int intC yb := (Codec.int Tryz.underlying3).weaken fun _ h => zdc h
theorem zg5 : Codec Tryz.prog 24 (List UInt8) (fun l => [byts l]) (fun l => l.length <= 140737488355328) :=
 (Codec.slice Tryz.underlying24 (k := 1) (by kernel_rfl) (by decide) (of_decide_eq_true (by kernel_rfl)) (Codec.byte Tryz.underlying5)).weaken fun _ h => h.2
theorem zjz : Codec Tryz.prog 45 Vc vecC Vc.ok := by
 refine ⟨fun {H} enc w base held fuel cs x hx hw => ?_⟩
 have hu := Tryz.underlying45
 have hl : cs.length = 2 := (x6 hu hx).trans (by kernel_rfl)
 obtain ⟨a0, q0, h0⟩ := zh hu hx hw 0 0 1 rfl rfl (by kernel_rfl) ze5
 obtain ⟨a1, q1, h1⟩ := zh hu hx hw 1 1 1 rfl rfl (by kernel_rfl) ze5
 refine ⟨(a0, a1), ⟨q0, q1⟩, ?_⟩
 have := h0.cons rfl (h1.cons rfl (CellsOK.stop hl))
 rw [List.drop_zero] at this
 exact this
theorem zln : Codec Tryz.prog 26 Gnd gndC (fun g => g.T.length <= 140737488355328) := by
 refine ⟨fun {H} enc w base held fuel cs x hx hw => ?_⟩
 have hu := Tryz.underlying26
 have hl : cs.length = 3 := (x6 hu hx).trans (by kernel_rfl)
 obtain ⟨a0, q0, h0⟩ := zh hu hx hw 0 0 1 rfl rfl (by kernel_rfl) zw
 obtain ⟨a1, q1, h1⟩ := zh hu hx hw 1 1 1 rfl rfl (by kernel_rfl) zw
 obtain ⟨a2, q2, h2⟩ := zh hu hx hw 2 2 1 rfl rfl (by kernel_rfl) zg5
 refine ⟨⟨a0, a1, a2⟩, q2, ?_⟩
 have := h0.cons rfl (h1.cons rfl (h2.cons rfl (CellsOK.stop hl)))
 rw [List.drop_zero] at this
 exact this
theorem zmb : Codec Tryz.prog 50 Bld bldC (fun _ => True) := by
 refine ⟨fun {H} enc w base held fuel cs x hx hw => ?_⟩
 have hu := Tryz.underlying50
 have hl : cs.length = 6 := (x6 hu hx).trans (by kernel_rfl)
 obtain ⟨a0, q0, h0⟩ := zh hu hx hw 0 0 1 rfl rfl (by kernel_rfl) zw
 obtain ⟨a1, q1, h1⟩ := zh hu hx hw 1 1 1 rfl rfl (by kernel_rfl) zw
 obtain ⟨a2, q2, h2⟩ := zh hu hx hw 2 2 1 rfl rfl (by kernel_rfl) zw
 obtain ⟨a3, q3, h3⟩ := zh hu hx hw 3 3 1 rfl rfl (by kernel_rfl) zw
 obtain ⟨a4, q4, h4⟩ := zh hu hx hw 4 4 1 rfl rfl (by kernel_rfl) zw
 obtain ⟨a5, q5, h5⟩ := zh hu hx hw 5 5 1 rfl rfl (by kernel_rfl) zw
 refine ⟨⟨a0, a1, a2, a3, a4, a5⟩, Tv, ?_⟩
 have := h0.cons rfl (h1.cons rfl (h2.cons rfl (h3.cons rfl (h4.cons rfl (h5.cons rfl (CellsOK.stop hl))))))
 rw [List.drop_zero] at this
 exact this
theorem zji : Codec Tryz.prog 27 (List Bld) (fun l => [lst 6 bldC l]) (fun l => l.length <= 140737488355328) :=
 (Codec.slice Tryz.underlying27 (k := 6) (by kernel_rfl) (by decide) (of_decide_eq_true (by kernel_rfl)) zmb).weaken fun _ h => h.2
theorem zj1 : Codec Tryz.prog 47 Unt untC (fun u => u.pos.ok) := by
 refine ⟨fun {H} enc w base held fuel cs x hx hw => ?_⟩
 have hu := Tryz.underlying47
 have hl : cs.length = 10 := (x6 hu hx).trans (by kernel_rfl)
 obtain ⟨a0, q0, h0⟩ := zh hu hx hw 0 0 1 rfl rfl (by kernel_rfl) zw
 obtain ⟨a1, q1, h1⟩ := zh hu hx hw 1 1 1 rfl rfl (by kernel_rfl) zw
 obtain ⟨a2, q2, h2⟩ := zh hu hx hw 2 2 1 rfl rfl (by kernel_rfl) zw
 obtain ⟨a3, q3, h3⟩ := zh hu hx hw 3 3 2 rfl rfl (by kernel_rfl) zjz
 obtain ⟨a4, q4, h4⟩ := zh hu hx hw 4 5 1 rfl rfl (by kernel_rfl) zw
 obtain ⟨a5, q5, h5⟩ := zh hu hx hw 5 6 1 rfl rfl (by kernel_rfl) zw
 obtain ⟨a6, q6, h6⟩ := zh hu hx hw 6 7 1 rfl rfl (by kernel_rfl) zw
 obtain ⟨a7, q7, h7⟩ := zh hu hx hw 7 8 1 rfl rfl (by kernel_rfl) zw
 obtain ⟨a8, q8, h8⟩ := zh hu hx hw 8 9 1 rfl rfl (by kernel_rfl) zw
 refine ⟨⟨a0, a1, a2, a3, a4, a5, a6, a7, a8⟩, q3, ?_⟩
 have := h0.cons rfl (h1.cons rfl (h2.cons rfl (h3.cons rfl (h4.cons rfl (h5.cons rfl (h6.cons rfl (h7.cons rfl (h8.cons rfl (CellsOK.stop hl)))))))))
 rw [List.drop_zero] at this
 exact this
theorem zh5 : Codec Tryz.prog 28 (List Unt) (fun l => [lst 10 untC l]) (fun l => l.length <= 140737488355328 /\ ∀ u ∈ l, u.pos.ok) :=
 (Codec.slice Tryz.underlying28 (k := 10) (by kernel_rfl) (by decide) (of_decide_eq_true (by kernel_rfl)) zj1).weaken fun _ h => ⟨h.2, h.1⟩
theorem zjx : Codec Tryz.prog 30 Wld wldC (fun w => ∀ u ∈ w.U, u.pos.ok) := by
 refine ⟨fun {H} enc w base held fuel cs x hx hw => ?_⟩
 have hu := Tryz.underlying30
 have hl : cs.length = 8 := (x6 hu hx).trans (by kernel_rfl)
 obtain ⟨a0, q0, h0⟩ := zh hu hx hw 0 0 1 rfl rfl (by kernel_rfl) zw
 obtain ⟨a1, q1, h1⟩ := zh hu hx hw 1 1 1 rfl rfl (by kernel_rfl) zw
 obtain ⟨a2, q2, h2⟩ := zh hu hx hw 2 2 1 rfl rfl (by kernel_rfl) zw
 obtain ⟨a3, q3, h3⟩ := zh hu hx hw 3 3 3 rfl rfl (by kernel_rfl) zln
 obtain ⟨a4, q4, h4⟩ := zh hu hx hw 4 6 1 rfl rfl (by kernel_rfl) zji
 obtain ⟨a5, q5, h5⟩ := zh hu hx hw 5 7 1 rfl rfl (by kernel_rfl) zh5
 refine ⟨⟨a0, a1, a2, a3, a4, a5⟩, q5.2, ?_⟩
 have := h0.cons rfl (h1.cons rfl (h2.cons rfl (h3.cons rfl (h4.cons rfl (h5.cons rfl (CellsOK.stop hl))))))
 rw [List.drop_zero] at this
 exact this
/-- Worlds, one behind the other. -/
def wsC (l : List Wld) : AV := lst 8 wldC l
theorem worlds_codec : Codec Tryz.prog 22 (List Wld) (fun l => [wsC l]) (fun l => l.length <= 140737488355328 /\ ∀ w ∈ l, ∀ u ∈ w.U, u.pos.ok) :=
 (Codec.slice Tryz.underlying22 (k := 8) (by kernel_rfl) (by decide) (of_decide_eq_true (by kernel_rfl)) zjx).weaken fun _ h => ⟨h.2, h.1⟩
end Go.Proofs
