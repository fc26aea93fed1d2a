/- The ground on which laws of thronglaw23 are proved: contracts of functions and plain lemmas; no condition beyond the row's own. -/
import Derived.Test.YtlmechfgnfepoaaGreatVC
import Derived.Test.YtlmechfgnfepoaaGreatVD
import Derived.Test.YtlmechfgnfepoaaGreatSA
import Derived.Test.YtlmechfgnfepoaaGreatVG
import Derived.Test.YtlmechfgnfepoaaGreatVE
import Derived.Test.YtlmechfgnfepoaaGreatSB
set_option linter.unusedSimpArgs false
set_option linter.unusedVariables false
namespace Go.Proofs
open Go Go.V
def zu1 : V.Sched := (sv [0, 1, 2, 3, 4, 5, 6] (.e 7 [] (sv [8, 9, 10] (.e 11 [0, 1, 2, 3, 4, 5, 6, 8, 9, 10] (.e 12 [] (.e 13 [] .done .stop) .stop) .stop)) (.e 11 [0, 1, 2, 3, 4, 5, 6] (.e 7 [] (sv [8, 9, 10] (.e 12 [] (.e 13 [] .done .stop) .stop)) .stop) .stop)))
def zz8 : V.Sched := (sv [0, 1, 2, 3, 4, 5, 6, 7, 8, 9, 10, 11, 12] (.e 13 [] .done .stop))
def zuc : V.Sched := (sv [0, 1] (.e 2 [] (sv [3, 4, 5, 6, 7] (.e 8 [] (sv [9, 10, 11, 12, 13, 14, 15, 16, 17, 18, 19, 20, 21, 22, 23, 24, 25] .done) .stop)) .stop))
def zz7 : V.Sched := (sv [0, 1, 3, 4, 6, 7] (.e 2 [4, 7] (sv [9] (.e 5 [7] (.e 8 [] (.e 10 [] (sv [11] (.e 12 [] (sv [13] (.e 14 [] .done .stop)) .stop)) .stop) .stop) .stop)) .stop))
def zz6 : V.Sched := (sv [0, 3, 4] (.e 1 [3] (.e 2 [3] (sv [5] (.e 6 [] (.e 7 [] .done .stop) .stop)) .stop) .stop))
def zz5 : V.Sched := (sv [0, 1, 2, 3, 4, 5] (.e 6 [0] (sv [7] (.e 8 [] (.e 9 [] .done .stop) .stop)) .stop))
def zm5 : V.Sched := (sv [0] (.e 1 [0] (sv [2] (.e 3 [] (.e 4 [] .done .stop) .stop)) .stop))
def zm4 : V.Sched := (sv [0, 1, 2, 3, 4, 5, 6, 7] (.e 8 [] .done .stop))
def zm3 : V.Sched := (sv [0, 1, 2, 3, 4, 5, 6, 7, 9, 10, 11] (.e 8 [4, 9, 11] (.e 12 [] (sv [13] .done) .stop) .stop))
def zm2 : V.Sched := (sv [0, 1, 2, 3, 4, 5, 6, 7, 8, 9, 10, 11] (.e 12 [5, 7, 9] (sv [13] (.e 14 [] (sv [15, 16] .done) .stop)) .stop))
def zub : V.Sched := (sv [0, 1, 2, 3, 4, 5, 6, 7, 8, 9, 10, 11, 12, 13, 15, 16] (.e 14 [16] (.e 17 [13] (sv [18, 19, 20] .done) .stop) (.e 17 [13] (sv [18] (.e 14 [16] (sv [19, 20] .done) .stop)) .stop)))
def zvo : V.Sched := (sv [0, 1, 2, 3, 4, 6] (.e 5 [] (.e 7 [] (sv [8, 9, 10] (.e 11 [] (.e 12 [] .done .stop) .stop)) .stop) .stop))
def zvn : V.Sched := (sv [0, 1, 2, 3, 4, 5, 6, 7, 8, 9, 11, 12] (.e 10 [3, 4] (.e 13 [3, 4, 8, 9] (.e 14 [3, 4] (.e 15 [] .done .stop) .stop) .stop) (.e 13 [3, 4, 8, 9] (.e 10 [3, 4] (.e 14 [3, 4] (.e 15 [] .done .stop) .stop) .stop) .stop)))
def zj4 : V.Sched := (sv [0, 1, 2, 3, 4, 5] (.e 6 [] .done .stop))
def zvm : V.Sched := (sv [0, 1, 2, 3, 4, 5] (.e 6 [4] (.e 7 [] .done .stop) .stop))
def vm : V.Sched := (sv [0, 1, 2, 3, 4, 5, 6, 7, 8, 9, 10, 11, 12, 14, 15] (.e 13 [] (sv [16] (.e 17 [] .done .stop)) .stop))
def zj3 : V.Sched := (sv [0, 1, 2, 3, 4, 5, 6, 9] (.e 7 [] (sv [8] .done) .stop))
def zvl : V.Sched := (sv [0, 1, 2, 4] (.e 3 [0, 1] (.e 5 [0, 1] (sv [6] (.e 7 [] (sv [8] (.e 9 [] .done .stop)) .stop)) .stop) .stop))
def zvk : V.Sched := (sv [0, 1, 2, 3, 4] (.e 5 [3] (sv [6] (.e 7 [] .done .stop)) .stop))
def zvj : V.Sched := (sv [0, 1, 2, 3, 4] (.e 5 [3] (sv [6] (.e 7 [] .done .stop)) .stop))
def znc : V.Sched := (sv [0, 1, 2, 3, 4, 5, 6] (.e 7 [3, 5] (sv [8] (.e 9 [5] (sv [10] (.e 11 [] .done .stop)) .stop)) .stop))
def znb : V.Sched := (sv [0, 1, 2, 3, 4] (.e 5 [3] (sv [6] (.e 7 [] .done .stop)) .stop))
def zna : V.Sched := (sv [0, 1, 2, 3, 4] (.e 5 [3] (sv [6] (.e 7 [] .done .stop)) .stop))
def zvi : V.Sched := (sv [0, 1, 2, 3, 4, 5, 6, 7, 8, 9, 10, 11, 12, 13] (.e 14 [] (sv [15] (.e 16 [] .done .stop)) .stop))
def zvh : V.Sched := (sv [0, 1, 2, 3, 4, 5, 6, 7, 8, 9, 10, 11, 12, 13, 14, 15, 16, 17, 18, 19, 20, 21, 22, 23, 24, 25, 26, 27, 28, 29, 30, 31, 32, 33, 34, 35] (.e 36 [3, 7, 11] (sv [37] (.e 38 [3] (sv [39, 40, 41] (.e 42 [] .done .stop)) .stop)) .stop))
def zvg : V.Sched := (sv [0, 1, 2, 3, 4, 5, 6, 7, 8, 9, 10, 11, 12] (.e 13 [] (sv [14] .done) .stop))
def zm9 : V.Sched := (sv [0, 1, 2, 3, 4, 5, 6, 7, 8, 9, 10, 11, 12] (.e 13 [2] (.e 14 [] .done .stop) .stop))
def zgj : V.Sched := (sv [0, 1, 2, 3, 4] (.e 5 [] .done .stop))
def zvf : V.Sched := (sv [0, 1, 2, 3, 4] (.e 5 [3] (.e 6 [] .done .stop) .stop))
def zve : V.Sched := (sv [0, 1, 2, 3, 4, 5] (.e 6 [] (sv [7] (.e 8 [] .done .stop)) .stop))
def zvd : V.Sched := (sv [0, 1, 2, 3, 4, 5, 6, 7, 8, 9, 10, 11, 12, 13, 14, 15, 16, 17, 18, 19, 20, 21, 22, 23, 24, 25, 26, 27, 28, 29, 30, 31, 32, 33, 34, 35, 36, 37, 38, 39] (.e 40 [0, 1, 2, 3, 4, 5, 6, 7, 8, 9, 10, 11, 12, 13, 14, 15, 16, 17, 18, 19, 20, 21, 22, 23, 24, 25, 26, 27, 28, 29, 30, 31, 32, 33, 34, 35, 36, 37, 38, 39] (.e 41 [] .done .stop) .stop))
def zvc : V.Sched := (sv [0, 1, 2, 3, 4, 5, 6, 7, 8, 9] (.e 10 [] (sv [11, 12, 13] (.e 14 [] (.e 15 [] .done .stop) .stop)) .stop))
def zvb : V.Sched := (sv [0, 1, 2, 3, 4, 5, 6, 7, 8, 9, 10, 11, 12, 13, 14, 15, 16, 17] (.e 18 [] .done .stop))
def zva : V.Sched := (sv [0, 1, 2, 3, 4, 5, 6, 7, 8, 9, 10, 11, 13, 14, 15] (.e 12 [0, 3] (.e 16 [0, 3] (sv [17, 18, 19] (.e 20 [] .done .stop)) .stop) .stop))
def zu9 : V.Sched := (sv [0, 1, 4, 5, 6, 7, 8, 9, 10, 11, 12, 13] (.e 2 [7, 11, 13] (sv [3] (.e 14 [] (sv [15, 16] (.e 17 [] .done .stop)) .stop)) .stop))
def zm8 : V.Sched := (sv [0, 1, 2, 3, 4] (.e 5 [] .done .stop))
def zu8 : V.Sched := (sv [0, 1, 2, 3, 4, 5, 6, 7, 8, 9, 10, 11, 12] (.e 13 [] (sv [14] (.e 15 [] .done .stop)) .stop))
def zu7 : V.Sched := (sv [0, 1, 2, 3, 4, 5, 6, 7, 8, 9, 10, 11, 12, 14, 15] (.e 13 [15] (.e 16 [] (.e 17 [] .done .stop) .stop) .stop))
def zu6 : V.Sched := (sv [0, 1, 2, 3, 4, 5, 6, 7, 8, 9, 12] (.e 10 [] (sv [11] .done) .stop))
def zu5 : V.Sched := (sv [0, 1, 2, 3, 4, 5, 6, 7, 8, 9, 10, 11] .done)
def zu4 : V.Sched := (sv [0, 1, 2, 3, 4] (.e 5 [] (.e 6 [] .done .stop) .stop))
def zu3 : V.Sched := (sv [0, 1, 2, 3, 4] (.e 5 [] .done .stop))
def zm7 : V.Sched := (sv [0, 1, 2, 3, 4, 5] (.e 6 [] .done .stop))
def zu2 : V.Sched := (sv [0, 1, 3, 4] (.e 2 [4] (.e 5 [] (sv [6] (.e 7 [] .done .stop)) .stop) .stop))
def zu0 : V.Sched := (sv [0, 1, 2, 3, 4, 5, 6, 7, 8, 9] (.e 10 [7] (.e 11 [] .done .stop) .stop))
def zuz : V.Sched := (sv [0, 1, 2, 4, 5, 6] (.e 3 [5, 6] (.e 7 [] (sv [8] (.e 9 [] (.e 10 [0, 1, 2, 4, 5, 6, 8] (.e 11 [] .done .stop) .stop) (.e 10 [0, 1, 2, 4, 5, 6, 8] (.e 9 [] (.e 11 [] .done .stop) .stop) .stop))) (.e 10 [0, 1, 2, 4, 5, 6] (.e 7 [] (sv [8] (.e 9 [] (.e 11 [] .done .stop) .stop)) .stop) .stop)) (.e 10 [0, 1, 2, 4, 5, 6] (.e 3 [5, 6] (.e 7 [] (sv [8] (.e 9 [] (.e 11 [] .done .stop) .stop)) .stop) .stop) .stop)))
def zuy : V.Sched := (sv [0, 1, 2, 4, 5, 6] (.e 3 [5, 6] (.e 7 [] (sv [8] (.e 9 [] (.e 10 [0, 1, 2, 4, 5, 6, 8] (.e 11 [] .done .stop) .stop) (.e 10 [0, 1, 2, 4, 5, 6, 8] (.e 9 [] (.e 11 [] .done .stop) .stop) .stop))) (.e 10 [0, 1, 2, 4, 5, 6] (.e 7 [] (sv [8] (.e 9 [] (.e 11 [] .done .stop) .stop)) .stop) .stop)) (.e 10 [0, 1, 2, 4, 5, 6] (.e 3 [5, 6] (.e 7 [] (sv [8] (.e 9 [] (.e 11 [] .done .stop) .stop)) .stop) .stop) .stop)))
def zux : V.Sched := (sv [0, 1, 2, 3, 4, 5, 6, 7, 8, 9, 10, 11, 12, 13, 14, 15, 16, 17, 18, 19, 20, 21, 22, 23, 24, 25, 26, 27, 28, 29, 30, 31, 36, 37, 38, 39] (.e 32 [3, 7, 37] (sv [33, 34, 35] (.e 40 [] (.e 41 [] .done .stop) .stop)) .stop))
def zuw : V.Sched := (sv [0, 1, 2, 3, 4, 5, 6] (.e 7 [] (sv [8, 9, 10] (.e 11 [] (.e 12 [] .done .stop) .stop)) .stop))
def zuv : V.Sched := (sv [0, 1, 2, 3, 4, 5, 6, 7] (.e 8 [] .done .stop))
def zuu : V.Sched := (sv [0, 1, 2, 3, 4, 5, 6, 7] (.e 8 [] .done .stop))
def zut : V.Sched := (sv [0, 1, 2, 3, 4, 5] (.e 6 [] .done .stop))
def zm6 : V.Sched := (sv [0, 2, 3, 4] (.e 1 [3] (.e 5 [] (.e 6 [] (.e 7 [] .done .stop) .stop) .stop) .stop))
def zus : V.Sched := (sv [0, 1, 2, 3, 4, 5, 6, 7, 8, 11] (.e 9 [] (sv [10] .done) .stop))
def zur : V.Sched := (sv [0, 1, 2, 3, 4, 5, 6, 7, 8, 9, 10, 11, 12, 16] (.e 13 [3] (.e 14 [] (sv [15] .done) .stop) .stop))
def zuq : V.Sched := (sv [0, 1, 2, 3, 4, 5, 6, 7, 8, 9, 10, 11, 12] (.e 13 [3, 7, 10] (sv [14] (.e 15 [] .done .stop)) .stop))
def zup : V.Sched := (sv [0, 1, 2, 3, 4, 5, 6, 7] (.e 8 [] .done .stop))
def zuo : V.Sched := (sv [0, 1, 2, 3, 4, 5] (.e 6 [] (.e 7 [] .done .stop) .stop))
def zun : V.Sched := (sv [0, 1, 2, 3, 4, 5, 6, 7, 8, 9, 10, 11, 12] (.e 13 [] .done .stop))
def zum : V.Sched := (sv [0, 1, 2, 3, 4, 5, 6, 7, 10] (.e 8 [] (sv [9] .done) .stop))
def zul : V.Sched := (sv [0, 1, 2, 3, 4, 5, 6, 7, 8] (.e 9 [] .done .stop))
def zuk : V.Sched := (sv [0, 1] (.e 2 [0] (sv [3] (.e 4 [] .done .stop)) .stop))
def zuj : V.Sched := (sv [0, 1, 2, 3, 4] (.e 5 [] .done .stop))
def zui : V.Sched := (sv [0, 1, 2, 3, 4, 5, 6, 7] (.e 8 [6] (.e 9 [] .done .stop) .stop))
def zuh : V.Sched := (sv [0, 1, 2, 3, 4, 5, 7] (.e 6 [0, 7] (.e 8 [] .done .stop) .stop))
def zug : V.Sched := (sv [0, 1, 2, 3, 5, 6, 7, 8] (.e 4 [6, 8] (.e 9 [] (sv [10] (.e 11 [] .done .stop)) .stop) .stop))
def zuf : V.Sched := (sv [0, 1, 2, 3, 4, 5, 6, 7] (.e 8 [] .done .stop))
def zue : V.Sched := (sv [0, 1, 2, 3, 4, 5, 6, 7] (.e 8 [6] (.e 9 [] .done .stop) .stop))
def zud : V.Sched := (sv [0, 1] (.e 2 [0] (.e 3 [] (sv [4] .done) .stop) .stop))
end Go.Proofs
namespace Go.Proofs
open Go Go.V
theorem zd : zv Tryz.prog infoTree.get := Tr.ok _ ziy
def cfg (n : Nat) (G : List Nat := []) (W : List Nat := []) : Cfg := { n := n, I := infoTree.get, G := G, W := W }
end Go.Proofs
namespace Go.Proofs
open Go Go.V
set_option maxRecDepth 20000 in
theorem zgz (n : Int) (st : Store) (R : AV → Store → Prop) (h : ∀ z : Bool, (z = true ↔ zdv n) → R (bool z) st) : ACalls Tryz.prog 105 [int n] st R := by
 refine ACalls.of_body (c := cfg 9) zd Tryz.func105 (by rfl) (by rfl) (by rfl) (by rfl) ?_
 repeat' (first | refine bcd (fun _ => ?_) (fun _ => ?_) | refine zf (fun _ => ?_) (fun _ => ?_) | refine in64 (by omega) ?_ | fail)
 all_goals
  refine ret (h _ ?_)
  unfold zdv
  simp only [decide_eq_true_eq, decide_eq_false_iff_not, Bool.false_eq_true, false_iff, true_iff, beq_iff_eq, bne_iff_ne, beq_eq_false_iff_ne, ne_eq, reduceCtorEq] at *
  omega
set_option maxRecDepth 20000 in
theorem zgh (n : Int) (st : Store) (R : AV → Store → Prop) (h : ∀ z : Bool, (z = true ↔ 1 ≤ n ∧ n ≤ 128) → R (bool z) st) : ACalls Tryz.prog 138 [int n] st R := by
 refine ACalls.of_body (c := cfg 9) zd Tryz.func138 (by rfl) (by rfl) (by rfl) (by rfl) ?_
 repeat' (first | refine bcd (fun _ => ?_) (fun _ => ?_) | refine zf (fun _ => ?_) (fun _ => ?_) | refine in64 (by omega) ?_ | fail)
 all_goals
  refine ret (h _ ?_)
  simp only [decide_eq_true_eq, decide_eq_false_iff_not, Bool.false_eq_true, false_iff, true_iff, beq_iff_eq, bne_iff_ne, beq_eq_false_iff_ne, ne_eq, reduceCtorEq] at *
  omega
set_option maxRecDepth 20000 in
theorem zlg (p : Vc) (st : Store) (R : AV → Store → Prop) (h : ∀ z : Bool, (z = true ↔ yx p.1 p.2) → R (bool z) st) : ACalls Tryz.prog 160 [.agg (vecC p)] st R := by
 refine ACalls.of_body (c := cfg 21) zd Tryz.func160 (by rfl) (by rfl) (by rfl) (by rfl) ?_
 repeat' (first | refine bcd (fun _ => ?_) (fun _ => ?_) | refine zf (fun _ => ?_) (fun _ => ?_) | refine in64 (by omega) ?_ | fail)
 all_goals
  refine ret (h _ ?_)
  unfold yx
  simp only [decide_eq_true_eq, decide_eq_false_iff_not, Bool.false_eq_true, false_iff, true_iff, beq_iff_eq, bne_iff_ne, beq_eq_false_iff_ne, ne_eq, reduceCtorEq] at *
  omega
set_option maxRecDepth 20000 in
theorem zes (b : Bld) (st : Store) (R : AV → Store → Prop) (h : ∀ z : Bool, (z = true ↔ bldP b) → R (bool z) st) : ACalls Tryz.prog 141 [.agg (bldC b)] st R := by
 refine ACalls.of_body (c := cfg 41) zd Tryz.func141 (by rfl) (by rfl) (by rfl) (by rfl) ?_
 repeat' (first | refine bcd (fun _ => ?_) (fun _ => ?_) | refine zf (fun _ => ?_) (fun _ => ?_) | refine in64 (by omega) ?_ | fail)
 all_goals
  refine ret (h _ ?_)
  unfold bldP
  simp only [decide_eq_true_eq, decide_eq_false_iff_not, Bool.false_eq_true, false_iff, true_iff, beq_iff_eq, bne_iff_ne, beq_eq_false_iff_ne, ne_eq, reduceCtorEq] at *
  omega
set_option maxRecDepth 20000 in
theorem zkl (g : Gnd) (b : Bld) (hg : gndP g) (hb : bldP b) (st : Store) (R : AV → Store → Prop) (h : ∀ z : Bool, (z = true ↔ onP g b) → R (bool z) st) : ACalls Tryz.prog 142 [.agg (gndC g), .agg (bldC b)] st R := by
 obtain ⟨h1, h2, _, _⟩ := hg; obtain ⟨_, _, h3, h4⟩ := hb
 refine ACalls.of_body (c := cfg 33) zd Tryz.func142 (by rfl) (by rfl) (by rfl) (by rfl) ?_
 repeat' (first | refine bcd (fun _ => ?_) (fun _ => ?_) | refine zf (fun _ => ?_) (fun _ => ?_) | refine in64 (by omega) ?_ | fail)
 all_goals
  refine ret (h _ ?_)
  unfold onP
  simp only [decide_eq_true_eq, decide_eq_false_iff_not, Bool.false_eq_true, false_iff, true_iff, beq_iff_eq, bne_iff_ne, beq_eq_false_iff_ne, ne_eq, reduceCtorEq] at *
  omega
set_option maxRecDepth 20000 in
theorem zfe (g : Gnd) (t : Int) (hg : gndP g) (st : Store) (R : AV → Store → Prop) (h : ∀ z : Bool, (z = true ↔ 0 ≤ t ∧ t < g.W * g.H) → R (bool z) st) : ACalls Tryz.prog 146 [.agg (gndC g), int t] st R := by
 have hm := zz hg
 refine ACalls.of_body (c := cfg 16) zd Tryz.func146 (by rfl) (by rfl) (by rfl) (by rfl) ?_
 repeat' (first | refine bcd (fun _ => ?_) (fun _ => ?_) | refine zf (fun _ => ?_) (fun _ => ?_) | refine in64 (by omega) ?_ | fail)
 all_goals
  refine ret (h _ ?_)
  simp only [decide_eq_true_eq, decide_eq_false_iff_not, Bool.false_eq_true, false_iff, true_iff, beq_iff_eq, bne_iff_ne, beq_eq_false_iff_ne, ne_eq, reduceCtorEq] at *
  omega
set_option maxRecDepth 20000 in
theorem zev (g : Gnd) (t : Int) (hg : gndP g) (st : Store) (R : AV → Store → Prop) (h : ∀ z : Bool, (z = true ↔ zid g t) → R (bool z) st) : ACalls Tryz.prog 106 [.agg (gndC g), int t] st R := by
 refine ACalls.of_body (c := cfg 12) zd Tryz.func106 (by rfl) (by rfl) (by rfl) (by rfl) ?_
 repeat' (first | refine bcd (fun _ => ?_) (fun _ => ?_) | refine zf (fun _ => ?_) (fun _ => ?_) | refine in64 (by omega) ?_ | (refine zfe _ _ hg _ _ ?_; rintro (_ | _) hz)| fail)
 all_goals
  refine ret (h _ ?_)
  unfold zid
  simp only [decide_eq_true_eq, decide_eq_false_iff_not, Bool.false_eq_true, false_iff, true_iff, beq_iff_eq, bne_iff_ne, beq_eq_false_iff_ne, ne_eq, reduceCtorEq] at *
  omega
set_option maxRecDepth 20000 in
theorem zmg (w : Wld) (u : Unt) (hg : gndP w.G) (st : Store) (R : AV → Store → Prop) (h : ∀ z : Bool, (z = true ↔ untP w u) → R (bool z) st) : ACalls Tryz.prog 71 [.agg (wldC w), .agg (untC u)] st R := by
 refine ACalls.of_body (c := cfg 90) zd Tryz.func71 (by rfl) (by rfl) (by rfl) (by rfl) ?_
 repeat' (first | refine bcd (fun _ => ?_) (fun _ => ?_) | refine zf (fun _ => ?_) (fun _ => ?_) | refine in64 (by omega) ?_ | (refine zgz u.kind _ _ ?_; rintro (_ | _) hz)| (refine zev w.G u.goal hg _ _ ?_; rintro (_ | _) hz)| (refine zev w.G u.next hg _ _ ?_; rintro (_ | _) hz)| fail)
 all_goals
  refine ret (h _ ?_)
  simp only [decide_eq_true_eq, decide_eq_false_iff_not, Bool.false_eq_true, false_iff, true_iff, beq_iff_eq, bne_iff_ne, beq_eq_false_iff_ne, ne_eq, reduceCtorEq, untP, zdv, zid] at *
  first | omega | (clear h; rcases Decidable.em (u.state = 1) with e1 | e1 <;> rcases Decidable.em (u.goal = -1) with e2 | e2 <;> simp [bne, beqD, e1, e2] at * <;> omega)
end Go.Proofs
namespace Go.Proofs
open Go Go.V
theorem zmt {t : UInt8} (h : t.toNat ≤ 5) : t = 0 ∨ t = 1 ∨ t = 2 ∨ t = 3 ∨ t = 4 ∨ t = 5 := by
 have : t.toNat = (0 : UInt8).toNat ∨ t.toNat = (1 : UInt8).toNat ∨ t.toNat = (2 : UInt8).toNat ∨ t.toNat = (3 : UInt8).toNat ∨ t.toNat = (4 : UInt8).toNat ∨ t.toNat = (5 : UInt8).toNat := by
  show t.toNat = 0 ∨ t.toNat = 1 ∨ t.toNat = 2 ∨ t.toNat = 3 ∨ t.toNat = 4 ∨ t.toNat = 5
  omega
 simpa only [UInt8.toNat_inj] using this
theorem y3 (k : Int) (st : Store) (R : AV → Store → Prop) (h : R (.agg (zv7 k)) st) : ACalls Tryz.prog 109 [int k] st R := by
 refine ACalls.of_body (c := cfg 14) zd Tryz.func109 (by rfl) (by rfl) (by rfl) (by rfl) ?_
 unfold zv7 kRad zxb kCls va j4 at h
 refine bceq (fun h1 => ?_) (fun h1 => ?_)
 ·simp only [h1] at h
  exact ret h
 refine bceq (fun h2 => ?_) (fun h2 => ?_)
 ·simp only [h2] at h
  exact ret h
 refine bceq (fun h3 => ?_) (fun h3 => ?_)
 ·simp only [h3] at h
  exact ret h
 simp only [h1, h2, h3, if_false] at h
 exact ret h
theorem zlf (c : Int) (t : UInt8) (ht : t.toNat ≤ 5) (st : Store) (R : AV → Store → Prop) (h : R (int (znr c t.toNat)) st) : ACalls Tryz.prog 191 [int c, u8 t] st R := by
 refine ACalls.of_body (c := cfg 17) zd Tryz.func191 (by rfl) (by rfl) (by rfl) (by rfl) ?_
 unfold znr at h
 have hn := zmt ht
 refine bceq (fun h1 => ?_) (fun h1 => ?_)
 ·rw [if_pos h1] at h
  rcases hn with rfl | rfl | rfl | rfl | rfl | rfl <;> exact ⟨_, rfl, by decide, optR (ret h)⟩
 refine bceq (fun h2 => ?_) (fun h2 => ?_)
 ·rw [if_neg h1, if_pos h2] at h
  rcases hn with rfl | rfl | rfl | rfl | rfl | rfl <;> exact ⟨_, rfl, by decide, optR (ret h)⟩
 rw [if_neg h1, if_neg h2] at h
 rcases hn with rfl | rfl | rfl | rfl | rfl | rfl <;> exact ⟨_, rfl, by decide, optR (ret h)⟩
end Go.Proofs
namespace Go.Proofs
open Go Go.V
theorem k0 (n : Int) (st : Store) (R : AV → Store → Prop) (h : R (int (nrm n)) st) : ACalls Tryz.prog 213 [int n] st R := by
 refine ACalls.of_body (c := cfg 5) zd Tryz.func213 (by rfl) (by rfl) (by rfl) (by rfl) ?_
 rw [← ybg] at h
 exact ret h
theorem zvy (n : Int) (hn : ym n) (st : Store) (R : AV → Store → Prop) (h : R (int (-nrm n)) st) : ACalls Tryz.prog 215 [int n] st R := by
 refine ACalls.of_body (c := cfg 6) zd Tryz.func215 (by rfl) (by rfl) (by rfl) (by rfl) ?_
 refine k0 n _ _ ?_
 have := zbz hn
 refine ⟨⟨by omega, by omega⟩, ?_⟩
 rw [show -nrm n = 0 - nrm n by omega] at h
 exact ret h
theorem vz (a b : Int) (ha : ym a) (hb : ym b) (st : Store) (R : AV → Store → Prop) (h : R (int (fadd a b)) st) : ACalls Tryz.prog 194 [int a, int b] st R := by
 refine ACalls.of_body (c := cfg 30) zd Tryz.func194 (by rfl) (by rfl) (by rfl) (by rfl) ?_
 refine k0 a _ _ ?_
 refine k0 b _ _ ?_
 have h1 := zbz ha
 have h2 := zbz hb
 unfold fadd at h
 generalize nrm a = x at *
 generalize nrm b = y at *
 have k1 : x + y > 9223372036854775807 → R (int 9223372036854775807) st := fun hh => by rw [show zap (x + y) = 9223372036854775807 by unfold zap; simp [hh]] at h; exact h
 have k2 : x + y < -9223372036854775807 → R (int (-9223372036854775807)) st := fun hh => by rw [show zap (x + y) = -9223372036854775807 by unfold zap; rw [if_neg (by omega), if_pos hh]] at h; exact h
 have k3 : ¬ x + y > 9223372036854775807 → ¬ x + y < -9223372036854775807 → ym (x + y) ∧ R (int (x + y)) st := fun hh hh' => ⟨⟨by omega, by omega⟩, by rw [show zap (x + y) = x + y by unfold zap; rw [if_neg hh, if_neg hh']] at h; exact h⟩
 have fin : ¬ x + y > 9223372036854775807 → ¬ x + y < -9223372036854775807 → ym (x + y) ∧ ∃ r st', AV.le (int (x + y)) r ∧ st.Has st' ∧ R r st' := fun hh hh' => ⟨(k3 hh hh').1, ret (k3 hh hh').2⟩
 have e : Int.negSucc 9223372036854775806 = -9223372036854775807 := rfl
 refine bcd (fun c1 => ?_) (fun c1 => ?_)
 ·refine ⟨⟨by omega, by omega⟩, ?_⟩
  refine bcd (fun c2 => ?_) (fun c2 => ?_)
  ·exact ret (k1 (by omega))
  ·refine bcd (fun c3 => ?_) (fun c3 => ?_)
   ·omega
   ·exact fin (by omega) (by omega)
 ·refine bcd (fun c3 => ?_) (fun c3 => ?_)
  ·refine ⟨⟨by omega, by omega⟩, ?_⟩
   refine bcd (fun c4 => ?_) (fun c4 => ?_)
   ·exact ret (k2 (by omega))
   ·exact fin (by omega) (by omega)
  ·exact fin (by omega) (by omega)
theorem j0 (a b : Int) (ha : ym a) (hb : ym b) (st : Store) (R : AV → Store → Prop) (h : R (int (fsub a b)) st) : ACalls Tryz.prog 193 [int a, int b] st R := by
 refine ACalls.of_body (c := cfg 9) zd Tryz.func193 (by rfl) (by rfl) (by rfl) (by rfl) ?_
 refine zvy b hb _ _ ?_
 have h2 := zbz hb
 exact vz a (-nrm b) ha ⟨by omega, by omega⟩ _ _ (ret h)
theorem zkp (n : Int) (hn : ym n) (st : Store) (R : AV → Store → Prop) (h : R (.tup [u64 (asz n), bool (decide (nrm n < 0))]) st) : ACalls Tryz.prog 218 [int n] st R := by
 refine ACalls.of_body (c := cfg 13) zd Tryz.func218 (by rfl) (by rfl) (by rfl) (by rfl) ?_
 refine k0 n _ _ ?_
 have h1 := zbz hn
 unfold asz at h
 generalize nrm n = x at *
 refine bcd (fun c1 => ?_) (fun c1 => ?_)
 ·refine ⟨⟨by omega, by omega⟩, ?_⟩
  rw [if_pos c1, show decide (x < 0) = true by simp [c1]] at h
  rw [← w7 (v := -x) (by omega) (by omega), show -x = 0 - x by omega] at h
  exact ret h
 ·rw [if_neg c1, show decide (x < 0) = false by simp [c1]] at h
  rw [← w7 (v := x) (by omega) (by omega)] at h
  exact ret h
set_option maxHeartbeats 1000000 in
theorem zll (x y : Int) (hx : 0 ≤ x) (hx2 : x < 18446744073709551616) (hy : 0 ≤ y) (hy2 : y < 18446744073709551616) (st : Store) (R : AV → Store → Prop) (h : R (.tup (zbw (x * y))) st) :
  ACalls Tryz.prog 220 [u64 x, u64 y] st R := by
 refine ACalls.of_body (c := cfg 51) zd Tryz.func220 (by rfl) (by rfl) (by rfl) (by rfl) ?_
 refine ⟨by decide, ?_⟩
 refine ⟨by decide, ?_⟩
 refine ⟨by decide, ?_⟩
 refine ⟨by decide, ?_⟩
 refine ⟨by decide, ?_⟩
 refine ret ((congrArg (fun l => R (.tup l) st) ?_).mpr h)
 obtain ⟨p00, p10, p01, p11, e1, e2, e3, e4, e5, b⟩ := zic x y hx hx2 hy hy2
 simp only [yb7, ya0 hx, ya0 hy, zf0, ← e1, ← e2, ← e3, ← e4]
 rw [ya0 (Int.emod_nonneg _ (by decide))]
 unfold zbw u64
 refine congr (congrArg _ ?_) rfl
 refine congrArg (fun n => AV.s (.int .u64 n)) ?_
 omega
theorem jq (x : Int) (hx : 0 ≤ x) (hx2 : x < 18446744073709551616) (st : Store) (R : AV → Store → Prop) (h : R (.agg (zbw (x * x))) st) : ACalls Tryz.prog 199 [u64 x] st R := by
 refine ACalls.of_body (c := cfg 14) zd Tryz.func199 (by rfl) (by rfl) (by rfl) (by rfl) ?_
 exact zll x x hx hx2 hx hx2 _ _ (ret h)
theorem zeu (a b : Int) (ha : 0 ≤ a) (hb : 0 ≤ b) (st : Store) (R : AV → Store → Prop) (h : R (bool (decide (a < b))) st) : ACalls Tryz.prog 198 [.agg (zbw a), .agg (zbw b)] st R := by
 refine ACalls.of_body (c := cfg 24) zd Tryz.func198 (by rfl) (by rfl) (by rfl) (by rfl) ?_
 refine bcd (fun c1 => ?_) (fun c1 => ?_)
 ·exact ret (isT h (by simp; omega))
 ·refine bceq (fun c2 => ?_) (fun c2 => ?_)
  ·refine ret ?_
   have : decide (a < b) = decide (a % 18446744073709551616 < b % 18446744073709551616) := by
    rw [Bool.eq_iff_iff]; simp; omega
   rw [this] at h; exact h
  ·exact ret (isF h (by simp; omega))
end Go.Proofs
namespace Go.Proofs
open Go Go.V
theorem zex (x y c : Int) (hx : 0 ≤ x) (hy : 0 ≤ y) (hc : 0 ≤ c) (hc1 : c ≤ 1) (st : Store) (R : AV → Store → Prop) (h : R (.tup [u64 ((x + y + c) % 18446744073709551616), u64 ((x + y + c) / 18446744073709551616)]) st) :
  ACalls Tryz.prog 238 [u64 x, u64 y, u64 c] st R := by
 obtain ⟨a, rfl⟩ := Int.eq_ofNat_of_zero_le hx
 obtain ⟨b, rfl⟩ := Int.eq_ofNat_of_zero_le hy
 obtain ⟨d, rfl⟩ := Int.eq_ofNat_of_zero_le hc
 exact zpq Tryz.laysNm725 a b d (by omega) h
theorem zks (a b : Int) (ha : 0 ≤ a) (hb : 0 ≤ b) (hab : a + b < 340282366920938463463374607431768211456) (st : Store) (R : AV → Store → Prop) (h : R (.agg (zbw (a + b))) st) : ACalls Tryz.prog 219 [.agg (zbw a), .agg (zbw b)] st R := by
 refine ACalls.of_body (c := cfg 29) zd Tryz.func219 (by rfl) (by rfl) (by rfl) (by rfl) ?_
 refine zex (a % 18446744073709551616) (b % 18446744073709551616) 0 (by omega) (by omega) (by omega) (by omega) _ _ ?_
 refine zex (a / 18446744073709551616) (b / 18446744073709551616) ((a % 18446744073709551616 + b % 18446744073709551616 + 0) / 18446744073709551616) (by omega) (by omega) (by omega) (by omega) _ _ ?_
 refine ret ((congrArg (fun l => R (.agg l) st) ?_).mpr h)
 refine zxj ?_ ?_
 ·omega
 ·omega
theorem zz2 {v : Vc} (h : v.ok) : 0 ≤ asz v.1 * asz v.1 ∧ 0 ≤ asz v.2 * asz v.2 ∧ asz v.1 * asz v.1 ≤ 85070591730234615847396907784232501249 ∧ asz v.2 * asz v.2 ≤ 85070591730234615847396907784232501249 := by
 obtain ⟨h1, h2⟩ := h
 have a1 := zmd h1
 have a2 := zmd h2
 have b : ∀ x : Int, 0 ≤ x → x ≤ 9223372036854775807 → 0 ≤ x * x ∧ x * x ≤ 85070591730234615847396907784232501249 := by
  intro x h3 h4
  refine ⟨Int.mul_nonneg h3 h3, ?_⟩
  have h5 : x * x ≤ 9223372036854775807 * 9223372036854775807 := Int.mul_le_mul h4 h4 h3 (by decide)
  exact h5
 have b1 := b _ a1.1 a1.2
 have b2 := b _ a2.1 a2.2
 exact ⟨b1.1, b2.1, b1.2, b2.2⟩
theorem zcm (v : Vc) (hv : v.ok) (st : Store) (R : AV → Store → Prop) (h : R (.agg (zbw (sqr v))) st) : ACalls Tryz.prog 196 [.agg (vecC v)] st R := by
 refine ACalls.of_body (c := cfg 24) zd Tryz.func196 (by rfl) (by rfl) (by rfl) (by rfl) ?_
 have a1 := zmd hv.1
 have a2 := zmd hv.2
 have b := zz2 hv
 refine zkp v.1 hv.1 _ _ ?_
 refine zkp v.2 hv.2 _ _ ?_
 refine jq (asz v.1) (by omega) (by omega) _ _ ?_
 refine jq (asz v.2) (by omega) (by omega) _ _ ?_
 exact zks _ _ (by omega) (by omega) (by omega) _ _ (ret h)
theorem zf2 (a b : Vc) (ha : a.ok) (hb : b.ok) (st : Store) (R : AV → Store → Prop) (h : R (.agg (vecC (vsub a b))) st) : ACalls Tryz.prog 197 [.agg (vecC a), .agg (vecC b)] st R := by
 refine ACalls.of_body (c := cfg 16) zd Tryz.func197 (by rfl) (by rfl) (by rfl) (by rfl) ?_
 refine ADraw.of_sched zd (by rfl) (by rfl) zug (by rfl) ?_
 refine ⟨j0 a.1 b.1 ha.1 hb.1 _ _ ⟨(by repeat (first | exact trivial | refine ⟨rfl, ?_⟩ | refine ⟨optR (optR (optR (za _ (zb _ _ _) rfl))), ?_⟩)), ?_⟩, trivial⟩
 refine ⟨j0 a.2 b.2 ha.2 hb.2 _ _ ⟨(by repeat (first | exact trivial | refine ⟨rfl, ?_⟩ | refine ⟨optR (optR (optR (za _ (zb _ _ _) rfl))), ?_⟩)), ?_⟩, trivial⟩
 refine ⟨⟨(by repeat (first | exact trivial | refine ⟨rfl, ?_⟩ | refine ⟨optR (optR (optR (za _ (zb _ _ _) rfl))), ?_⟩)), ?_⟩, trivial⟩
 exact ret h
theorem zh6 (a b : Vc) : (vsub a b).ok := ⟨ve _ _, ve _ _⟩
theorem zaw (a b : Vc) (r : Int) (ha : a.ok) (hb : b.ok) (hr : r ≤ 9223372036854775807) (st : Store) (R : AV → Store → Prop) (h : R (bool (near a b r)) st) : ACalls Tryz.prog 155 [.agg (vecC a), .agg (vecC b), int r] st R := by
 refine ACalls.of_body (c := cfg 17) zd Tryz.func155 (by rfl) (by rfl) (by rfl) (by rfl) ?_
 unfold near at h
 refine bcd (fun c1 => ?_) (fun c1 => ?_)
 ·exact ret (isF h (by simp; omega))
 ·have hb2 := zz2 (zh6 a b)
  refine zf2 a b ha hb _ _ ?_
  refine zcm _ (zh6 a b) _ _ ?_
  refine ((congrArg (fun n => ACalls Tryz.prog 199 [.s (.int .u64 n)] st _) (w7 (v := r) (by omega) (by omega))).mpr ?_)
  refine jq r (by omega) (by omega) _ _ ?_
  refine zeu _ _ ?_ (Int.mul_nonneg (by omega) (by omega)) _ _ (ret ?_)
  ·unfold sqr; omega
  ·have : decide (0 < r ∧ sqr (vsub a b) < r * r) = decide (sqr (vsub a b) < r * r) := by
    rw [Bool.eq_iff_iff]; simp; omega
   rw [this] at h; exact h
end Go.Proofs
namespace Go.Proofs
open Go Go.V
theorem zom (g : Gnd) (hg : gndP g) (t : Nat) (ht : (t : Int) < g.W * g.H) (p : Vc) (hp : yx p.1 p.2) (r : Int) (hr : 0 < r ∧ r ≤ 262144) (st : Store) (R : AV → Store → Prop) (h : R (bool (decide (hitP g t p r))) st) :
  ACalls Tryz.prog 152 [.agg (gndC g), int t, .agg (vecC p), int r] st R := by
 have hb := zbb hg ht
 have hn := zvz hg ht hp hr.1
 have hx := txty hg ht
 have hq := trem (t := t) hg.1.1
 have hq2 := tquo (t := t) hg.1.1
 have hg1 := hg.1
 have hg2 := hg.2.1
 have hp' := hp
 unfold yx at hp'
 refine ACalls.of_body (c := cfg 41) zd Tryz.func152 (by rfl) (by rfl) (by rfl) (by rfl) ?_
 refine ADraw.of_sched zd (by rfl) (by rfl) zu0 (by rfl) ?_
 refine ⟨by omega, ?_⟩
 have q1 : ym ((t : Int).tmod g.W * 65536) := by rw [hq]; unfold ym; omega
 have q2 : ym ((t : Int).tdiv g.W) := by rw [hq2]; unfold ym; omega
 have q3 : ym ((t : Int).tdiv g.W * 65536) := by rw [hq2]; unfold ym; omega
 refine ⟨q1, ?_⟩
 refine ⟨by omega, ?_⟩
 refine ⟨q2, ?_⟩
 refine ⟨q3, ?_⟩
 refine ⟨⟨(by repeat (first | exact trivial | refine ⟨rfl, ?_⟩ | refine ⟨optR (optR (optR (za _ (zb _ _ _) rfl))), ?_⟩)), ?_⟩, trivial⟩
 refine ⟨⟨trivial, ?_⟩, trivial⟩
 have e1 : (t : Int).tmod g.W * 65536 = tx g t := by rw [hq]; rfl
 have e2 : (t : Int).tdiv g.W * 65536 = ty g t := by rw [hq2]; rfl
 rw [e1, e2]
 refine in64 (by omega) ?_
 refine in64 (by omega) ?_
 have c1 := zcd (x := p.1) hx.1
 have c2 := zcd (x := p.2) hx.2
 refine zaw p (wg p.1 (tx g t), wg p.2 (ty g t)) r ⟨⟨by omega, by omega⟩, ⟨by omega, by omega⟩⟩ ⟨⟨by dsimp only; omega, by dsimp only; omega⟩, ⟨by dsimp only; omega, by dsimp only; omega⟩⟩ (by omega) _ _ (ret ?_)
 rw [hn]
 exact h
set_option maxRecDepth 20000 in
theorem zl5 (p : Vc) (r : Int) (st : Store) (R : AV → Store → Prop) (h : ∀ z : Bool, (z = true ↔ (0 ≤ r ∧ r ≤ 262144) ∧ yx p.1 p.2) → R (bool z) st) : ACalls Tryz.prog 151 [.agg (vecC p), int r] st R := by
 refine ACalls.of_body (c := cfg 15) zd Tryz.func151 (by rfl) (by rfl) (by rfl) (by rfl) ?_
 repeat' (first | refine bcd (fun _ => ?_) (fun _ => ?_) | refine zf (fun _ => ?_) (fun _ => ?_) | refine in64 (by omega) ?_ | (refine zlg p _ _ ?_; rintro (_ | _) hz)| fail)
 all_goals
  refine ret (h _ ?_)
  simp only [decide_eq_true_eq, decide_eq_false_iff_not, Bool.false_eq_true, false_iff, true_iff, beq_iff_eq, bne_iff_ne, beq_eq_false_iff_ne, ne_eq, reduceCtorEq, yx] at *
  omega
theorem zeb (r : Int) (hr : 0 < r ∧ r ≤ 262144) (st : Store) (R : AV → Store → Prop) (h : R (int r) st) : ACalls Tryz.prog 156 [int r] st R := by
 refine ACalls.of_body (c := cfg 6) zd Tryz.func156 (by rfl) (by rfl) (by rfl) (by rfl) ?_
 have e : min2 (max2 r 0) 262144 = r := by rw [min2_eq, max2_eq]; omega
 rw [← e] at h
 exact ret h
theorem zew (p : Vc) (r : Int) (q : Vc) (s : Int) (hp : p.ok) (hq : q.ok) (hr : 0 < r ∧ r ≤ 262144) (hs : 0 < s ∧ s ≤ 262144) (st : Store) (R : AV → Store → Prop) (h : R (bool (zau p r q s)) st) :
  ACalls Tryz.prog 113 [.agg (vecC p), int r, .agg (vecC q), int s] st R := by
 refine ACalls.of_body (c := cfg 18) zd Tryz.func113 (by rfl) (by rfl) (by rfl) (by rfl) ?_
 refine ADraw.of_sched zd (by rfl) (by rfl) zvl (by rfl) ?_
 refine ⟨zeb r hr _ _ ⟨(by repeat (first | exact trivial | refine ⟨rfl, ?_⟩ | refine ⟨optR (optR (optR (za _ (zb _ _ _) rfl))), ?_⟩)), ?_⟩, trivial⟩
 refine ⟨zeb s hs _ _ ⟨(by repeat (first | exact trivial | refine ⟨rfl, ?_⟩ | refine ⟨optR (optR (optR (za _ (zb _ _ _) rfl))), ?_⟩)), ?_⟩, trivial⟩
 refine in64 (by omega) ?_
 refine ⟨zaw p q (r + s) hp hq (by omega) _ _ ⟨trivial, ?_⟩, trivial⟩
 exact ⟨⟨trivial, ret h⟩, trivial⟩
end Go.Proofs
namespace Go.Proofs
open Go Go.V
theorem zfa (l : List UInt8) (hl : l.length ≤ 1000000000000) (hne : 0 < l.length) (st : Store) (R : AV → Store → Prop) (h : ∀ m : UInt8, m ∈ l → (∀ t ∈ l, t.toNat ≤ m.toNat) → R (u8 m) st) : ACalls Tryz.prog 139 [byts l] st R := by
 refine ACalls.of_body (c := cfg 25) zd Tryz.func139 (by rfl) (by rfl) (by rfl) (by rfl) ?_
 refine zf (fun h1 => ?_) (fun h1 => ?_)
 ·rw [zh] at h1
  simp at h1
  omega
 refine ⟨0, rfl, za _ (zl hne) ?_⟩
 refine AWp.loop (σ := Nat × UInt8) ⟨fun s => [(0, .av (byts l)), (3, .av (u8 s.2)), (4, .av (int (s.1 : Nat)))], fun _ => [],
  fun s st' => (1 ≤ s.1 ∧ s.1 ≤ l.length) ∧ st' = st ∧ s.2 ∈ l ∧ ∀ t ∈ l.take s.1, t.toNat ≤ s.2.toNat, fun s => l.length - s.1⟩ zd ?_ ?_
 ·refine ⟨(1, l[0]), trivial, ⟨⟨Nat.le_refl _, hne⟩, rfl, List.getElem_mem hne, fun t ht => ?_⟩, ⟨lr_ _, lr_ _, lr_ _, trivial⟩, trivial⟩
  have : l.take 1 = [l[0]] := by
   cases l with
   | nil => simp at hne
   | cons a l => rfl
  rw [this] at ht
  simp at ht
  rw [ht]
  exact Nat.le_refl _
 ·rintro ⟨i, m⟩ st' ⟨⟨hi1, hi⟩, rfl, hm, hall⟩
  simp only at hi1 hi hm hall
  refine zf (fun h1 => ?_) (fun h1 => ?_)
  ·have hlt : i < l.length := zxa h1
   refine ⟨i, rfl, za _ (zl hlt) ?_⟩
   refine ⟨⟨by omega, by omega⟩, ?_⟩
   have hmax : max2 (m.toNat : Int) (l[i].toNat : Int) = ((if l[i].toNat > m.toNat then l[i] else m : UInt8).toNat : Int) := by
    unfold max2
    by_cases hg : l[i].toNat > m.toNat
    ·rw [if_pos hg, decide_eq_true (by omega)]; rfl
    ·rw [if_neg hg, decide_eq_false (by omega)]; rfl
   refine ⟨(i + 1, if l[i].toNat > m.toNat then l[i] else m), ?_, ⟨⟨by omega, hlt⟩, rfl, ?_, fun t ht => ?_⟩, ⟨lr_ _, ?_, lr_ _, trivial⟩, trivial⟩
   ·show l.length - (i + 1) < l.length - i
    omega
   ·show (if l[i].toNat > m.toNat then l[i] else m) ∈ l
    split
    ·exact List.getElem_mem hlt
    ·exact hm
   ·show t.toNat ≤ (if l[i].toNat > m.toNat then l[i] else m : UInt8).toNat
    rw [List.take_succ_eq_append_getElem hlt] at ht
    rcases List.mem_append.1 ht with ht | ht
    ·have := hall t ht
     split <;> omega
    ·simp at ht
     subst ht
     split <;> omega
   ·show LV.le (.av (.s (.int .u8 (max2 (m.toNat : Int) (l[i].toNat : Int))))) _
    rw [hmax]
    exact lr_ _
  ·have hge : i = l.length := ybo h1 hi
   subst hge
   rw [List.take_length] at hall
   exact ⟨_, st', ar_ _, Store.Has.refl st', h m hm hall⟩
theorem zdw (g : Gnd) (hg : g.fits) (st : Store) (R : AV → Store → Prop) (h : ∀ b : Bool, (b = true ↔ gndP g) → R (bool b) st) : ACalls Tryz.prog 101 [.agg (gndC g)] st R := by
 refine ACalls.of_body (c := cfg 28) zd Tryz.func101 (by rfl) (by rfl) (by rfl) (by rfl) ?_
 refine zgh g.W _ _ (fun b hb => ?_)
 cases b with
 | false =>
  refine ⟨_, st, ar_ _, Store.Has.refl st, h _ ?_⟩
  simp only [Bool.false_eq_true, false_iff] at hb ⊢
  exact fun hp => hb hp.1
 | true =>
  refine zgh g.H _ _ (fun b2 hb2 => ?_)
  cases b2 with
  | false =>
   refine ⟨_, st, ar_ _, Store.Has.refl st, h _ ?_⟩
   simp only [Bool.false_eq_true, false_iff] at hb2 ⊢
   exact fun hp => hb2 hp.2.1
  | true =>
   have hm := zua (hb.1 rfl) (hb2.1 rfl)
   refine ⟨⟨by omega, by omega⟩, ?_⟩
   refine zf (fun h1 => ⟨_, st, ar_ _, Store.Has.refl st, h _ ?_⟩) (fun h1 => ?_)
   ·rw [zh] at h1
    simp only [Bool.false_eq_true, false_iff]
    intro hp
    have := hp.2.2.1
    simp [this] at h1
   ·rw [zh] at h1
    have h1 : (g.T.length : Int) = g.W * g.H := by simpa using h1
    refine zfa g.T hg (by omega) _ _ (fun m hm1 hm2 => ?_)
    refine ⟨_, st, ar_ _, Store.Has.refl st, h _ ?_⟩
    rw [decide_eq_true_iff]
    constructor
    ·intro h2
     refine ⟨hb.1 rfl, hb2.1 rfl, h1, fun t ht => ?_⟩
     have := hm2 t ht
     omega
    ·intro hp
     have := hp.2.2.2 m hm1
     omega
end Go.Proofs
