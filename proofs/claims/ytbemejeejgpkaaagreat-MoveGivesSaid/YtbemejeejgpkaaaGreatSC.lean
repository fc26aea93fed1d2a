/- The ground on which laws of thronglaw24 are proved: contracts of functions and plain lemmas; no condition beyond the row's own. -/
import Derived.Test.YtbemejeejgpkaaaGreatVC
import Derived.Test.YtbemejeejgpkaaaGreatVD
import Derived.Test.YtbemejeejgpkaaaGreatSA
import Derived.Test.YtbemejeejgpkaaaGreatVG
import Derived.Test.YtbemejeejgpkaaaGreatVE
import Derived.Test.YtbemejeejgpkaaaGreatSB
set_option linter.unusedSimpArgs false
set_option linter.unusedVariables false
namespace Go.Proofs
open Go Go.V
def yh5 : V.Sched := (sv [0, 3] (.e 1 [3] (sv [2] (.e 4 [] (sv [5, 6, 7] (.e 8 [] .done .stop)) .stop)) .stop))
def ycj : V.Sched := (sv [0] (.e 1 [] (sv [2, 3, 4, 5, 6, 7, 8, 9, 10, 11, 12, 13, 14, 15, 16, 17, 18, 19, 20, 21, 22, 23, 24, 25, 26, 27, 28, 29, 30, 31, 32, 33, 34, 35, 36, 37, 38, 39, 40, 41, 42] .done) .stop))
def yfx : V.Sched := (sv [0, 1, 2, 3, 4, 5] (.e 6 [3] (sv [7, 8] (.e 9 [] .done .stop)) .stop))
def zz8 : V.Sched := (sv [0, 1, 2, 3, 4, 5, 6] (.e 7 [1, 4] (sv [8, 9, 10, 11, 12, 13, 14, 15, 16] (.e 17 [] .done .stop)) .stop))
def yf3 : V.Sched := (sv [0, 1, 2, 3, 4, 5, 6, 7, 8, 9, 10, 11, 12] (.e 13 [] .done .stop))
def yf2 : V.Sched := (sv [0, 1, 2, 3, 4, 5] (.e 6 [2, 5] (.e 7 [] (.e 8 [] .done .stop) .stop) .stop))
def yf1 : V.Sched := (sv [0, 1, 2, 3, 4, 5, 6, 7, 8] .done)
def yf0 : V.Sched := (sv [0, 1, 2, 3, 4, 5, 6, 7, 8] .done)
def yfz : V.Sched := (sv [0, 1, 2, 3, 4, 5, 6, 7, 8, 9, 10] (.e 11 [0, 1, 2, 3, 4, 5, 6, 7, 8, 9, 10] (.e 12 [] .done .stop) .stop))
def yfy : V.Sched := (sv [0, 1, 2, 3, 4, 5, 6, 7, 8] (.e 9 [] .done .stop))
def zzv : V.Sched := (sv [0, 1, 2, 3, 4] (.e 5 [] .done .stop))
def zzu : V.Sched := (sv [0, 1] (.e 2 [] (sv [3, 4, 5, 6, 7] (.e 8 [] (sv [9, 10, 11, 12, 13, 14, 15, 16, 17, 18, 19, 20, 21, 22, 23, 24, 25] .done) .stop)) .stop))
def yfw : V.Sched := (sv [0, 1, 3, 4, 6, 7] (.e 2 [4, 7] (sv [9] (.e 5 [7] (.e 8 [] (.e 10 [] (sv [11] (.e 12 [] (sv [13] (.e 14 [] .done .stop)) .stop)) .stop) .stop) .stop)) .stop))
def zpn : V.Sched := (sv [0] (.e 1 [0] (sv [2] (.e 3 [] (.e 4 [] .done .stop) .stop)) .stop))
def zpm : V.Sched := (sv [0, 1, 2, 3, 4, 5, 6, 7] (.e 8 [] .done .stop))
def yfv : V.Sched := (sv [0, 1, 2, 3, 4, 5, 6, 7, 8, 11] (.e 9 [] (sv [10] .done) .stop))
def yfu : V.Sched := (sv [0, 1, 2, 3, 4, 5, 6, 11, 12] (.e 7 [0, 2, 4, 12] (sv [8, 9, 10] (.e 13 [0] (.e 14 [] (.e 15 [] .done .stop) .stop) .stop)) .stop))
def yft : V.Sched := (sv [0, 1, 2, 3, 4, 5] (.e 6 [1] (.e 7 [] .done .stop) .stop))
def yfs : V.Sched := (sv [0, 1, 2, 3, 4] (.e 5 [1] (sv [6] .done) .stop))
def zzt : V.Sched := (sv [0, 1, 2, 3, 4] (.e 5 [] .done .stop))
def zzs : V.Sched := (sv [0, 1, 2, 3, 4, 5, 6, 8, 9] (.e 7 [1, 3, 9] (.e 10 [1, 3] (sv [11] (.e 12 [1] (.e 13 [] (sv [14] .done) .stop) .stop)) .stop) .stop))
def zzr : V.Sched := (sv [0, 1, 2, 3, 4] (.e 5 [] .done .stop))
def yfr : V.Sched := (sv [0, 1, 2, 3, 4, 5, 6, 7, 8] .done)
def ya0 : V.Sched := (sv [0, 1, 3, 4] (.e 2 [4] (.e 5 [] (sv [6] (.e 7 [] .done .stop)) .stop) .stop))
def yaz : V.Sched := (sv [0, 1, 2, 3, 5, 6, 7, 8] (.e 4 [6, 8] (.e 9 [] (sv [10] (.e 11 [] .done .stop)) .stop) .stop))
def zlu : V.Sched := (sv [0, 1, 2, 3, 4, 5, 6, 7, 9, 10, 11] (.e 8 [4, 9, 11] (.e 12 [] (sv [13] .done) .stop) .stop))
def zlt : V.Sched := (sv [0, 1, 2, 3, 4, 5, 6, 7, 8, 9, 10, 11] (.e 12 [5, 7, 9] (sv [13] (.e 14 [] (sv [15, 16] .done) .stop)) .stop))
def yay : V.Sched := (sv [0, 1, 2, 3, 4, 5, 6] (.e 7 [] (sv [8, 9, 10] (.e 11 [] (.e 12 [] .done .stop) .stop)) .stop))
def yax : V.Sched := (sv [0, 1, 2, 3, 4, 5, 6, 7] (.e 8 [] .done .stop))
def yaw : V.Sched := (sv [0, 1, 2, 3, 4, 5, 6, 7] (.e 8 [] .done .stop))
def yav : V.Sched := (sv [0, 1, 2, 3, 4, 5] (.e 6 [] .done .stop))
def zpq : V.Sched := (sv [0, 1, 2, 3, 4, 5, 6, 7, 8, 9, 10, 11, 12, 13, 15, 16] (.e 14 [16] (.e 17 [13] (sv [18, 19, 20] .done) .stop) (.e 17 [13] (sv [18] (.e 14 [16] (sv [19, 20] .done) .stop)) .stop)))
def yau : V.Sched := (sv [0, 1, 2, 3, 4, 6] (.e 5 [] (.e 7 [] (sv [8, 9, 10] (.e 11 [] (.e 12 [] .done .stop) .stop)) .stop) .stop))
def yat : V.Sched := (sv [0, 1, 2, 3, 4, 5, 6, 7, 8, 9, 11, 12] (.e 10 [3, 4] (.e 13 [3, 4, 8, 9] (.e 14 [3, 4] (.e 15 [] .done .stop) .stop) .stop) (.e 13 [3, 4, 8, 9] (.e 10 [3, 4] (.e 14 [3, 4] (.e 15 [] .done .stop) .stop) .stop) .stop)))
def zls : V.Sched := (sv [0, 1, 2, 3, 4, 5] (.e 6 [] .done .stop))
def zlr : V.Sched := (sv [0, 1, 2, 3, 4, 5, 6, 9] (.e 7 [] (sv [8] .done) .stop))
def yas : V.Sched := (sv [0, 1, 2, 3, 5, 6, 7, 8] (.e 4 [6] (.e 9 [] (sv [10] (.e 11 [] .done .stop)) .stop) .stop))
def yar : V.Sched := (sv [0, 1, 2, 3, 4, 5, 6, 7, 8, 9, 10, 11, 12] (.e 13 [] .done .stop))
def yaq : V.Sched := (sv [0, 1, 2, 3, 4] (.e 5 [] .done .stop))
def yap : V.Sched := (sv [0, 1, 2, 3, 4, 5, 6, 7, 8, 9] (.e 10 [3, 7] (.e 11 [0, 1, 2, 3, 4, 5, 6, 7, 8, 9] (.e 12 [0, 1, 2, 3, 4, 5, 6, 7, 8, 9] (.e 13 [] (.e 14 [] .done .stop) .stop) .stop) (.e 12 [0, 1, 2, 3, 4, 5, 6, 7, 8, 9] (.e 11 [0, 1, 2, 3, 4, 5, 6, 7, 8, 9] (.e 13 [] (.e 14 [] .done .stop) .stop) .stop) .stop)) (.e 11 [0, 1, 2, 3, 4, 5, 6, 7, 8, 9] (.e 10 [3, 7] (.e 12 [0, 1, 2, 3, 4, 5, 6, 7, 8, 9] (.e 13 [] (.e 14 [] .done .stop) .stop) .stop) (.e 12 [0, 1, 2, 3, 4, 5, 6, 7, 8, 9] (.e 10 [3, 7] (.e 13 [] (.e 14 [] .done .stop) .stop) .stop) .stop)) (.e 12 [0, 1, 2, 3, 4, 5, 6, 7, 8, 9] (.e 10 [3, 7] (.e 11 [0, 1, 2, 3, 4, 5, 6, 7, 8, 9] (.e 13 [] (.e 14 [] .done .stop) .stop) .stop) (.e 11 [0, 1, 2, 3, 4, 5, 6, 7, 8, 9] (.e 10 [3, 7] (.e 13 [] (.e 14 [] .done .stop) .stop) .stop) .stop)) .stop))))
def yao : V.Sched := (sv [0, 1, 2, 3, 4, 5, 6, 7, 8] (.e 9 [5] (sv [10, 11, 12, 13, 14, 15, 16, 17, 18, 19, 20, 21, 22, 23, 24, 25, 26, 27, 28, 29, 30, 31, 36, 37] (.e 32 [37] (sv [33, 34, 35, 38, 39, 40, 41] .done) .stop)) .stop))
def yan : V.Sched := (sv [0, 1, 2, 3, 4, 5, 6, 7] (.e 8 [] (sv [9, 10] (.e 11 [] .done .stop)) .stop))
def yam : V.Sched := (sv [0, 1, 2, 3, 4, 5, 6, 7, 8, 9] (.e 10 [3, 7] (.e 11 [0, 1, 2, 3, 4, 5, 6, 7, 8, 9] (.e 12 [0, 1, 2, 3, 4, 5, 6, 7, 8, 9] (.e 13 [] (.e 14 [] .done .stop) .stop) .stop) (.e 12 [0, 1, 2, 3, 4, 5, 6, 7, 8, 9] (.e 11 [0, 1, 2, 3, 4, 5, 6, 7, 8, 9] (.e 13 [] (.e 14 [] .done .stop) .stop) .stop) .stop)) (.e 11 [0, 1, 2, 3, 4, 5, 6, 7, 8, 9] (.e 10 [3, 7] (.e 12 [0, 1, 2, 3, 4, 5, 6, 7, 8, 9] (.e 13 [] (.e 14 [] .done .stop) .stop) .stop) (.e 12 [0, 1, 2, 3, 4, 5, 6, 7, 8, 9] (.e 10 [3, 7] (.e 13 [] (.e 14 [] .done .stop) .stop) .stop) .stop)) (.e 12 [0, 1, 2, 3, 4, 5, 6, 7, 8, 9] (.e 10 [3, 7] (.e 11 [0, 1, 2, 3, 4, 5, 6, 7, 8, 9] (.e 13 [] (.e 14 [] .done .stop) .stop) .stop) (.e 11 [0, 1, 2, 3, 4, 5, 6, 7, 8, 9] (.e 10 [3, 7] (.e 13 [] (.e 14 [] .done .stop) .stop) .stop) .stop)) .stop))))
def yal : V.Sched := (sv [0, 1, 2, 3] (.e 4 [1] (sv [5] .done) .stop))
def yak : V.Sched := (sv [0, 1, 2, 3, 4, 5, 6, 7, 8, 9, 10, 11, 12, 13, 14, 15, 16, 17, 18, 19, 20, 22] (.e 21 [] (sv [23, 24] (.e 25 [] .done .stop)) .stop))
def yaj : V.Sched := (sv [0, 1, 2, 3, 4, 5] (.e 6 [4] (.e 7 [] .done .stop) .stop))
def vy : V.Sched := (sv [0, 1, 2, 3, 4, 5, 6, 7, 8, 9, 10, 11, 12, 14, 15] (.e 13 [] (sv [16] (.e 17 [] .done .stop)) .stop))
def yai : V.Sched := (sv [0, 1, 2, 4] (.e 3 [0, 1] (.e 5 [0, 1] (sv [6] (.e 7 [] (sv [8] (.e 9 [] .done .stop)) .stop)) .stop) .stop))
def yah : V.Sched := (sv [0, 1, 2, 3, 4] (.e 5 [] (.e 6 [] .done .stop) .stop))
def yag : V.Sched := (sv [0, 1, 2, 3, 4] (.e 5 [] .done .stop))
def zpp : V.Sched := (sv [0, 1, 2, 3, 4, 5] (.e 6 [] .done .stop))
def yaf : V.Sched := (sv [0, 1, 3, 4] (.e 2 [4] (.e 5 [] (sv [6] (.e 7 [] .done .stop)) .stop) .stop))
def yae : V.Sched := (sv [0, 1, 2, 4, 5, 6] (.e 3 [5, 6] (.e 7 [] (sv [8] (.e 9 [] (.e 10 [0, 1, 2, 4, 5, 6, 8] (.e 11 [] .done .stop) .stop) (.e 10 [0, 1, 2, 4, 5, 6, 8] (.e 9 [] (.e 11 [] .done .stop) .stop) .stop))) (.e 10 [0, 1, 2, 4, 5, 6] (.e 7 [] (sv [8] (.e 9 [] (.e 11 [] .done .stop) .stop)) .stop) .stop)) (.e 10 [0, 1, 2, 4, 5, 6] (.e 3 [5, 6] (.e 7 [] (sv [8] (.e 9 [] (.e 11 [] .done .stop) .stop)) .stop) .stop) .stop)))
def yad : V.Sched := (sv [0, 1, 2, 4, 5, 6] (.e 3 [5, 6] (.e 7 [] (sv [8] (.e 9 [] (.e 10 [0, 1, 2, 4, 5, 6, 8] (.e 11 [] .done .stop) .stop) (.e 10 [0, 1, 2, 4, 5, 6, 8] (.e 9 [] (.e 11 [] .done .stop) .stop) .stop))) (.e 10 [0, 1, 2, 4, 5, 6] (.e 7 [] (sv [8] (.e 9 [] (.e 11 [] .done .stop) .stop)) .stop) .stop)) (.e 10 [0, 1, 2, 4, 5, 6] (.e 3 [5, 6] (.e 7 [] (sv [8] (.e 9 [] (.e 11 [] .done .stop) .stop)) .stop) .stop) .stop)))
def yac : V.Sched := (sv [0, 1, 2, 3, 5, 6, 7, 8] (.e 4 [6, 8] (.e 9 [] (sv [10] (.e 11 [] .done .stop)) .stop) .stop))
def yab : V.Sched := (sv [0, 1, 2, 3, 4, 5, 6, 7] (.e 8 [6] (.e 9 [] .done .stop) .stop))
def yaa : V.Sched := (sv [0, 1, 2, 3, 4, 5, 6, 7, 8, 9] (.e 10 [7] (.e 11 [] .done .stop) .stop))
def zz9 : V.Sched := (sv [0, 1, 2, 3, 4, 5, 6, 7, 8, 9, 10, 11] .done)
def zz7 : V.Sched := (sv [0, 1, 2, 3, 4, 5, 7] (.e 6 [0, 7] (.e 8 [] .done .stop) .stop))
def zz6 : V.Sched := (sv [0, 1] (.e 2 [0] (.e 3 [] (sv [4] .done) .stop) .stop))
def zz5 : V.Sched := (sv [0, 1, 2, 3, 4, 5] (.e 6 [] (.e 7 [] .done .stop) .stop))
def zz4 : V.Sched := (sv [0, 1, 2, 3, 4, 5] (.e 6 [0] (sv [7] (.e 8 [] (.e 9 [] .done .stop) .stop)) .stop))
def zz3 : V.Sched := (sv [0, 1, 2, 3, 4, 5, 6] (.e 7 [] (sv [8] (.e 9 [] .done .stop)) .stop))
def zz2 : V.Sched := (sv [0, 1, 2, 3, 4, 5, 6, 7, 8, 9, 10, 11, 13, 14, 15, 16, 17, 18, 19, 20, 21, 22, 23, 24] (.e 12 [16, 21, 24] (.e 25 [] (sv [26] (.e 27 [] .done .stop)) .stop) .stop))
def zz1 : V.Sched := (sv [0, 1, 2, 3, 4, 5, 6, 7, 8, 9, 10, 11, 12, 13, 14, 15, 16, 17, 18, 19, 20, 21, 22, 23, 24, 25, 26, 27, 28, 29, 30, 31, 32, 33, 34, 35, 36, 37, 38] (.e 39 [] (sv [40, 41, 42, 43, 44, 45, 46] (.e 47 [] (sv [48, 49] .done) .stop)) .stop))
def zz0 : V.Sched := (sv [0, 1, 2, 3, 4, 5, 6, 7, 8, 9, 10, 11, 12, 13] (.e 14 [] (sv [15] .done) .stop))
def zzz : V.Sched := (sv [0, 1, 2, 3, 4, 5, 6, 7, 8, 9, 10, 11, 12, 13, 14, 15, 16, 17, 18, 19, 20, 21, 22, 23, 24] (.e 25 [] (sv [26] (.e 27 [] .done .stop)) .stop))
def zzy : V.Sched := (sv [0, 1, 2, 3, 4, 5, 6, 7, 8, 9, 10, 11] (.e 12 [] .done .stop))
def zpo : V.Sched := (sv [0, 1, 2, 3, 4, 5, 6, 7, 8, 9, 10, 11, 12, 13, 14, 15, 16, 17, 18, 19] (.e 20 [] (sv [21] .done) .stop))
def zdi : V.Sched := (sv [0, 1, 2, 3, 4, 5, 6, 7, 8, 9, 10, 11, 12, 13] (.e 14 [] (sv [15] .done) .stop))
def zdh : V.Sched := (sv [0, 1, 2, 3, 4, 5, 6, 7, 8, 9, 10, 11, 12, 13, 14, 15, 16, 17, 18, 19, 20, 21, 22, 23, 24] (.e 25 [] (sv [26] (.e 27 [] .done .stop)) .stop))
def zap : V.Sched := (sv [0, 1, 2, 3] (.e 4 [3] (.e 5 [] (.e 6 [] .done .stop) .stop) .stop))
def zzx : V.Sched := (sv [0, 1, 2, 3, 4, 5] (.e 6 [] (.e 7 [] .done .stop) .stop))
def zzw : V.Sched := (sv [0, 1, 2, 3, 4, 5, 6, 7] (.e 8 [6] (.e 9 [] .done .stop) .stop))
end Go.Proofs
namespace Go.Proofs
open Go Go.V
theorem zc : zv Tryz.prog infoTree.get := Tr.ok _ zkn
def cfg (n : Nat) (G : List Nat := []) (W : List Nat := []) : Cfg := { n := n, I := infoTree.get, G := G, W := W }
end Go.Proofs
namespace Go.Proofs
open Go Go.V
set_option maxRecDepth 20000 in
theorem zil (n : Int) (st : Store) (R : AV → Store → Prop) (h : ∀ z : Bool, (z = true ↔ zcn n) → R (bool z) st) : ACalls Tryz.prog 169 [int n] st R := by
 refine ACalls.of_body (c := cfg 9) zc Tryz.func169 (by rfl) (by rfl) (by rfl) (by rfl) ?_
 repeat' (first | refine bcd (fun _ => ?_) (fun _ => ?_) | refine ze (fun _ => ?_) (fun _ => ?_) | refine in64 (by omega) ?_ | fail)
 all_goals
  refine ret (h _ ?_)
  unfold zcn
  simp only [decide_eq_true_eq, decide_eq_false_iff_not, Bool.false_eq_true, false_iff, true_iff, beq_iff_eq, bne_iff_ne, beq_eq_false_iff_ne, ne_eq, reduceCtorEq] at *
  omega
set_option maxRecDepth 20000 in
theorem zhx (n : Int) (st : Store) (R : AV → Store → Prop) (h : ∀ z : Bool, (z = true ↔ 1 ≤ n ∧ n ≤ 128) → R (bool z) st) : ACalls Tryz.prog 193 [int n] st R := by
 refine ACalls.of_body (c := cfg 9) zc Tryz.func193 (by rfl) (by rfl) (by rfl) (by rfl) ?_
 repeat' (first | refine bcd (fun _ => ?_) (fun _ => ?_) | refine ze (fun _ => ?_) (fun _ => ?_) | refine in64 (by omega) ?_ | fail)
 all_goals
  refine ret (h _ ?_)
  simp only [decide_eq_true_eq, decide_eq_false_iff_not, Bool.false_eq_true, false_iff, true_iff, beq_iff_eq, bne_iff_ne, beq_eq_false_iff_ne, ne_eq, reduceCtorEq] at *
  omega
set_option maxRecDepth 20000 in
theorem znd (p : Vc) (st : Store) (R : AV → Store → Prop) (h : ∀ z : Bool, (z = true ↔ ks p.1 p.2) → R (bool z) st) : ACalls Tryz.prog 220 [.agg (vecC p)] st R := by
 refine ACalls.of_body (c := cfg 21) zc Tryz.func220 (by rfl) (by rfl) (by rfl) (by rfl) ?_
 repeat' (first | refine bcd (fun _ => ?_) (fun _ => ?_) | refine ze (fun _ => ?_) (fun _ => ?_) | refine in64 (by omega) ?_ | fail)
 all_goals
  refine ret (h _ ?_)
  unfold ks
  simp only [decide_eq_true_eq, decide_eq_false_iff_not, Bool.false_eq_true, false_iff, true_iff, beq_iff_eq, bne_iff_ne, beq_eq_false_iff_ne, ne_eq, reduceCtorEq] at *
  omega
set_option maxRecDepth 20000 in
theorem zoj (b : Bld) (st : Store) (R : AV → Store → Prop) (h : ∀ z : Bool, (z = true ↔ bldP b) → R (bool z) st) : ACalls Tryz.prog 196 [.agg (bldC b)] st R := by
 refine ACalls.of_body (c := cfg 41) zc Tryz.func196 (by rfl) (by rfl) (by rfl) (by rfl) ?_
 repeat' (first | refine bcd (fun _ => ?_) (fun _ => ?_) | refine ze (fun _ => ?_) (fun _ => ?_) | refine in64 (by omega) ?_ | fail)
 all_goals
  refine ret (h _ ?_)
  unfold bldP
  simp only [decide_eq_true_eq, decide_eq_false_iff_not, Bool.false_eq_true, false_iff, true_iff, beq_iff_eq, bne_iff_ne, beq_eq_false_iff_ne, ne_eq, reduceCtorEq] at *
  omega
set_option maxRecDepth 20000 in
theorem yb3 (g : Gnd) (b : Bld) (hg : gndP g) (hb : bldP b) (st : Store) (R : AV → Store → Prop) (h : ∀ z : Bool, (z = true ↔ onP g b) → R (bool z) st) : ACalls Tryz.prog 197 [.agg (gndC g), .agg (bldC b)] st R := by
 obtain ⟨h1, h2, _, _⟩ := hg; obtain ⟨_, _, h3, h4⟩ := hb
 refine ACalls.of_body (c := cfg 33) zc Tryz.func197 (by rfl) (by rfl) (by rfl) (by rfl) ?_
 repeat' (first | refine bcd (fun _ => ?_) (fun _ => ?_) | refine ze (fun _ => ?_) (fun _ => ?_) | refine in64 (by omega) ?_ | fail)
 all_goals
  refine ret (h _ ?_)
  unfold onP
  simp only [decide_eq_true_eq, decide_eq_false_iff_not, Bool.false_eq_true, false_iff, true_iff, beq_iff_eq, bne_iff_ne, beq_eq_false_iff_ne, ne_eq, reduceCtorEq] at *
  omega
set_option maxRecDepth 20000 in
theorem ygn (g : Gnd) (t : Int) (hg : gndP g) (st : Store) (R : AV → Store → Prop) (h : ∀ z : Bool, (z = true ↔ 0 ≤ t ∧ t < g.W * g.H) → R (bool z) st) : ACalls Tryz.prog 201 [.agg (gndC g), int t] st R := by
 have hm := ya hg
 refine ACalls.of_body (c := cfg 16) zc Tryz.func201 (by rfl) (by rfl) (by rfl) (by rfl) ?_
 repeat' (first | refine bcd (fun _ => ?_) (fun _ => ?_) | refine ze (fun _ => ?_) (fun _ => ?_) | refine in64 (by omega) ?_ | fail)
 all_goals
  refine ret (h _ ?_)
  simp only [decide_eq_true_eq, decide_eq_false_iff_not, Bool.false_eq_true, false_iff, true_iff, beq_iff_eq, bne_iff_ne, beq_eq_false_iff_ne, ne_eq, reduceCtorEq] at *
  omega
set_option maxRecDepth 20000 in
theorem zfw (g : Gnd) (t : Int) (hg : gndP g) (st : Store) (R : AV → Store → Prop) (h : ∀ z : Bool, (z = true ↔ zc8 g t) → R (bool z) st) : ACalls Tryz.prog 170 [.agg (gndC g), int t] st R := by
 refine ACalls.of_body (c := cfg 12) zc Tryz.func170 (by rfl) (by rfl) (by rfl) (by rfl) ?_
 repeat' (first | refine bcd (fun _ => ?_) (fun _ => ?_) | refine ze (fun _ => ?_) (fun _ => ?_) | refine in64 (by omega) ?_ | (refine ygn _ _ hg _ _ ?_; rintro (_ | _) hz)| fail)
 all_goals
  refine ret (h _ ?_)
  unfold zc8
  simp only [decide_eq_true_eq, decide_eq_false_iff_not, Bool.false_eq_true, false_iff, true_iff, beq_iff_eq, bne_iff_ne, beq_eq_false_iff_ne, ne_eq, reduceCtorEq] at *
  omega
set_option maxRecDepth 20000 in
theorem zop (w : Wld) (u : Unt) (hg : gndP w.G) (st : Store) (R : AV → Store → Prop) (h : ∀ z : Bool, (z = true ↔ untP w u) → R (bool z) st) : ACalls Tryz.prog 114 [.agg (wldC w), .agg (untC u)] st R := by
 refine ACalls.of_body (c := cfg 90) zc Tryz.func114 (by rfl) (by rfl) (by rfl) (by rfl) ?_
 repeat' (first | refine bcd (fun _ => ?_) (fun _ => ?_) | refine ze (fun _ => ?_) (fun _ => ?_) | refine in64 (by omega) ?_ | (refine zil u.kind _ _ ?_; rintro (_ | _) hz)| (refine zfw w.G u.goal hg _ _ ?_; rintro (_ | _) hz)| (refine zfw w.G u.next hg _ _ ?_; rintro (_ | _) hz)| fail)
 all_goals
  refine ret (h _ ?_)
  simp only [decide_eq_true_eq, decide_eq_false_iff_not, Bool.false_eq_true, false_iff, true_iff, beq_iff_eq, bne_iff_ne, beq_eq_false_iff_ne, ne_eq, reduceCtorEq, untP, zcn, zc8] at *
  first | omega | (clear h; rcases Decidable.em (u.state = 1) with e1 | e1 <;> rcases Decidable.em (u.goal = -1) with e2 | e2 <;> simp [bne, beqD, e1, e2] at * <;> omega)
end Go.Proofs
namespace Go.Proofs
open Go Go.V
theorem zpc {t : UInt8} (h : t.toNat ≤ 5) : t = 0 ∨ t = 1 ∨ t = 2 ∨ t = 3 ∨ t = 4 ∨ t = 5 := by
 have : t.toNat = (0 : UInt8).toNat ∨ t.toNat = (1 : UInt8).toNat ∨ t.toNat = (2 : UInt8).toNat ∨ t.toNat = (3 : UInt8).toNat ∨ t.toNat = (4 : UInt8).toNat ∨ t.toNat = (5 : UInt8).toNat := by
  show t.toNat = 0 ∨ t.toNat = 1 ∨ t.toNat = 2 ∨ t.toNat = 3 ∨ t.toNat = 4 ∨ t.toNat = 5
  omega
 simpa only [UInt8.toNat_inj] using this
theorem z6 (k : Int) (st : Store) (R : AV → Store → Prop) (h : R (.agg (zeo k)) st) : ACalls Tryz.prog 137 [int k] st R := by
 refine ACalls.of_body (c := cfg 14) zc Tryz.func137 (by rfl) (by rfl) (by rfl) (by rfl) ?_
 unfold zeo kRad ju kCls qx vm at h
 refine bceq (fun h1 => ?_) (fun h1 => ?_)
 ·simp only [h1] at h
  exact ret h
 refine bceq (fun h2 => ?_) (fun h2 => ?_)
 ·simp only [h2] at h
  exact ret h
 refine bceq (fun h3 => ?_) (fun h3 => ?_)
 ·simp only [h3] at h
  exact ret h
 simp only [h1, h2, h3, if_false] at h
 exact ret h
theorem ybi (k : Int) (st : Store) (R : AV → Store → Prop) (h : zcn k → R (.tup [.agg (zeo k), bool true]) st) (h' : ¬ zcn k → R (.tup [.agg [int 0, int 0, int 0, int 0, int 0], bool false]) st) : ACalls Tryz.prog 61 [int k] st R := by
 refine ACalls.of_body (c := cfg 18) zc Tryz.func61 (by rfl) (by rfl) (by rfl) (by rfl) ?_
 unfold zeo kRad ju kCls qx vm zcn at h
 refine bceq (fun h1 => ?_) (fun h1 => ?_)
 ·simp only [h1] at h
  exact ret (h (by decide))
 refine bceq (fun h2 => ?_) (fun h2 => ?_)
 ·simp only [h2] at h
  exact ret (h (by decide))
 refine bceq (fun h3 => ?_) (fun h3 => ?_)
 ·simp only [h3] at h
  exact ret (h (by decide))
 refine bceq (fun h4 => ?_) (fun h4 => ?_)
 ·simp only [h4] at h
  exact ret (h (by decide))
 exact ret (h' (by unfold zcn; omega))
theorem zm3 (k : Int) (hk : zcn k) (st : Store) (R : AV → Store → Prop) (h : R (.agg (zeo k)) st) : ACalls Tryz.prog 23 [int k] st R := by
 refine ACalls.of_body (c := cfg 11) zc Tryz.func23 (by rfl) (by rfl) (by rfl) (by rfl) ?_
 refine ybi k _ _ (fun _ => ret h) (fun h1 => absurd hk h1)
theorem zbn (c : Int) (t : UInt8) (ht : t.toNat ≤ 5) (st : Store) (R : AV → Store → Prop) (h : R (int (zcl c t.toNat)) st) : ACalls Tryz.prog 222 [int c, u8 t] st R := by
 refine ACalls.of_body (c := cfg 17) zc Tryz.func222 (by rfl) (by rfl) (by rfl) (by rfl) ?_
 unfold zcl at h
 have hn := zpc ht
 refine bceq (fun h1 => ?_) (fun h1 => ?_)
 ·rw [if_pos h1] at h
  rcases hn with rfl | rfl | rfl | rfl | rfl | rfl <;> exact ⟨_, rfl, by decide, optR (ret h)⟩
 refine bceq (fun h2 => ?_) (fun h2 => ?_)
 ·rw [if_neg h1, if_pos h2] at h
  rcases hn with rfl | rfl | rfl | rfl | rfl | rfl <;> exact ⟨_, rfl, by decide, optR (ret h)⟩
 rw [if_neg h1, if_neg h2] at h
 rcases hn with rfl | rfl | rfl | rfl | rfl | rfl <;> exact ⟨_, rfl, by decide, optR (ret h)⟩
end Go.Proofs
namespace Go.Proofs
open Go Go.V
theorem jh (n : Int) (st : Store) (R : AV → Store → Prop) (h : R (int (nrm n)) st) : ACalls Tryz.prog 159 [int n] st R := by
 refine ACalls.of_body (c := cfg 5) zc Tryz.func159 (by rfl) (by rfl) (by rfl) (by rfl) ?_
 rw [← yh9] at h
 exact ret h
theorem ybb (n : Int) (hn : yv n) (st : Store) (R : AV → Store → Prop) (h : R (int (-nrm n)) st) : ACalls Tryz.prog 212 [int n] st R := by
 refine ACalls.of_body (c := cfg 6) zc Tryz.func212 (by rfl) (by rfl) (by rfl) (by rfl) ?_
 refine jh n _ _ ?_
 have := zaw hn
 refine ⟨⟨by omega, by omega⟩, ?_⟩
 rw [show -nrm n = 0 - nrm n by omega] at h
 exact ret h
theorem j1 (a b : Int) (ha : yv a) (hb : yv b) (st : Store) (R : AV → Store → Prop) (h : R (int (fadd a b)) st) : ACalls Tryz.prog 160 [int a, int b] st R := by
 refine ACalls.of_body (c := cfg 30) zc Tryz.func160 (by rfl) (by rfl) (by rfl) (by rfl) ?_
 refine jh a _ _ ?_
 refine jh b _ _ ?_
 have h1 := zaw ha
 have h2 := zaw hb
 unfold fadd at h
 generalize nrm a = x at *
 generalize nrm b = y at *
 have k1 : x + y > 9223372036854775807 → R (int 9223372036854775807) st := fun hh => by rw [show wj (x + y) = 9223372036854775807 by unfold wj; simp [hh]] at h; exact h
 have k2 : x + y < -9223372036854775807 → R (int (-9223372036854775807)) st := fun hh => by rw [show wj (x + y) = -9223372036854775807 by unfold wj; rw [if_neg (by omega), if_pos hh]] at h; exact h
 have k3 : ¬ x + y > 9223372036854775807 → ¬ x + y < -9223372036854775807 → yv (x + y) ∧ R (int (x + y)) st := fun hh hh' => ⟨⟨by omega, by omega⟩, by rw [show wj (x + y) = x + y by unfold wj; rw [if_neg hh, if_neg hh']] at h; exact h⟩
 have fin : ¬ x + y > 9223372036854775807 → ¬ x + y < -9223372036854775807 → yv (x + y) ∧ ∃ r st', AV.le (int (x + y)) r ∧ st.Has st' ∧ R r st' := fun hh hh' => ⟨(k3 hh hh').1, ret (k3 hh hh').2⟩
 have e : Int.negSucc 9223372036854775806 = -9223372036854775807 := rfl
 refine bcd (fun c1 => ?_) (fun c1 => ?_)
 ·refine ⟨⟨by omega, by omega⟩, ?_⟩
  refine bcd (fun c2 => ?_) (fun c2 => ?_)
  ·exact ret (k1 (by omega))
  ·refine bcd (fun c3 => ?_) (fun c3 => ?_)
   ·omega
   ·exact fin (by omega) (by omega)
 ·refine bcd (fun c3 => ?_) (fun c3 => ?_)
  ·refine ⟨⟨by omega, by omega⟩, ?_⟩
   refine bcd (fun c4 => ?_) (fun c4 => ?_)
   ·exact ret (k2 (by omega))
   ·exact fin (by omega) (by omega)
  ·exact fin (by omega) (by omega)
theorem jq (a b : Int) (ha : yv a) (hb : yv b) (st : Store) (R : AV → Store → Prop) (h : R (int (fsub a b)) st) : ACalls Tryz.prog 183 [int a, int b] st R := by
 refine ACalls.of_body (c := cfg 9) zc Tryz.func183 (by rfl) (by rfl) (by rfl) (by rfl) ?_
 refine ybb b hb _ _ ?_
 have h2 := zaw hb
 exact j1 a (-nrm b) ha ⟨by omega, by omega⟩ _ _ (ret h)
theorem zg9 (n : Int) (hn : yv n) (st : Store) (R : AV → Store → Prop) (h : R (.tup [u64 (asz n), bool (decide (nrm n < 0))]) st) : ACalls Tryz.prog 214 [int n] st R := by
 refine ACalls.of_body (c := cfg 13) zc Tryz.func214 (by rfl) (by rfl) (by rfl) (by rfl) ?_
 refine jh n _ _ ?_
 have h1 := zaw hn
 unfold asz at h
 generalize nrm n = x at *
 refine bcd (fun c1 => ?_) (fun c1 => ?_)
 ·refine ⟨⟨by omega, by omega⟩, ?_⟩
  rw [if_pos c1, show decide (x < 0) = true by simp [c1]] at h
  rw [← xz (v := -x) (by omega) (by omega), show -x = 0 - x by omega] at h
  exact ret h
 ·rw [if_neg c1, show decide (x < 0) = false by simp [c1]] at h
  rw [← xz (v := x) (by omega) (by omega)] at h
  exact ret h
set_option maxHeartbeats 1000000 in
theorem zbq (x y : Int) (hx : 0 ≤ x) (hx2 : x < 18446744073709551616) (hy : 0 ≤ y) (hy2 : y < 18446744073709551616) (st : Store) (R : AV → Store → Prop) (h : R (.tup (k9 (x * y))) st) :
  ACalls Tryz.prog 215 [u64 x, u64 y] st R := by
 refine ACalls.of_body (c := cfg 51) zc Tryz.func215 (by rfl) (by rfl) (by rfl) (by rfl) ?_
 refine ⟨by decide, ?_⟩
 refine ⟨by decide, ?_⟩
 refine ⟨by decide, ?_⟩
 refine ⟨by decide, ?_⟩
 refine ⟨by decide, ?_⟩
 refine ret ((congrArg (fun l => R (.tup l) st) ?_).mpr h)
 obtain ⟨p00, p10, p01, p11, e1, e2, e3, e4, e5, b⟩ := zjx x y hx hx2 hy hy2
 simp only [yi0, yhi hx, yhi hy, zhc, ← e1, ← e2, ← e3, ← e4]
 rw [yhi (Int.emod_nonneg _ (by decide))]
 unfold k9 u64
 refine congr (congrArg _ ?_) rfl
 refine congrArg (fun n => AV.s (.int .u64 n)) ?_
 omega
theorem jx (x : Int) (hx : 0 ≤ x) (hx2 : x < 18446744073709551616) (st : Store) (R : AV → Store → Prop) (h : R (.agg (k9 (x * x))) st) : ACalls Tryz.prog 211 [u64 x] st R := by
 refine ACalls.of_body (c := cfg 14) zc Tryz.func211 (by rfl) (by rfl) (by rfl) (by rfl) ?_
 exact zbq x x hx hx2 hx hx2 _ _ (ret h)
theorem zfv (a b : Int) (ha : 0 ≤ a) (hb : 0 ≤ b) (st : Store) (R : AV → Store → Prop) (h : R (bool (decide (a < b))) st) : ACalls Tryz.prog 210 [.agg (k9 a), .agg (k9 b)] st R := by
 refine ACalls.of_body (c := cfg 24) zc Tryz.func210 (by rfl) (by rfl) (by rfl) (by rfl) ?_
 refine bcd (fun c1 => ?_) (fun c1 => ?_)
 ·exact ret (isT h (by simp; omega))
 ·refine bceq (fun c2 => ?_) (fun c2 => ?_)
  ·refine ret ?_
   have : decide (a < b) = decide (a % 18446744073709551616 < b % 18446744073709551616) := by
    rw [Bool.eq_iff_iff]; simp; omega
   rw [this] at h; exact h
  ·exact ret (isF h (by simp; omega))
end Go.Proofs
namespace Go.Proofs
open Go Go.V
theorem zfy (x y c : Int) (hx : 0 ≤ x) (hy : 0 ≤ y) (hc : 0 ≤ c) (hc1 : c ≤ 1) (st : Store) (R : AV → Store → Prop) (h : R (.tup [u64 ((x + y + c) % 18446744073709551616), u64 ((x + y + c) / 18446744073709551616)]) st) :
  ACalls Tryz.prog 242 [u64 x, u64 y, u64 c] st R := by
 obtain ⟨a, rfl⟩ := Int.eq_ofNat_of_zero_le hx
 obtain ⟨b, rfl⟩ := Int.eq_ofNat_of_zero_le hy
 obtain ⟨d, rfl⟩ := Int.eq_ofNat_of_zero_le hc
 exact zsh Tryz.laysNm725 a b d (by omega) h
theorem zmn (a b : Int) (ha : 0 ≤ a) (hb : 0 ≤ b) (hab : a + b < 340282366920938463463374607431768211456) (st : Store) (R : AV → Store → Prop) (h : R (.agg (k9 (a + b))) st) : ACalls Tryz.prog 228 [.agg (k9 a), .agg (k9 b)] st R := by
 refine ACalls.of_body (c := cfg 29) zc Tryz.func228 (by rfl) (by rfl) (by rfl) (by rfl) ?_
 refine zfy (a % 18446744073709551616) (b % 18446744073709551616) 0 (by omega) (by omega) (by omega) (by omega) _ _ ?_
 refine zfy (a / 18446744073709551616) (b / 18446744073709551616) ((a % 18446744073709551616 + b % 18446744073709551616 + 0) / 18446744073709551616) (by omega) (by omega) (by omega) (by omega) _ _ ?_
 refine ret ((congrArg (fun l => R (.agg l) st) ?_).mpr h)
 refine ycy ?_ ?_
 ·omega
 ·omega
theorem yfn {v : Vc} (h : v.ok) : 0 ≤ asz v.1 * asz v.1 ∧ 0 ≤ asz v.2 * asz v.2 ∧ asz v.1 * asz v.1 ≤ 85070591730234615847396907784232501249 ∧ asz v.2 * asz v.2 ≤ 85070591730234615847396907784232501249 := by
 obtain ⟨h1, h2⟩ := h
 have a1 := zom h1
 have a2 := zom h2
 have b : ∀ x : Int, 0 ≤ x → x ≤ 9223372036854775807 → 0 ≤ x * x ∧ x * x ≤ 85070591730234615847396907784232501249 := by
  intro x h3 h4
  refine ⟨Int.mul_nonneg h3 h3, ?_⟩
  have h5 : x * x ≤ 9223372036854775807 * 9223372036854775807 := Int.mul_le_mul h4 h4 h3 (by decide)
  exact h5
 have b1 := b _ a1.1 a1.2
 have b2 := b _ a2.1 a2.2
 exact ⟨b1.1, b2.1, b1.2, b2.2⟩
theorem zda (v : Vc) (hv : v.ok) (st : Store) (R : AV → Store → Prop) (h : R (.agg (k9 (sqr v))) st) : ACalls Tryz.prog 209 [.agg (vecC v)] st R := by
 refine ACalls.of_body (c := cfg 24) zc Tryz.func209 (by rfl) (by rfl) (by rfl) (by rfl) ?_
 have a1 := zom hv.1
 have a2 := zom hv.2
 have b := yfn hv
 refine zg9 v.1 hv.1 _ _ ?_
 refine zg9 v.2 hv.2 _ _ ?_
 refine jx (asz v.1) (by omega) (by omega) _ _ ?_
 refine jx (asz v.2) (by omega) (by omega) _ _ ?_
 exact zmn _ _ (by omega) (by omega) (by omega) _ _ (ret h)
theorem zc3 (a b : Vc) (ha : a.ok) (hb : b.ok) (st : Store) (R : AV → Store → Prop) (h : R (.agg (vecC (vsub a b))) st) : ACalls Tryz.prog 182 [.agg (vecC a), .agg (vecC b)] st R := by
 refine ACalls.of_body (c := cfg 16) zc Tryz.func182 (by rfl) (by rfl) (by rfl) (by rfl) ?_
 refine ADraw.of_sched zc (by rfl) (by rfl) yac (by rfl) ?_
 refine ⟨jq a.1 b.1 ha.1 hb.1 _ _ ⟨(by repeat (first | exact trivial | refine ⟨rfl, ?_⟩ | refine ⟨optR (optR (optR (za _ (zb _ _ _) rfl))), ?_⟩)), ?_⟩, trivial⟩
 refine ⟨jq a.2 b.2 ha.2 hb.2 _ _ ⟨(by repeat (first | exact trivial | refine ⟨rfl, ?_⟩ | refine ⟨optR (optR (optR (za _ (zb _ _ _) rfl))), ?_⟩)), ?_⟩, trivial⟩
 refine ⟨⟨(by repeat (first | exact trivial | refine ⟨rfl, ?_⟩ | refine ⟨optR (optR (optR (za _ (zb _ _ _) rfl))), ?_⟩)), ?_⟩, trivial⟩
 exact ret h
theorem zjr (a b : Vc) : (vsub a b).ok := ⟨vp _ _, vp _ _⟩
theorem vx (a b : Vc) (r : Int) (ha : a.ok) (hb : b.ok) (hr : r ≤ 9223372036854775807) (st : Store) (R : AV → Store → Prop) (h : R (bool (near a b r)) st) : ACalls Tryz.prog 181 [.agg (vecC a), .agg (vecC b), int r] st R := by
 refine ACalls.of_body (c := cfg 17) zc Tryz.func181 (by rfl) (by rfl) (by rfl) (by rfl) ?_
 unfold near at h
 refine bcd (fun c1 => ?_) (fun c1 => ?_)
 ·exact ret (isF h (by simp; omega))
 ·have hb2 := yfn (zjr a b)
  refine zc3 a b ha hb _ _ ?_
  refine zda _ (zjr a b) _ _ ?_
  refine ((congrArg (fun n => ACalls Tryz.prog 211 [.s (.int .u64 n)] st _) (xz (v := r) (by omega) (by omega))).mpr ?_)
  refine jx r (by omega) (by omega) _ _ ?_
  refine zfv _ _ ?_ (Int.mul_nonneg (by omega) (by omega)) _ _ (ret ?_)
  ·unfold sqr; omega
  ·have : decide (0 < r ∧ sqr (vsub a b) < r * r) = decide (sqr (vsub a b) < r * r) := by
    rw [Bool.eq_iff_iff]; simp; omega
   rw [this] at h; exact h
end Go.Proofs
namespace Go.Proofs
open Go Go.V
theorem zq3 (g : Gnd) (hg : gndP g) (t : Nat) (ht : (t : Int) < g.W * g.H) (p : Vc) (hp : ks p.1 p.2) (r : Int) (hr : 0 < r ∧ r ≤ 262144) (st : Store) (R : AV → Store → Prop) (h : R (bool (decide (hitP g t p r))) st) :
  ACalls Tryz.prog 189 [.agg (gndC g), int t, .agg (vecC p), int r] st R := by
 have hb := zb2 hg ht
 have hn := ybc hg ht hp hr.1
 have hx := txty hg ht
 have hq := trem (t := t) hg.1.1
 have hq2 := tquo (t := t) hg.1.1
 have hg1 := hg.1
 have hg2 := hg.2.1
 have hp' := hp
 unfold ks at hp'
 refine ACalls.of_body (c := cfg 41) zc Tryz.func189 (by rfl) (by rfl) (by rfl) (by rfl) ?_
 refine ADraw.of_sched zc (by rfl) (by rfl) yaa (by rfl) ?_
 refine ⟨by omega, ?_⟩
 have q1 : yv ((t : Int).tmod g.W * 65536) := by rw [hq]; unfold yv; omega
 have q2 : yv ((t : Int).tdiv g.W) := by rw [hq2]; unfold yv; omega
 have q3 : yv ((t : Int).tdiv g.W * 65536) := by rw [hq2]; unfold yv; omega
 refine ⟨q1, ?_⟩
 refine ⟨by omega, ?_⟩
 refine ⟨q2, ?_⟩
 refine ⟨q3, ?_⟩
 refine ⟨⟨(by repeat (first | exact trivial | refine ⟨rfl, ?_⟩ | refine ⟨optR (optR (optR (za _ (zb _ _ _) rfl))), ?_⟩)), ?_⟩, trivial⟩
 refine ⟨⟨trivial, ?_⟩, trivial⟩
 have e1 : (t : Int).tmod g.W * 65536 = tx g t := by rw [hq]; rfl
 have e2 : (t : Int).tdiv g.W * 65536 = ty g t := by rw [hq2]; rfl
 rw [e1, e2]
 refine in64 (by omega) ?_
 refine in64 (by omega) ?_
 have c1 := zc0 (x := p.1) hx.1
 have c2 := zc0 (x := p.2) hx.2
 refine vx p (wo p.1 (tx g t), wo p.2 (ty g t)) r ⟨⟨by omega, by omega⟩, ⟨by omega, by omega⟩⟩ ⟨⟨by dsimp only; omega, by dsimp only; omega⟩, ⟨by dsimp only; omega, by dsimp only; omega⟩⟩ (by omega) _ _ (ret ?_)
 rw [hn]
 exact h
set_option maxRecDepth 20000 in
theorem zoa (p : Vc) (r : Int) (st : Store) (R : AV → Store → Prop) (h : ∀ z : Bool, (z = true ↔ (0 ≤ r ∧ r ≤ 262144) ∧ ks p.1 p.2) → R (bool z) st) : ACalls Tryz.prog 188 [.agg (vecC p), int r] st R := by
 refine ACalls.of_body (c := cfg 15) zc Tryz.func188 (by rfl) (by rfl) (by rfl) (by rfl) ?_
 repeat' (first | refine bcd (fun _ => ?_) (fun _ => ?_) | refine ze (fun _ => ?_) (fun _ => ?_) | refine in64 (by omega) ?_ | (refine znd p _ _ ?_; rintro (_ | _) hz)| fail)
 all_goals
  refine ret (h _ ?_)
  simp only [decide_eq_true_eq, decide_eq_false_iff_not, Bool.false_eq_true, false_iff, true_iff, beq_iff_eq, bne_iff_ne, beq_eq_false_iff_ne, ne_eq, reduceCtorEq, ks] at *
  omega
theorem ze8 (r : Int) (hr : 0 < r ∧ r ≤ 262144) (st : Store) (R : AV → Store → Prop) (h : R (int r) st) : ACalls Tryz.prog 191 [int r] st R := by
 refine ACalls.of_body (c := cfg 6) zc Tryz.func191 (by rfl) (by rfl) (by rfl) (by rfl) ?_
 have e : min2 (max2 r 0) 262144 = r := by rw [min2_eq, zgh]; omega
 rw [← e] at h
 exact ret h
theorem zfx (p : Vc) (r : Int) (q : Vc) (s : Int) (hp : p.ok) (hq : q.ok) (hr : 0 < r ∧ r ≤ 262144) (hs : 0 < s ∧ s ≤ 262144) (st : Store) (R : AV → Store → Prop) (h : R (bool (zbf p r q s)) st) :
  ACalls Tryz.prog 163 [.agg (vecC p), int r, .agg (vecC q), int s] st R := by
 refine ACalls.of_body (c := cfg 18) zc Tryz.func163 (by rfl) (by rfl) (by rfl) (by rfl) ?_
 refine ADraw.of_sched zc (by rfl) (by rfl) yai (by rfl) ?_
 refine ⟨ze8 r hr _ _ ⟨(by repeat (first | exact trivial | refine ⟨rfl, ?_⟩ | refine ⟨optR (optR (optR (za _ (zb _ _ _) rfl))), ?_⟩)), ?_⟩, trivial⟩
 refine ⟨ze8 s hs _ _ ⟨(by repeat (first | exact trivial | refine ⟨rfl, ?_⟩ | refine ⟨optR (optR (optR (za _ (zb _ _ _) rfl))), ?_⟩)), ?_⟩, trivial⟩
 refine in64 (by omega) ?_
 refine ⟨vx p q (r + s) hp hq (by omega) _ _ ⟨trivial, ?_⟩, trivial⟩
 exact ⟨⟨trivial, ret h⟩, trivial⟩
end Go.Proofs
namespace Go.Proofs
open Go Go.V
theorem zgg (l : List UInt8) (hl : l.length ≤ 1000000000000) (hne : 0 < l.length) (st : Store) (R : AV → Store → Prop) (h : ∀ m : UInt8, m ∈ l → (∀ t ∈ l, t.toNat ≤ m.toNat) → R (u8 m) st) : ACalls Tryz.prog 194 [byts l] st R := by
 refine ACalls.of_body (c := cfg 25) zc Tryz.func194 (by rfl) (by rfl) (by rfl) (by rfl) ?_
 refine ze (fun h1 => ?_) (fun h1 => ?_)
 ·rw [zi] at h1
  simp at h1
  omega
 refine ⟨0, rfl, za _ (zk hne) ?_⟩
 refine AWp.loop (σ := Nat × UInt8) ⟨fun s => [(0, .av (byts l)), (3, .av (u8 s.2)), (4, .av (int (s.1 : Nat)))], fun _ => [],
  fun s st' => (1 ≤ s.1 ∧ s.1 ≤ l.length) ∧ st' = st ∧ s.2 ∈ l ∧ ∀ t ∈ l.take s.1, t.toNat ≤ s.2.toNat, fun s => l.length - s.1⟩ zc ?_ ?_
 ·refine ⟨(1, l[0]), trivial, ⟨⟨Nat.le_refl _, hne⟩, rfl, List.getElem_mem hne, fun t ht => ?_⟩, ⟨lr_ _, lr_ _, lr_ _, trivial⟩, trivial⟩
  have : l.take 1 = [l[0]] := by
   cases l with
   | nil => simp at hne
   | cons a l => rfl
  rw [this] at ht
  simp at ht
  rw [ht]
  exact Nat.le_refl _
 ·rintro ⟨i, m⟩ st' ⟨⟨hi1, hi⟩, rfl, hm, hall⟩
  simp only at hi1 hi hm hall
  refine ze (fun h1 => ?_) (fun h1 => ?_)
  ·have hlt : i < l.length := zfg h1
   refine ⟨i, rfl, za _ (zk hlt) ?_⟩
   refine ⟨⟨by omega, by omega⟩, ?_⟩
   have hmax : max2 (m.toNat : Int) (l[i].toNat : Int) = ((if l[i].toNat > m.toNat then l[i] else m : UInt8).toNat : Int) := by
    unfold max2
    by_cases hg : l[i].toNat > m.toNat
    ·rw [if_pos hg, decide_eq_true (by omega)]; rfl
    ·rw [if_neg hg, decide_eq_false (by omega)]; rfl
   refine ⟨(i + 1, if l[i].toNat > m.toNat then l[i] else m), ?_, ⟨⟨by omega, hlt⟩, rfl, ?_, fun t ht => ?_⟩, ⟨lr_ _, ?_, lr_ _, trivial⟩, trivial⟩
   ·show l.length - (i + 1) < l.length - i
    omega
   ·show (if l[i].toNat > m.toNat then l[i] else m) ∈ l
    split
    ·exact List.getElem_mem hlt
    ·exact hm
   ·show t.toNat ≤ (if l[i].toNat > m.toNat then l[i] else m : UInt8).toNat
    rw [List.take_succ_eq_append_getElem hlt] at ht
    rcases List.mem_append.1 ht with ht | ht
    ·have := hall t ht
     split <;> omega
    ·simp at ht
     subst ht
     split <;> omega
   ·show LV.le (.av (.s (.int .u8 (max2 (m.toNat : Int) (l[i].toNat : Int))))) _
    rw [hmax]
    exact lr_ _
  ·have hge : i = l.length := zit h1 hi
   subst hge
   rw [List.take_length] at hall
   exact ⟨_, st', ar_ _, Store.Has.refl st', h m hm hall⟩
theorem zep (g : Gnd) (hg : g.fits) (st : Store) (R : AV → Store → Prop) (h : ∀ b : Bool, (b = true ↔ gndP g) → R (bool b) st) : ACalls Tryz.prog 165 [.agg (gndC g)] st R := by
 refine ACalls.of_body (c := cfg 28) zc Tryz.func165 (by rfl) (by rfl) (by rfl) (by rfl) ?_
 refine zhx g.W _ _ (fun b hb => ?_)
 cases b with
 | false =>
  refine ⟨_, st, ar_ _, Store.Has.refl st, h _ ?_⟩
  simp only [Bool.false_eq_true, false_iff] at hb ⊢
  exact fun hp => hb hp.1
 | true =>
  refine zhx g.H _ _ (fun b2 hb2 => ?_)
  cases b2 with
  | false =>
   refine ⟨_, st, ar_ _, Store.Has.refl st, h _ ?_⟩
   simp only [Bool.false_eq_true, false_iff] at hb2 ⊢
   exact fun hp => hb2 hp.2.1
  | true =>
   have hm := zzq (hb.1 rfl) (hb2.1 rfl)
   refine ⟨⟨by omega, by omega⟩, ?_⟩
   refine ze (fun h1 => ⟨_, st, ar_ _, Store.Has.refl st, h _ ?_⟩) (fun h1 => ?_)
   ·rw [zi] at h1
    simp only [Bool.false_eq_true, false_iff]
    intro hp
    have := hp.2.2.1
    simp [this] at h1
   ·rw [zi] at h1
    have h1 : (g.T.length : Int) = g.W * g.H := by simpa using h1
    refine zgg g.T hg (by omega) _ _ (fun m hm1 hm2 => ?_)
    refine ⟨_, st, ar_ _, Store.Has.refl st, h _ ?_⟩
    rw [decide_eq_true_iff]
    constructor
    ·intro h2
     refine ⟨hb.1 rfl, hb2.1 rfl, h1, fun t ht => ?_⟩
     have := hm2 t ht
     omega
    ·intro hp
     have := hp.2.2.2 m hm1
     omega
end Go.Proofs
