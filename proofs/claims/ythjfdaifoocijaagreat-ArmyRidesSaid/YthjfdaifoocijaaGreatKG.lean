/- Ground of laws of thronglaw21: contracts and plain lemmas; no condition beyond the row's own. -/
import Derived.Test.YthjfdaifoocijaaGreatKF
import Derived.Test.YthjfdaifoocijaaGreatKE
set_option linter.unusedSimpArgs false
set_option linter.unusedVariables false
namespace Go.Proofs
open Go Go.V
def px : V.Sched := (sv [0, 1] (.e 2 [0] (sv [3, 4, 5] (.e 6 [0, 1, 3, 4, 5] (.e 7 [] .done .stop) .stop)) (.e 6 [0, 1] (.e 2 [0] (sv [3, 4, 5] (.e 7 [] .done .stop)) .stop) .stop)))
def py : V.Sched := (sv [0, 1, 2] (.e 3 [1] (sv [4, 5] (.e 6 [] .done .stop)) .stop))
def pp : V.Sched := (sv [0, 1, 2, 3, 4, 5, 6, 7, 8, 9, 10, 11, 12] (.e 13 [] .done .stop))
def Io : V.Sched := (sv [0, 1, 2, 3, 4, 5, 6, 7, 8, 9, 10, 11, 12, 13, 14, 15, 16, 17, 18, 19, 20, 21, 22, 23, 24] (.e 25 [] (sv [26, 27, 28, 29, 30, 31, 32, 35, 36, 37, 38, 39, 40] (.e 33 [36, 40] (sv [34] (.e 41 [34] (sv [42, 43, 44, 45, 46, 47, 48, 49, 50, 51, 52, 53, 54, 55, 56, 57, 58, 59, 60] .done) .stop)) .stop)) .stop))
def pw : V.Sched := (sv [0, 1] (.e 2 [] (sv [3, 4, 5, 6, 7] (.e 8 [] (sv [9, 10, 11, 12, 13, 14, 15, 16, 17, 18, 19, 20, 21, 22, 23, 24, 25] .done) .stop)) .stop))
def pr : V.Sched := (sv [0, 1, 2, 3, 4, 5, 6, 7, 8, 9, 10, 11, 12, 13, 14, 15, 16, 17, 18, 19] .done)
def pu : V.Sched := (sv [0, 1, 2, 3, 4, 5, 6, 7, 8, 9, 10, 11, 12, 13, 14, 15, 16, 17, 18, 19, 20, 21, 22, 23, 24, 25, 26, 27, 28, 29, 30, 31, 32, 33, 34, 35, 36, 37, 38, 39, 40, 41, 42, 43, 44, 45, 46, 47, 48, 49, 50] (.e 51 [] (sv [52, 53, 54, 55, 56, 57, 58, 59, 60, 61, 62, 63] (.e 64 [] (sv [65, 66, 67, 68, 69, 70, 71, 72, 73, 74, 75, 76, 77, 78, 79, 80, 81, 82, 83, 84, 85, 86, 87] .done) .stop)) .stop))
def pt : V.Sched := (sv [0, 1, 2, 3, 4, 5, 6, 7, 8] .done)
def pq : V.Sched := (sv [0, 1, 2, 3, 4, 5, 6, 7, 8, 9, 10, 11, 12, 13, 14, 15, 16] (.e 17 [10, 12, 14] (sv [18] (.e 19 [] (sv [20, 21] .done) .stop)) .stop))
def po : V.Sched := (sv [0] (.e 1 [0] (sv [2] (.e 3 [] (.e 4 [] .done .stop) .stop)) .stop))
def pn : V.Sched := (sv [0, 1, 2, 3, 4, 5, 6, 7] (.e 8 [] .done .stop))
def pm : V.Sched := (sv [0, 1, 2, 3, 4, 5, 6, 7, 9, 10, 11] (.e 8 [4, 9, 11] (.e 12 [] (sv [13] .done) .stop) .stop))
def pk : V.Sched := (sv [0, 1, 2, 3, 4, 5, 6, 7, 8, 9, 10, 11] (.e 12 [5, 7, 9] (sv [13] (.e 14 [] (sv [15, 16] .done) .stop)) .stop))
def pj : V.Sched := (sv [0, 1, 2, 3, 4, 5, 6, 7, 8, 9, 10, 11, 12, 13, 15, 16] (.e 14 [16] (.e 17 [13] (sv [18, 19, 20] .done) .stop) (.e 17 [13] (sv [18] (.e 14 [16] (sv [19, 20] .done) .stop)) .stop)))
def ph : V.Sched := (sv [0, 1, 2, 3] (.e 4 [] (sv [5, 6, 7, 8, 9, 10, 11] (.e 12 [] (sv [13, 14, 15, 16, 17, 18, 19, 20] (.e 21 [] (sv [22, 23] .done) .stop)) .stop)) .stop))
def pi : V.Sched := (sv [0, 1, 2, 3, 4, 5, 6, 7] (.e 8 [] .done .stop))
def rq : V.Sched := (sv [0, 1, 2, 3, 4, 6] (.e 5 [] (.e 7 [] (sv [8, 9, 10] (.e 11 [] (.e 12 [] .done .stop) .stop)) .stop) .stop))
def rp : V.Sched := (sv [0, 1, 2, 3, 4, 5, 6, 7, 8, 9, 11, 12] (.e 10 [3, 4] (.e 13 [3, 4, 8, 9] (.e 14 [3, 4] (.e 15 [] .done .stop) .stop) .stop) (.e 13 [3, 4, 8, 9] (.e 10 [3, 4] (.e 14 [3, 4] (.e 15 [] .done .stop) .stop) .stop) .stop)))
def Ip : V.Sched := (sv [0, 1, 2, 3, 4, 5] (.e 6 [] .done .stop))
def ro : V.Sched := (sv [0, 1, 2, 3, 4, 5] (.e 6 [4] (.e 7 [] .done .stop) .stop))
def F3 : V.Sched := (sv [0, 1, 2, 3, 4, 5, 6, 7, 8, 9, 10, 11, 12, 14, 15] (.e 13 [] (sv [16] (.e 17 [] .done .stop)) .stop))
def rn : V.Sched := (sv [0, 1, 2, 3, 4, 5, 6, 9] (.e 7 [] (sv [8] .done) .stop))
def rm : V.Sched := (sv [0, 1, 2, 4] (.e 3 [0, 1] (.e 5 [0, 1] (sv [6] (.e 7 [] (sv [8] (.e 9 [] .done .stop)) .stop)) .stop) .stop))
def rl : V.Sched := (sv [0, 1, 2, 3, 4, 5, 6, 7, 8, 9, 10, 11] .done)
def rk : V.Sched := (sv [0, 1, 2, 3, 4, 5, 6, 7, 8, 9] (.e 10 [7] (.e 11 [] .done .stop) .stop))
def rj : V.Sched := (sv [0, 1, 2, 3, 4, 6, 7, 8, 9, 10] (.e 5 [7] (.e 11 [] (.e 12 [] (.e 13 [] .done .stop) .stop) .stop) .stop))
def rh : V.Sched := (sv [0, 1, 2, 3, 4] (.e 5 [] (.e 6 [] .done .stop) .stop))
def rg : V.Sched := (sv [0, 1, 2, 3, 4] (.e 5 [] .done .stop))
def ri : V.Sched := (sv [0, 1, 2, 3, 4, 5] (.e 6 [] .done .stop))
def rf : V.Sched := (sv [0, 1, 2, 3, 4, 5, 6, 7] (.e 8 [6] (.e 9 [] .done .stop) .stop))
def rd : V.Sched := (sv [0, 1, 2, 3, 4, 5, 6, 7, 8, 9, 10, 11] .done)
def rc : V.Sched := (sv [0, 1, 3, 4] (.e 2 [4] (.e 5 [] (sv [6] (.e 7 [] .done .stop)) .stop) .stop))
def rb : V.Sched := (sv [0, 1, 2, 3, 4, 5, 6, 7, 8, 9] (.e 10 [7] (.e 11 [] .done .stop) .stop))
def ra : V.Sched := (sv [0, 1, 2, 4, 5, 6] (.e 3 [5, 6] (.e 7 [] (sv [8] (.e 9 [] (.e 10 [0, 1, 2, 4, 5, 6, 8] (.e 11 [] .done .stop) .stop) (.e 10 [0, 1, 2, 4, 5, 6, 8] (.e 9 [] (.e 11 [] .done .stop) .stop) .stop))) (.e 10 [0, 1, 2, 4, 5, 6] (.e 7 [] (sv [8] (.e 9 [] (.e 11 [] .done .stop) .stop)) .stop) .stop)) (.e 10 [0, 1, 2, 4, 5, 6] (.e 3 [5, 6] (.e 7 [] (sv [8] (.e 9 [] (.e 11 [] .done .stop) .stop)) .stop) .stop) .stop)))
def p9 : V.Sched := (sv [0, 1, 2, 4, 5, 6] (.e 3 [5, 6] (.e 7 [] (sv [8] (.e 9 [] (.e 10 [0, 1, 2, 4, 5, 6, 8] (.e 11 [] .done .stop) .stop) (.e 10 [0, 1, 2, 4, 5, 6, 8] (.e 9 [] (.e 11 [] .done .stop) .stop) .stop))) (.e 10 [0, 1, 2, 4, 5, 6] (.e 7 [] (sv [8] (.e 9 [] (.e 11 [] .done .stop) .stop)) .stop) .stop)) (.e 10 [0, 1, 2, 4, 5, 6] (.e 3 [5, 6] (.e 7 [] (sv [8] (.e 9 [] (.e 11 [] .done .stop) .stop)) .stop) .stop) .stop)))
def p8 : V.Sched := (sv [0, 1, 2, 3, 4, 5, 6, 7, 8, 9, 10, 11, 12] .done)
def p7 : V.Sched := (sv [0, 1, 2, 3, 4, 5, 6, 7, 8, 9, 10, 11, 12] .done)
def p6 : V.Sched := (sv [0, 1, 4, 5] (.e 2 [5] (.e 3 [5] (.e 6 [] (.e 7 [] (.e 8 [] (.e 9 [] .done .stop) .stop) .stop) .stop) .stop) .stop))
def p5 : V.Sched := (sv [0, 1, 2, 3, 5, 6, 7, 8] (.e 4 [6, 8] (.e 9 [] (sv [10] (.e 11 [] .done .stop)) .stop) .stop))
def p4 : V.Sched := (sv [0, 1, 2, 3, 4, 5, 7] (.e 6 [0, 7] (.e 8 [] .done .stop) .stop))
def pz : V.Sched := (sv [0, 1, 2, 3, 5, 6, 7, 8] (.e 4 [6, 8] (.e 9 [] (sv [10] (.e 11 [] .done .stop)) .stop) .stop))
end Go.Proofs
namespace Go.Proofs
open Go Go.V
set_option maxRecDepth 4000
theorem zb : zu Tryz.prog infoTree.get := Tr.ok _ zaw
def cfg (n : Nat) (G : List Nat := []) (W : List Nat := []) : Cfg := { n := n, I := infoTree.get, G := G, W := W }
set_option maxRecDepth 20000 in
theorem zal (n : Int) (st : Store) (R : AV -> Store -> Prop) (h : ∀ z : Bool, (z = true ↔ qy n) -> R (bool z) st) : ACalls Tryz.prog 130 [int n] st R := by
 refine ACalls.of_body (c := cfg 9) zb Tryz.func130 (by rfl) (by rfl) (by rfl) (by rfl) ?_
 repeat' (first | refine bcd (fun _ => ?_) (fun _ => ?_) | refine zh (fun _ => ?_) (fun _ => ?_) | refine zd (by omega) ?_ | fail)
 all_goals
  refine ret (h _ ?_)
  unfold qy
  simp only [decide_eq_true_eq, decide_eq_false_iff_not, Bool.false_eq_true, false_iff, true_iff, beq_iff_eq, bne_iff_ne, beq_eq_false_iff_ne, ne_eq, reduceCtorEq] at *
  omega
set_option maxRecDepth 20000 in
theorem Ij (n : Int) (st : Store) (R : AV -> Store -> Prop) (h : ∀ z : Bool, (z = true ↔ 1 <= n /\ n <= 128) -> R (bool z) st) : ACalls Tryz.prog 155 [int n] st R := by
 refine ACalls.of_body (c := cfg 9) zb Tryz.func155 (by rfl) (by rfl) (by rfl) (by rfl) ?_
 repeat' (first | refine bcd (fun _ => ?_) (fun _ => ?_) | refine zh (fun _ => ?_) (fun _ => ?_) | refine zd (by omega) ?_ | fail)
 all_goals
  refine ret (h _ ?_)
  simp only [decide_eq_true_eq, decide_eq_false_iff_not, Bool.false_eq_true, false_iff, true_iff, beq_iff_eq, bne_iff_ne, beq_eq_false_iff_ne, ne_eq, reduceCtorEq] at *
  omega
set_option maxRecDepth 20000 in
theorem uj (n hi : Int) (st : Store) (R : AV -> Store -> Prop) (h : ∀ z : Bool, (z = true ↔ 0 <= n /\ n <= hi) -> R (bool z) st) : ACalls Tryz.prog 87 [int n, int hi] st R := by
 refine ACalls.of_body (c := cfg 12) zb Tryz.func87 (by rfl) (by rfl) (by rfl) (by rfl) ?_
 repeat' (first | refine bcd (fun _ => ?_) (fun _ => ?_) | refine zh (fun _ => ?_) (fun _ => ?_) | refine zd (by omega) ?_ | fail)
 all_goals
  refine ret (h _ ?_)
  simp only [decide_eq_true_eq, decide_eq_false_iff_not, Bool.false_eq_true, false_iff, true_iff, beq_iff_eq, bne_iff_ne, beq_eq_false_iff_ne, ne_eq, reduceCtorEq] at *
  omega
set_option maxRecDepth 20000 in
theorem t7 (p : Vc) (st : Store) (R : AV -> Store -> Prop) (h : ∀ z : Bool, (z = true ↔ yo p.1 p.2) -> R (bool z) st) : ACalls Tryz.prog 235 [.agg (zn p)] st R := by
 refine ACalls.of_body (c := cfg 21) zb Tryz.func235 (by rfl) (by rfl) (by rfl) (by rfl) ?_
 repeat' (first | refine bcd (fun _ => ?_) (fun _ => ?_) | refine zh (fun _ => ?_) (fun _ => ?_) | refine zd (by omega) ?_ | fail)
 all_goals
  refine ret (h _ ?_)
  unfold yo
  simp only [decide_eq_true_eq, decide_eq_false_iff_not, Bool.false_eq_true, false_iff, true_iff, beq_iff_eq, bne_iff_ne, beq_eq_false_iff_ne, ne_eq, reduceCtorEq] at *
  omega
set_option maxRecDepth 20000 in
theorem zd4 (b : Bld) (st : Store) (R : AV -> Store -> Prop) (h : ∀ z : Bool, (z = true ↔ zy b) -> R (bool z) st) : ACalls Tryz.prog 204 [.agg (zo b)] st R := by
 refine ACalls.of_body (c := cfg 41) zb Tryz.func204 (by rfl) (by rfl) (by rfl) (by rfl) ?_
 repeat' (first | refine bcd (fun _ => ?_) (fun _ => ?_) | refine zh (fun _ => ?_) (fun _ => ?_) | refine zd (by omega) ?_ | fail)
 all_goals
  refine ret (h _ ?_)
  unfold zy
  simp only [decide_eq_true_eq, decide_eq_false_iff_not, Bool.false_eq_true, false_iff, true_iff, beq_iff_eq, bne_iff_ne, beq_eq_false_iff_ne, ne_eq, reduceCtorEq] at *
  omega
set_option maxRecDepth 20000 in
theorem pc (b : Bld) (st : Store) (R : AV -> Store -> Prop) (h : ∀ z : Bool, (z = true ↔ zy b) -> R (bool z) st) : ACalls Tryz.prog 141 [.agg (zo b)] st R := by
 refine ACalls.of_body (c := cfg 41) zb Tryz.func141 (by rfl) (by rfl) (by rfl) (by rfl) ?_
 repeat' (first | refine bcd (fun _ => ?_) (fun _ => ?_) | refine zh (fun _ => ?_) (fun _ => ?_) | refine zd (by omega) ?_ | fail)
 all_goals
  refine ret (h _ ?_)
  unfold zy
  simp only [decide_eq_true_eq, decide_eq_false_iff_not, Bool.false_eq_true, false_iff, true_iff, beq_iff_eq, bne_iff_ne, beq_eq_false_iff_ne, ne_eq, reduceCtorEq] at *
  omega
set_option maxRecDepth 20000 in
theorem zdw (g : Gnd) (b : Bld) (hg : zt g) (hb : zy b) (st : Store) (R : AV -> Store -> Prop) (h : ∀ z : Bool, (z = true ↔ onP g b) -> R (bool z) st) : ACalls Tryz.prog 205 [.agg (zz g), .agg (zo b)] st R := by
 obtain ⟨h1, h2, _, _⟩ := hg; obtain ⟨_, _, h3, h4⟩ := hb
 refine ACalls.of_body (c := cfg 33) zb Tryz.func205 (by rfl) (by rfl) (by rfl) (by rfl) ?_
 repeat' (first | refine bcd (fun _ => ?_) (fun _ => ?_) | refine zh (fun _ => ?_) (fun _ => ?_) | refine zd (by omega) ?_ | fail)
 all_goals
  refine ret (h _ ?_)
  unfold onP
  simp only [decide_eq_true_eq, decide_eq_false_iff_not, Bool.false_eq_true, false_iff, true_iff, beq_iff_eq, bne_iff_ne, beq_eq_false_iff_ne, ne_eq, reduceCtorEq] at *
  omega
set_option maxRecDepth 20000 in
theorem sh (g : Gnd) (b : Bld) (hg : zt g) (hb : zy b) (st : Store) (R : AV -> Store -> Prop) (h : ∀ z : Bool, (z = true ↔ onP g b) -> R (bool z) st) : ACalls Tryz.prog 142 [.agg (zz g), .agg (zo b)] st R := by
 obtain ⟨h1, h2, _, _⟩ := hg; obtain ⟨_, _, h3, h4⟩ := hb
 refine ACalls.of_body (c := cfg 47) zb Tryz.func142 (by rfl) (by rfl) (by rfl) (by rfl) ?_
 repeat' (first | refine bcd (fun _ => ?_) (fun _ => ?_) | refine zh (fun _ => ?_) (fun _ => ?_) | refine zd (by omega) ?_ | fail)
 all_goals
  refine ret (h _ ?_)
  unfold onP
  simp only [decide_eq_true_eq, decide_eq_false_iff_not, Bool.false_eq_true, false_iff, true_iff, beq_iff_eq, bne_iff_ne, beq_eq_false_iff_ne, ne_eq, reduceCtorEq] at *
  omega
set_option maxRecDepth 20000 in
theorem zan (g : Gnd) (t : Int) (hg : zt g) (st : Store) (R : AV -> Store -> Prop) (h : ∀ z : Bool, (z = true ↔ 0 <= t /\ t < g.W * g.H) -> R (bool z) st) : ACalls Tryz.prog 209 [.agg (zz g), int t] st R := by
 have hm := qt hg
 refine ACalls.of_body (c := cfg 16) zb Tryz.func209 (by rfl) (by rfl) (by rfl) (by rfl) ?_
 repeat' (first | refine bcd (fun _ => ?_) (fun _ => ?_) | refine zh (fun _ => ?_) (fun _ => ?_) | refine zd (by omega) ?_ | fail)
 all_goals
  refine ret (h _ ?_)
  simp only [decide_eq_true_eq, decide_eq_false_iff_not, Bool.false_eq_true, false_iff, true_iff, beq_iff_eq, bne_iff_ne, beq_eq_false_iff_ne, ne_eq, reduceCtorEq] at *
  omega
set_option maxRecDepth 20000 in
theorem H9 (g : Gnd) (t : Int) (hg : zt g) (st : Store) (R : AV -> Store -> Prop) (h : ∀ z : Bool, (z = true ↔ 0 <= t /\ t < g.W * g.H) -> R (bool z) st) : ACalls Tryz.prog 89 [.agg (zz g), int t] st R := by
 have hm := qt hg
 refine ACalls.of_body (c := cfg 16) zb Tryz.func89 (by rfl) (by rfl) (by rfl) (by rfl) ?_
 repeat' (first | refine bcd (fun _ => ?_) (fun _ => ?_) | refine zh (fun _ => ?_) (fun _ => ?_) | refine zd (by omega) ?_ | fail)
 all_goals
  refine ret (h _ ?_)
  simp only [decide_eq_true_eq, decide_eq_false_iff_not, Bool.false_eq_true, false_iff, true_iff, beq_iff_eq, bne_iff_ne, beq_eq_false_iff_ne, ne_eq, reduceCtorEq] at *
  omega
set_option maxRecDepth 20000 in
theorem Mc (g : Gnd) (t : Int) (hg : zt g) (st : Store) (R : AV -> Store -> Prop) (h : ∀ z : Bool, (z = true ↔ xp g t) -> R (bool z) st) : ACalls Tryz.prog 131 [.agg (zz g), int t] st R := by
 refine ACalls.of_body (c := cfg 12) zb Tryz.func131 (by rfl) (by rfl) (by rfl) (by rfl) ?_
 repeat' (first | refine bcd (fun _ => ?_) (fun _ => ?_) | refine zh (fun _ => ?_) (fun _ => ?_) | refine zd (by omega) ?_ | (refine zan _ _ hg _ _ ?_; rintro (_ | _) hz)| fail)
 all_goals
  refine ret (h _ ?_)
  unfold xp
  simp only [decide_eq_true_eq, decide_eq_false_iff_not, Bool.false_eq_true, false_iff, true_iff, beq_iff_eq, bne_iff_ne, beq_eq_false_iff_ne, ne_eq, reduceCtorEq] at *
  omega
set_option maxRecDepth 20000 in
theorem zep (w : Wld) (u : Unt) (hg : zt w.G) (st : Store) (R : AV -> Store -> Prop) (h : ∀ z : Bool, (z = true ↔ jl w u) -> R (bool z) st) : ACalls Tryz.prog 79 [.agg (zp w), .agg (zi u)] st R := by
 refine ACalls.of_body (c := cfg 90) zb Tryz.func79 (by rfl) (by rfl) (by rfl) (by rfl) ?_
 repeat' (first | refine bcd (fun _ => ?_) (fun _ => ?_) | refine zh (fun _ => ?_) (fun _ => ?_) | refine zd (by omega) ?_ | (refine zal u.kind _ _ ?_; rintro (_ | _) hz)| (refine Mc w.G u.goal hg _ _ ?_; rintro (_ | _) hz)| (refine Mc w.G u.next hg _ _ ?_; rintro (_ | _) hz)| fail)
 all_goals
  refine ret (h _ ?_)
  simp only [decide_eq_true_eq, decide_eq_false_iff_not, Bool.false_eq_true, false_iff, true_iff, beq_iff_eq, bne_iff_ne, beq_eq_false_iff_ne, ne_eq, reduceCtorEq, jl, qy, xp] at *
  first | omega | (clear h; rcases Decidable.em (u.state = 1) with e1 | e1 <;> rcases Decidable.em (u.goal = -1) with e2 | e2 <;> simp [bne, Mb, e1, e2] at * <;> omega)
theorem zad (l : List UInt8) (hl : l.length <= 1000000000000) (hne : 0 < l.length) (st : Store) (R : AV -> Store -> Prop) (h : ∀ m : UInt8, m ∈ l -> (∀ t ∈ l, t.toNat <= m.toNat) -> R (u8 m) st) : ACalls Tryz.prog 156 [xl l] st R := by
 refine ACalls.of_body (c := cfg 25) zb Tryz.func156 (by rfl) (by rfl) (by rfl) (by rfl) ?_
 refine zh (fun h1 => ?_) (fun h1 => ?_)
 ·grind[zr]
 refine ⟨0, rfl, za _ (zk hne) ?_⟩
 refine AWp.loop (σ := Nat × UInt8) ⟨fun s => [(0, .av (xl l)), (3, .av (u8 s.2)), (4, .av (int (s.1 : Nat)))], fun _ => [],
  fun s st' => (1 <= s.1 /\ s.1 <= l.length) /\ st' = st /\ s.2 ∈ l /\ ∀ t ∈ l.take s.1, t.toNat <= s.2.toNat, fun s => l.length - s.1⟩ zb ?_ ?_
 ·refine ⟨(1, l[0]), Tv, ⟨⟨Nat.le_refl _, hne⟩, rfl, List.getElem_mem hne, fun t ht => ?_⟩, ⟨Tq, Tq, Tq, Tv⟩, Tv⟩
  have : l.take 1 = [l[0]] := by
   cases l with
   | nil => grind
   | cons a l => rfl
  grind
 ·rintro ⟨i, m⟩ st' ⟨⟨hi1, hi⟩, rfl, hm, hall⟩
  simp only at hi1 hi hm hall
  refine zh (fun h1 => ?_) (fun h1 => ?_)
  ·have hlt : i < l.length := qk h1
   refine ⟨i, rfl, za _ (zk hlt) ?_⟩
   refine ⟨⟨by omega, by omega⟩, ?_⟩
   have hmax : max2 (m.toNat : Int) (l[i].toNat : Int) = ((if l[i].toNat > m.toNat then l[i] else m : UInt8).toNat : Int) := by
    unfold max2
    grind
   refine ⟨(i + 1, if l[i].toNat > m.toNat then l[i] else m), ?_, ⟨⟨by omega, hlt⟩, rfl, ?_, fun t ht => ?_⟩, ⟨Tq, ?_, Tq, Tv⟩, Tv⟩
   ·grind
   ·grind
   ·grind[List.take_succ_eq_append_getElem]
   ·show LV.le (.av (.s (.int .u8 (max2 (m.toNat : Int) (l[i].toNat : Int))))) _
    rw [hmax]
    exact Tq
  ·have hge : i = l.length := q9 h1 hi
   subst hge
   rw [List.take_length] at hall
   exact ⟨_, st', Tt, Store.Has.refl st', h m hm hall⟩
theorem za7 (g : Gnd) (hg : g.fits) (st : Store) (R : AV -> Store -> Prop) (h : ∀ b : Bool, (b = true ↔ zt g) -> R (bool b) st) : ACalls Tryz.prog 104 [.agg (zz g)] st R := by
 refine ACalls.of_body (c := cfg 28) zb Tryz.func104 (by rfl) (by rfl) (by rfl) (by rfl) ?_
 refine Ij g.W _ _ (fun b hb => ?_)
 cases b with
 | false =>
  refine ⟨_, st, Tt, Store.Has.refl st, h _ ?_⟩
  simp only [Bool.false_eq_true, false_iff] at hb ⊢
  exact fun hp => hb hp.1
 | true =>
  refine Ij g.H _ _ (fun b2 hb2 => ?_)
  cases b2 with
  | false =>
   refine ⟨_, st, Tt, Store.Has.refl st, h _ ?_⟩
   simp only [Bool.false_eq_true, false_iff] at hb2 ⊢
   exact fun hp => hb2 hp.2.1
  | true =>
   have hm := Ik (hb.1 rfl) (hb2.1 rfl)
   refine ⟨⟨by omega, by omega⟩, ?_⟩
   refine zh (fun h1 => ⟨_, st, Tt, Store.Has.refl st, h _ ?_⟩) (fun h1 => ?_)
   ·rw [zr] at h1
    simp only [Bool.false_eq_true, false_iff]
    intro hp
    have := hp.2.2.1
    grind
   ·rw [zr] at h1
    have h1 : (g.T.length : Int) = g.W * g.H := by grind
    refine zad g.T hg (by omega) _ _ (fun m hm1 hm2 => ?_)
    refine ⟨_, st, Tt, Store.Has.refl st, h _ ?_⟩
    rw [decide_eq_true_iff]
    constructor
    ·intro h2
     refine ⟨hb.1 rfl, hb2.1 rfl, h1, fun t ht => ?_⟩
     grind
    ·intro hp
     have := hp.2.2.2 m hm1
     omega
theorem za8 (g : Gnd) (hg : g.fits) (st : Store) (R : AV -> Store -> Prop) (h : ∀ b : Bool, (b = true ↔ zt g) -> R (bool b) st) : ACalls Tryz.prog 38 [.agg (zz g)] st R := by
 refine ACalls.of_body (c := cfg 46) zb Tryz.func38 (by rfl) (by rfl) (by rfl) (by rfl) ?_
 have no : ¬ zt g -> R (bool false) st := fun hn => h false (by simpa using hn)
 refine zh (fun h1 => ⟨_, st, Tt, Store.Has.refl st, no ?_⟩) (fun h1 => ?_)
 ·intro hp; have := hp.1; grind
 refine zh (fun h2 => ⟨_, st, Tt, Store.Has.refl st, no ?_⟩) (fun h2 => ?_)
 ·intro hp; have := hp.1; grind
 refine zh (fun h3 => ⟨_, st, Tt, Store.Has.refl st, no ?_⟩) (fun h3 => ?_)
 ·intro hp; have := hp.2.1; grind
 refine zh (fun h4 => ⟨_, st, Tt, Store.Has.refl st, no ?_⟩) (fun h4 => ?_)
 ·intro hp; have := hp.2.1; grind
 have hW : 1 <= g.W /\ g.W <= 128 := by grind
 have hH : 1 <= g.H /\ g.H <= 128 := by grind
 have hm := Ik hW hH
 refine ⟨⟨by omega, by omega⟩, ?_⟩
 refine zh (fun h5 => ⟨_, st, Tt, Store.Has.refl st, no ?_⟩) (fun h5 => ?_)
 ·rw [zr] at h5
  intro hp
  have := hp.2.2.1
  grind
 rw [zr] at h5
 have h5 : (g.T.length : Int) = g.W * g.H := by grind
 refine AWp.loop (σ := Nat) ⟨fun i => [(1, .bx 1 0), (3, .av (int (i : Nat)))], fun _ => [(1, zz g)],
  fun i st' => i <= g.T.length /\ st' = st /\ ∀ t ∈ g.T.take i, t.toNat <= 5, fun i => g.T.length - i⟩ zb ?_ ?_
 ·exact ⟨0, Tv, ⟨Nat.zero_le _, rfl, fun t ht => by simp at ht⟩, ⟨Tq, Tq, Tv⟩, (by repeat (first | exact Tv | refine ⟨rfl, ?_⟩ | refine ⟨optR (optR (optR (za _ (zc _ _ _) rfl))), ?_⟩))⟩
 ·rintro i st' ⟨hi, rfl, hall⟩
  refine zh (fun h6 => ?_) (fun h6 => ?_)
  ·have hlt : i < g.T.length := qk h6
   refine ⟨i, rfl, za _ (zk hlt) ?_⟩
   refine zh (fun h7 => ⟨_, st', Tt, Store.Has.refl st', no ?_⟩) (fun h7 => ?_)
   ·intro hp
    have := hp.2.2.2 _ (List.getElem_mem hlt)
    grind
   ·refine ⟨⟨by omega, by omega⟩, ?_⟩
    refine ⟨i + 1, ?_, ⟨hlt, rfl, fun t ht => ?_⟩, ⟨Tq, Tq, Tv⟩, (by repeat (first | exact Tv | refine ⟨rfl, ?_⟩ | refine ⟨optR (optR (optR (za _ (zc _ _ _) rfl))), ?_⟩))⟩
    ·grind
    grind[List.take_succ_eq_append_getElem]
  ·have hge : i = g.T.length := q9 h6 hi
   subst hge
   rw [List.take_length] at hall
   exact ⟨_, st', Tt, Store.Has.refl st', h true (by simpa using ⟨hW, hH, h5, hall⟩)⟩
end Go.Proofs
