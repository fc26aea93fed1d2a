/- Ground of laws of thronglaw21: contracts and plain lemmas; no condition beyond the row's own. -/
import Derived.MapKept
import Derived.Shelf.Sort.Plain
import Derived.Shelf.Slices.SearchI
import Derived.Shelf.Slices.Empties
import Derived.Shelf.Slices.Delete
import Derived.Shelf.Slices.In.SortNone
import Derived.Shelf.Spec.SlicesInsertGrow
import Derived.Shelf.Spec.BitsCarry
import Derived.Test.YthjfdaifoocijaaGreatKC
set_option linter.unusedSimpArgs false
set_option linter.unusedVariables false
namespace Go.V
def u8 (b : UInt8) : AV := .s (.int .u8 b.toNat)
def int (n : Int) : AV := .s (.int .i64 n)
def u64 (n : Int) : AV := .s (.int .u64 n)
def bool (b : Bool) : AV := .s (.bool b)
def nil : AV := .s (.slice none 0 0)
/-- A list's elements as rows of cells. -/
def rws {α : Type} (f : α -> List AV) (l : List α) : List (List AV) := l.map f
def lst {α : Type} (k : Nat) (f : α -> List AV) (l : List α) : AV := .lst k (rws f l) none
section
variable {α : Type} {f : α -> List AV}
theorem zr (l : List α) : (rws f l).length = l.length := by simp [rws]
theorem zk {l : List α} {i : Nat} (h : i < l.length) : (rws f l)[i]? = some (f l[i]) := by simp [rws, h]
theorem F4 {l : List α} {i : Nat} (h : i < l.length) : rws f (l.take i) ++ [f l[i]] = rws f (l.take (i + 1)) := by grind[rws,List.take_succ_eq_append_getElem]
theorem rt (a b : List α) : rws f a ++ rws f b = rws f (a ++ b) := by simp [rws]
theorem qk {l : List α} {i : Nat} (h : decide ((i : Int) < ((rws f l).length : Int)) = true) : i < l.length := by
 rw [zr] at h; grind
theorem q9 {l : List α} {i : Nat} (h : decide ((i : Int) < ((rws f l).length : Int)) = false) (h2 : i <= l.length) : i = l.length := by
 rw [zr] at h; grind
end
def u8C (b : UInt8) : List AV := [u8 b]
def xf (n : Int) : List AV := [int n]
def xl (l : List UInt8) : AV := lst 1 u8C l
def kx (l : List Int) : AV := lst 1 xf l
theorem isF {R : AV -> Store -> Prop} {b : Bool} {st : Store} (h : R (bool b) st) (hb : b = false) : R (bool false) st := by grind
theorem isT {R : AV -> Store -> Prop} {b : Bool} {st : Store} (h : R (bool b) st) (hb : b = true) : R (bool true) st := by grind
/-- The program's data. -/
structure Gnd where
 W : Int
 H : Int
 T : List UInt8
 deriving DecidableEq
structure Cmd where
 P : Int
 S : Int
 K : Int
 N : Int
 U : List Int
 T : Int
 W : Int
 H : Int
 X : Int
 Y : Int
 deriving DecidableEq
structure Frm where
 turn : Int
 C : List Cmd
 hash : Int
 deriving DecidableEq
structure Rep where
 P : Int
 G : Gnd
 F : List Frm
 deriving DecidableEq
def zz (g : Gnd) : List AV := [int g.W, int g.H, xl g.T]
def Cmd.fits (c : Cmd) : Prop := c.U.length <= 1000000000000
def Frm.fits (f : Frm) : Prop := f.C.length <= 1000000000000 /\ ∀ c ∈ f.C, c.fits
def Gnd.fits (g : Gnd) : Prop := g.T.length <= 1000000000000
def Rep.fits (r : Rep) : Prop := r.G.fits /\ r.F.length <= 1000000000000 /\ ∀ f ∈ r.F, f.fits
/-- What a replay's parts may be. -/
def zt (g : Gnd) : Prop := (1 <= g.W /\ g.W <= 128) /\ (1 <= g.H /\ g.H <= 128) /\ (g.T.length : Int) = g.W * g.H /\ ∀ t ∈ g.T, t.toNat <= 5
def wa (l : List Int) : Prop := (1 <= l.length /\ l.length <= 64) /\ ∀ j, j < l.length -> (1 <= l.getD j 0 /\ l.getD j 0 <= 1099511627776) /\ (0 < j -> l.getD (j - 1) 0 < l.getD j 0)
def we (t : Int) : Prop := 0 <= t /\ t <= 16383
def idP (t : Int) : Prop := 1 <= t /\ t <= 1099511627776
def yo (x y : Int) : Prop := (-1099511627776 <= x /\ x <= 1099511627776) /\ (-1099511627776 <= y /\ y <= 1099511627776)
/-- What of a command is of its kind. -/
def Cmd.only (c : Cmd) : Cmd :=
 if c.K = 1 then ⟨c.P, c.S, c.K, c.N, [], 0, 0, 0, c.X, c.Y⟩ else
 if c.K = 2 then ⟨c.P, c.S, c.K, 0, c.U, c.T, 0, 0, 0, 0⟩ else
 if c.K = 3 then ⟨c.P, c.S, c.K, 0, c.U, 0, 0, 0, 0, 0⟩ else
 if c.K = 4 then ⟨c.P, c.S, c.K, 0, [], c.T, c.W, c.H, 0, 0⟩ else
 if c.K = 5 then ⟨c.P, c.S, c.K, c.N, [], 0, 0, 0, 0, 0⟩ else
 if c.K = 6 then ⟨c.P, c.S, c.K, c.N, c.U, 0, 0, 0, 0, 0⟩ else
 if c.K = 7 then ⟨c.P, c.S, c.K, c.N, [], c.T, 0, 0, 0, 0⟩ else
 ⟨c.P, c.S, c.K, 0, [], 0, 0, 0, 0, 0⟩
def Cmd.okP (c : Cmd) : Prop :=
 (c.K = 1 /\ (0 <= c.N /\ c.N <= 3) /\ yo c.X c.Y) \/ (c.K = 2 /\ wa c.U /\ we c.T) \/ (c.K = 3 /\ wa c.U) ∨
 (c.K = 4 /\ we c.T /\ (1 <= c.W /\ c.W <= 4) /\ (1 <= c.H /\ c.H <= 4)) \/ (c.K = 5 /\ idP c.N) \/ (c.K = 6 /\ wa c.U /\ idP c.N) \/ (c.K = 7 /\ idP c.N /\ we c.T)
theorem Cmd.ok1 {c : Cmd} (h : c.K = 1) : c.okP ↔ (0 <= c.N /\ c.N <= 3) /\ yo c.X c.Y := by unfold Cmd.okP; simp [h]
theorem Cmd.ok2 {c : Cmd} (h : c.K = 2) : c.okP ↔ wa c.U /\ we c.T := by unfold Cmd.okP; simp [h]
/-- Lists of values, one by one. -/
def leL : List AV -> List AV -> Prop
 | [], [] => True
 | x :: xs, y :: ys => AV.le x y /\ leL xs ys
 | _, _ => False
theorem Gm : ∀ {xs ys : List AV}, leL xs ys -> xs.length = ys.length /\ ∀ (i : Nat) (x y : AV), xs[i]? = some x -> ys[i]? = some y -> AV.le x y := by
 intro xs
 induction xs with
 | nil =>
  intro ys h
  cases ys with
  | nil => simp
  | cons y ys => exact h.elim
 | cons x xs ih =>
  intro ys h
  cases ys with
  | nil => exact h.elim
  | cons y ys =>
   obtain ⟨h1, h2⟩ := ih h.2
   refine ⟨by simp [h1], fun i u v hu hv => ?_⟩
   cases i with
   | zero => simp at hu hv; subst hu hv; exact h.1
   | succ i => grind
theorem AV.le_aggL {xs ys : List AV} (h : leL xs ys) : AV.le (.agg xs) (.agg ys) := AV.le_agg (Gm h).1 (Gm h).2
theorem s6 {w : World} {T : Nat -> Nat -> Prop} {xs ys : List AV} {vs : List Value} (h : leL xs ys) (hr : Reads w T xs vs) : Reads w T ys vs := by
 obtain ⟨h1, h2⟩ := Gm h
 refine ⟨by rw [<- h1]; exact hr.1, fun i y v hy hv => ?_⟩
 have hi : i < xs.length := by grind
 exact h2 i xs[i] y (List.getElem?_eq_getElem hi) hy w T v (hr.2 i _ v (List.getElem?_eq_getElem hi) hv)
theorem ACalls.le {P : Program} {f : FuncId} {xs ys : List AV} {st : Store} {R : AV -> Store -> Prop} (h : leL xs ys) (hc : ACalls P f ys st R) : ACalls P f xs st R :=
 ⟨fun Oth M w vs sto hr => hc.out Oth M w vs sto (s6 h hr)⟩
theorem Ik {a b : Int} (h1 : 1 <= a /\ a <= 128) (h2 : 1 <= b /\ b <= 128) : 1 <= a * b /\ a * b <= 16384 := by
 have h3 : a * b <= 128 * 128 := Int.mul_le_mul h1.2 h2.2 (by omega) (by omega)
 have h4 : 0 < a * b := Int.mul_pos (by omega) (by omega)
 omega
def Aa (a b : Int) : Int := if a < b then -1 else if a > b then 1 else 0
end Go.V
namespace Go.V
theorem uz (a q m : Nat) (h : a < 2 ^ m) : a ||| q * 2 ^ m = a + q * 2 ^ m := by grind[Nat.two_pow_add_eq_or_of_lt,Nat.mul_comm]
theorem zd3 (a b : Nat) (ha : a < 2 ^ 64) (hb : b < 2 ^ 64) : xt .or .i64 a b = IntKind.i64.wrap ((a ||| b : Nat) : Int) /\ xt .or .u64 a b = IntKind.u64.wrap ((a ||| b : Nat) : Int) := by
 have h : ∀ a : Nat, a < 2 ^ 64 -> (BitVec.ofInt 64 (a : Int)).toNat = a := by simp
 constructor
 ·show IntKind.i64.wrap ((BitVec.ofInt 64 (a : Int) ||| BitVec.ofInt 64 (b : Int)).toNat : Int) = _
  grind
 ·show IntKind.u64.wrap ((BitVec.ofInt 64 (a : Int) ||| BitVec.ofInt 64 (b : Int)).toNat : Int) = _
  grind
theorem vg {v : Int} (h : 0 <= v) (h2 : v < 18446744073709551616) : IntKind.u64.wrap v = v := by grind[IntKind.wrap,IntKind.bits,IntKind.signed]
theorem uc {n : Int} {q m : Nat} (h0 : 0 <= n) (h1 : n < 2 ^ m) (h2 : n + q * 2 ^ m < 18446744073709551616) : xt .or .u64 n (q * 2 ^ m) = n + q * 2 ^ m := by
 obtain ⟨a, rfl⟩ := Int.eq_ofNat_of_zero_le h0
 have e : ((q : Int) * 2 ^ m) = ((q * 2 ^ m : Nat) : Int) := by simp
 have h1' : a < 2 ^ m := by grind
 rw [e] at h2 ⊢
 have h3 : a + q * 2 ^ m < 18446744073709551616 := by omega
 rw [(zd3 a (q * 2 ^ m) (by omega) (by omega)).2, uz a q m h1', vg (by omega) (by omega)]
 simp
/-- P4.2: a number: it, its bytes, the error. -/
def K1 : List UInt8 -> Nat -> Int -> Int × Nat × Int
 | [], _, _ => (0, 0, 11)
 | c :: l, i, n =>
  if (128 <= c.toNat /\ i = 8) \/ (c.toNat = 0 /\ 0 < i) then (0, 0, 1)
  else if c.toNat < 128 then (n + (c.toNat % 128 : Nat) * 128 ^ i, i + 1, 0)
  else K1 l (i + 1) (n + (c.toNat % 128 : Nat) * 128 ^ i)
def Gv (b : List UInt8) : Int × Nat × Int := K1 b 0 0
/-- A number that may be below 0, of one that may not. -/
def zig (n : Int) : Int := if n % 2 = 0 then n / 2 else -(n / 2) - 1
def zbs (b : List UInt8) : Int × Nat × Int := (zig (Gv b).1, (Gv b).2.1, (Gv b).2.2)
/-- The program's reader: what is left, and what is wrong. -/
structure Rd where
 b : List UInt8
 e : Int
 deriving DecidableEq
def Rd.fail (s : Rd) (e : Int) : Rd := if s.e = 0 then ⟨s.b, e⟩ else s
def Rd.must (s : Rd) (ok : Bool) : Rd := if ok then s else s.fail 1
def Rd.take (s : Rd) (n : Int) (k : Nat) (e : Int) : Int × Rd := if (s.fail e).e ≠ 0 then (0, s.fail e) else (n, ⟨s.b.drop k, 0⟩)
def inB (n lo hi : Int) : Bool := decide (lo <= n /\ n <= hi)
def Rd.got (s : Rd) (g : Int × Nat × Int) (lo hi : Int) : Int × Rd :=
 if s.e ≠ 0 then (0, s) else ((s.take g.1 g.2.1 g.2.2).1, (s.take g.1 g.2.1 g.2.2).2.must (inB (s.take g.1 g.2.1 g.2.2).1 lo hi))
def Rd.int (s : Rd) (lo hi : Int) : Int × Rd := s.got (zbs s.b) lo hi
def Rd.byte (s : Rd) : UInt8 × Rd :=
 if s.e ≠ 0 then (0, s) else match s.b with | [] => (0, ⟨[], 11⟩) | c :: l => (c, ⟨l, 0⟩)
def Rd.same (s : Rd) (l : List UInt8) : Rd := l.foldl (fun s c => s.byte.2.must (s.byte.1 == c)) s
def Rd.fin (s : Rd) : Rd := s.must (s.b.length == 0)
end Go.V
namespace Go.V
end Go.V
namespace Go.V
end Go.V
namespace Go.V
end Go.V
namespace Go.V
end Go.V
namespace Go.V
end Go.V
namespace Go.V
end Go.V
namespace Go.V
end Go.V
namespace Go.V
/-- A number as it counts. -/
def nrm (a : Int) : Int := if a < -9223372036854775807 then -9223372036854775807 else a
theorem ul (n : Int) : max2 n (Int.negSucc 9223372036854775806) = nrm n := by simp_all[max2,nrm]
theorem qr {n : Int} (h : zl n) : -9223372036854775807 <= nrm n /\ nrm n <= 9223372036854775807 := by grind[zl,nrm]
theorem Cu {n : Int} (h : -9223372036854775807 <= n) : nrm n = n := by unfold nrm; omega
theorem uk (n : Int) : nrm (nrm n) = nrm n := by unfold nrm; omega
def xa (s : Int) : Int := if s > 9223372036854775807 then 9223372036854775807 else if s < -9223372036854775807 then -9223372036854775807 else s
def yb (a b : Int) : Int := xa (nrm a + nrm b)
def zw (a b : Int) : Int := yb a (-nrm b)
theorem Ls (s : Int) : -9223372036854775807 <= xa s /\ xa s <= 9223372036854775807 := by grind[xa]
theorem zb9 (a b : Int) : -9223372036854775807 <= yb a b /\ yb a b <= 9223372036854775807 := Ls _
theorem Gy (a b : Int) : -9223372036854775807 <= zw a b /\ zw a b <= 9223372036854775807 := Ls _
theorem Dp (a b : Int) : zl (yb a b) := by have := zb9 a b; unfold zl; omega
theorem k6 (a b : Int) : zl (zw a b) := by have := Gy a b; unfold zl; omega
/-- How great. -/
def asz (a : Int) : Int := if nrm a < 0 then -nrm a else nrm a
theorem vf {n : Int} (h : zl n) : 0 <= asz n /\ asz n <= 9223372036854775807 := by
 have := qr h
 unfold asz; omega
/-- A number of 128 bits. -/
def qp (n : Int) : List AV := [u64 (n / 18446744073709551616), u64 (n % 18446744073709551616)]
theorem Ak (v : Int) : IntKind.u64.wrap v = v % 18446744073709551616 := by rfl
theorem Ah {a : Int} (h : 0 <= a) : xt .and .u64 a 4294967295 = a % 4294967296 := by
 obtain ⟨n, rfl⟩ := Int.eq_ofNat_of_zero_le h
 show IntKind.u64.wrap ((BitVec.ofInt 64 (n : Int) &&& BitVec.ofInt 64 (4294967295 : Int)).toNat : Int) = _
 rw [Ak]
 have e1 : BitVec.ofInt 64 (n : Int) = BitVec.ofNat 64 n := BitVec.ofInt_natCast ..
 have e2 : BitVec.ofInt 64 (4294967295 : Int) = BitVec.ofNat 64 4294967295 := rfl
 rw [e1, e2, BitVec.toNat_and, BitVec.toNat_ofNat, BitVec.toNat_ofNat]
 have e3 : (4294967295 : Nat) % 2 ^ 64 = 2 ^ 32 - 1 := by decide
 rw [e3, Nat.and_two_pow_sub_one_eq_mod]
 omega
theorem pd (a : Int) : a.fdiv (2 ^ (min (32 : Int).toNat IntKind.u64.bits)) = a / 4294967296 := by
 have : (min (32 : Int).toNat IntKind.u64.bits) = 32 := by decide
 grind
theorem tz : (2 : Int) ^ (min (32 : Int).toNat IntKind.u64.bits) = 4294967296 := by decide
theorem zb8 (a : Int) : a.fdiv 4294967296 = a / 4294967296 := Int.fdiv_eq_ediv_of_nonneg _ (by decide)
theorem Ca {n hi lo : Int} (h1 : hi = n / 18446744073709551616) (h2 : lo = n % 18446744073709551616) : [AV.s (.int .u64 hi), AV.s (.int .u64 lo)] = qp n := by subst h1 h2; rfl
theorem ud {a b : Int} (ha : 0 <= a) (hb : 0 <= b) (hb2 : b < 4294967296) : xt .or .u64 ((a * 4294967296) % 18446744073709551616) b = (a * 4294967296) % 18446744073709551616 + b := by
 have e : (a * 4294967296) % 18446744073709551616 = (a % 4294967296) * 2 ^ 32 := by omega
 obtain ⟨q, hq⟩ := Int.eq_ofNat_of_zero_le (show 0 <= a % 4294967296 by omega)
 have e2 := @uc b q 32 hb (by omega) (by omega)
 have comm : ∀ x y : Int, xt .or .u64 x y = xt .or .u64 y x := by grind[xt]
 grind
/-- The parts of a product. -/
theorem H6 (x y : Int) (hx : 0 <= x) (hx2 : x < 18446744073709551616) (hy : 0 <= y) (hy2 : y < 18446744073709551616) :
  ∃ p00 p10 p01 p11 : Int, p00 = (x % 4294967296) * (y % 4294967296) /\ p10 = (x / 4294967296) * (y % 4294967296) /\ p01 = (x % 4294967296) * (y / 4294967296) /\ p11 = (x / 4294967296) * (y / 4294967296) ∧
   x * y = p11 * 18446744073709551616 + (p10 + p01) * 4294967296 + p00 /\ 0 <= p00 /\ p00 <= 18446744065119617025 /\ 0 <= p10 /\ p10 <= 18446744065119617025 /\ 0 <= p01 /\ p01 <= 18446744065119617025 /\ 0 <= p11 /\ p11 <= 18446744065119617025 := by
 have b : ∀ u v : Int, 0 <= u -> u <= 4294967295 -> 0 <= v -> v <= 4294967295 -> 0 <= u * v /\ u * v <= 18446744065119617025 := by
  intro u v h1 h2 h3 h4
  refine ⟨Int.mul_nonneg h1 h3, ?_⟩
  have h5 : u * v <= 4294967295 * 4294967295 := Int.mul_le_mul h2 h4 h3 (by decide)
  exact h5
 refine ⟨_, _, _, _, rfl, rfl, rfl, rfl, ?_, ?_⟩
 ·grind
 ·obtain ⟨h1, h2⟩ := b (x % 4294967296) (y % 4294967296) (by omega) (by omega) (by omega) (by omega)
  obtain ⟨h3, h4⟩ := b (x / 4294967296) (y % 4294967296) (by omega) (by omega) (by omega) (by omega)
  obtain ⟨h5, h6⟩ := b (x % 4294967296) (y / 4294967296) (by omega) (by omega) (by omega) (by omega)
  obtain ⟨h7, h8⟩ := b (x / 4294967296) (y / 4294967296) (by omega) (by omega) (by omega) (by omega)
  omega
/-- A place, a way. -/
abbrev Vc := Int × Int
def zn (p : Vc) : List AV := [int p.1, int p.2]
def Vc.ok (p : Vc) : Prop := zl p.1 /\ zl p.2
def x9 (a b : Vc) : Vc := (zw a.1 b.1, zw a.2 b.2)
def sqr (v : Vc) : Int := asz v.1 * asz v.1 + asz v.2 * asz v.2
/-- Nearer than 'r'. -/
def near (a b : Vc) (r : Int) : Bool := decide (0 < r /\ sqr (x9 a b) < r * r)
end Go.V
namespace Go.V
/-- Two stores side by side. -/
def Store.un (a g : Store) : Store :=
  ⟨fun b => match g.obj b with | some x => some x | none => a.obj b, fun b => match g.tok b with | some x => some x | none => a.tok b⟩
def Store.has (g : Store) (b : Nat) : Prop := g.obj b ≠ none \/ g.tok b ≠ none
def zv (a g : Store) : Prop := ∀ b, a.has b -> ¬ g.has b
theorem wo {g : Store} {b : Nat} (h : ¬ g.has b) : g.obj b = none /\ g.tok b = none := by
  constructor
  · cases h1 : g.obj b with
    | none => rfl
    | some x => exact absurd (Or.inl (by grind)) h
  · cases h1 : g.tok b with
    | none => rfl
    | some x => exact absurd (Or.inr (by grind)) h
theorem js {g : Store} {b : Nat} {x : AObj} (h : g.obj b = some x) : g.has b := .inl (by grind)
theorem Gu {g : Store} {b : Nat} {x : Nat} (h : g.tok b = some x) : g.has b := .inr (by grind)
theorem fresh_iff {g : Store} {b : Nat} : Fresh g b ↔ ¬ g.has b :=
  ⟨fun ⟨h1, h2⟩ h => h.elim (fun h => h h1) (fun h => h h2), wo⟩
theorem zf {a g : Store} {b : Nat} {x : AObj} (h : g.obj b = some x) : (a.un g).obj b = some x := by simp [Store.un, h]
theorem y5 {a g : Store} {b : Nat} {x : AObj} (hd : zv a g) (h : a.obj b = some x) : (a.un g).obj b = some x := by
  simp [Store.un, (wo (hd b (js h))).1, h]
theorem H4 {a g : Store} {b : Nat} {x : Nat} (hd : zv a g) (h : a.tok b = some x) : (a.un g).tok b = some x := by
  simp [Store.un, (wo (hd b (Gu h))).2, h]
theorem vi {a g : Store} {b : Nat} {x : Nat} (h : g.tok b = some x) : (a.un g).tok b = some x := by simp [Store.un, h]
theorem H3 {a g : Store} {b : Nat} {x : AObj} (h : (a.un g).obj b = some x) : g.obj b = some x \/ (g.obj b = none /\ a.obj b = some x) := by
  simp only [Store.un] at h
  grind
theorem Fl {a g : Store} {b : Nat} {x : Nat} (h : (a.un g).tok b = some x) : g.tok b = some x \/ (g.tok b = none /\ a.tok b = some x) := by
  simp only [Store.un] at h
  grind
theorem un_has {a g : Store} {b : Nat} : (a.un g).has b ↔ a.has b \/ g.has b := by grind[Store.has,Store.un]
section
variable {P : Program}
/-- What a call does with its own, beside what it does not touch. -/
theorem ACalls.frame {f : FuncId} {xs : List AV} {a g : Store} {R R' : AV -> Store -> Prop} (hd : zv a g) (h : ACalls P f xs a R) (hR : ∀ r a', R r a' -> zv a' g -> R' r (a'.un g)) : ACalls P f xs (a.un g) R' := by
  refine ⟨fun Oth M w vs sto hr => ?_⟩
  let gM : Nat -> Nat -> Prop := fun b o => M b o /\ g.has b
  let M1 : Nat -> Nat -> Prop := fun b o => M b o /\ ¬ g.has b
  let O1 : Nat -> Nat -> Prop := fun b o => Oth b o \/ gM b o
  have hT : (fun (b o : Nat) => M1 b o \/ O1 b o) = fun b o => M b o \/ Oth b o := by grind
  have sto1 : StoreOK a O1 M1 w :=
    { obj := fun b x hx => by
        rw [hT]
        have := sto.obj b x (y5 hd hx)
        exact ⟨this.1, fun o => ⟨this.2 o, hd b (js hx)⟩⟩
      tok := fun b top hx => by
        obtain ⟨c, e, fr, h1, h2, h3, h4⟩ := sto.tok b top (H4 hd hx)
        exact ⟨c, e, fr, h1, h2, h3, fun o ho => ⟨h4 o ho, hd b (Gu hx)⟩⟩
      mlt := fun b o hm => sto.mlt b o hm.1
      olt := fun b o hm => by
        rcases hm with h | h
        · exact sto.olt b o h
        · exact sto.mlt b o h.1
      dis := fun b o hO hM => by
        rcases hO with h | h
        · exact sto.dis b o h hM.1
        grind }
  have h1 := h.out O1 M1 w vs sto1 (by grind)
  have key : ∀ v w', yi a R O1 M1 w v w' -> yi (a.un g) R' Oth M w v w' := by
    rintro v w' ⟨r, a', M2, hRr, hv, hsto, hchg⟩
    let M' : Nat -> Nat -> Prop := fun b o => M2 b o \/ gM b o
    have hT2 : (fun (b o : Nat) => M2 b o \/ O1 b o) = fun b o => M' b o \/ Oth b o := by grind
    have hglt : ∀ b, g.has b -> b < w.heap.size := by
      intro b hb
      rcases hb with hb | hb
      · cases hx : g.obj b with
        | none => grind
        | some x => exact sto.mlt b 0 ((sto.obj b x (zf hx)).2 0)
      · cases hx : g.tok b with
        | none => grind
        | some x =>
          obtain ⟨c, e, fr, h1, _⟩ := sto.tok b x (vi hx)
          grind
    have hno : ∀ b o, M2 b o -> ¬ g.has b := fun b o hm hg => (hchg.sub b o hm (hglt b hg)).2 hg
    have hd' : zv a' g := by
      intro b hb
      rcases hb with hb | hb
      · cases hx : a'.obj b with
        | none => grind
        | some x => exact hno b 0 ((hsto.obj b x hx).2 0)
      · cases hx : a'.tok b with
        | none => grind
        | some x =>
          obtain ⟨c, e, fr, h1, h2, h3, h4⟩ := hsto.tok b x hx
          grind
    have hblk : ∀ b, g.has b -> w'.heap[b]? = w.heap[b]? := fun b hg => hchg.blk b (hglt b hg) fun o hm => hm.2 hg
    refine ⟨r, a'.un g, M', hR r a' hRr hd', by grind, ?_, ?_⟩
    · refine { obj := fun b x hx => ?_, tok := fun b top hx => ?_, mlt := fun b o hm => ?_, olt := fun b o hm => Nat.lt_of_lt_of_le (sto.olt b o hm) hchg.size, dis := fun b o hO hM => ?_ }
      · rcases H3 hx with hx | ⟨_, hx⟩
        · have h5 := sto.obj b x (zf hx)
          have hk := hchg.keeps (Oth := O1)
          grind[ObjRel.same,js]
        · have h5 := hsto.obj b x hx
          grind
      · rcases Fl hx with hx | ⟨_, hx⟩
        · obtain ⟨c, e, fr, h1, h2, h3, h4⟩ := sto.tok b top (vi hx)
          grind[Gu]
        · obtain ⟨c, e, fr, h1, h2, h3, h4⟩ := hsto.tok b top hx
          grind
      · rcases hm with h | h
        · exact hsto.mlt b o h
        grind
      · rcases hM with h | h
        · exact hsto.dis b o (.inl hO) h
        · exact sto.dis b o hO h.1
    · exact
        { size := hchg.size
          keep := fun b o hb hm => hchg.keep b o hb fun h => hm h.1
          blk := fun b hb hm => hchg.blk b hb fun o h => hm o h.1
          shp := hchg.shp
          sub := fun b o hm hb => by
            rcases hm with h | h
            · exact (hchg.sub b o h hb).1
            grind
          tape := hchg.tape
          os := hchg.os
          output := hchg.output }
  generalize (callFunc f vs).run P w = res at h1
  cases res with
  | ok n w' =>
    cases n with
    | enter f' args => exact Calls.mono h1 fun e w'' ⟨v, he, hv⟩ => ⟨v, he, key _ _ hv⟩
    | value v => exact key _ _ h1
    | _ => exact h1
  | _ => exact h1
/-- A value that reads by no cell. -/
def K6 (r : AV) : Prop := ∀ w T w' T' v, VRel w T r v -> VRel w' T' r v
theorem zbz (v : Value) : K6 (.s v) := fun _ _ _ _ _ h => by cases h; exact .s _
/-- A call that only looks at what is there, in its plain form. -/
theorem ACalls.read {f : FuncId} {xs ys : List AV} {g : Store} {Q : AV -> Prop} {R : AV -> Store -> Prop}
    (hb : ∀ Oth M w vs, StoreOK g Oth M w -> Reads w (fun b o => M b o \/ Oth b o) xs vs -> Reads w (fun b o => (M b o \/ Oth b o) /\ g.obj b = none) ys vs)
    (h : ACalls P f ys Store.empty fun r _ => Q r) (hf : ∀ r, Q r -> K6 r) (hR : ∀ r, Q r -> R r g) : ACalls P f xs g R := by
  refine ⟨fun Oth M w vs sto hr => ?_⟩
  let O1 : Nat -> Nat -> Prop := fun b o => (M b o \/ Oth b o) /\ g.obj b = none
  have sto0 : StoreOK Store.empty O1 (fun _ _ => False) w :=
    { obj := fun b x hx => (by cases hx), tok := fun b x hx => (by cases hx), mlt := fun _ _ h => h.elim, olt := fun b o h => Or.elim h.1 (sto.mlt b o) (sto.olt b o), dis := fun _ _ _ h => h }
  have h1 := h.out O1 (fun _ _ => False) w vs sto0 (by grind)
  have key : ∀ v w', yi Store.empty (fun r _ => Q r) O1 (fun _ _ => False) w v w' -> yi g R Oth M w v w' := by
    rintro v w' ⟨r, a', M2, hQ, hv, hsto, hchg⟩
    have hg : Grow w w' := ⟨hchg.size, fun b hb => hchg.blk b hb fun _ h => h, hchg.tape, hchg.os, hchg.output⟩
    exact ⟨r, g, M, hR r hQ, hf r hQ _ _ _ _ _ hv, sto.grow hg, hg.chg M⟩
  generalize (callFunc f vs).run P w = res at h1
  cases res with
  | ok n w' =>
    cases n with
    | enter f' args => exact Calls.mono h1 fun e w'' ⟨v, he, hv⟩ => ⟨v, he, key _ _ hv⟩
    | value v => exact key _ _ h1
    | _ => exact h1
  | _ => exact h1
/-- A slice over an object reads as a list for the time that the object rests. -/
theorem L9 {w : World} {T : Nat -> Nat -> Prop} {b n cap k : Nat} {rows : List (List AV)} {pad : List AV} (ho : CellsRel w T (rows.flatten ++ pad) b) {T' : Nat -> Nat -> Prop} (hT : ∀ o, ¬ T' b o) (hn : rows.length = n) (hcap : n <= cap)
    (hk : ∀ row ∈ rows, row.length = k) (hall : ∀ row ∈ rows, ∀ x ∈ row, ∃ v, x = AV.s v /\ yk v = true) : VRel w T' (.lst k rows none) (.slice (some ⟨b, 0, none⟩) n cap) := by
  obtain ⟨cs, e0, fr, hb0, huf, hlen, hrel⟩ := ho
  subst hn
  have at1 : ∀ (i : Nat) (row : List AV) (j : Nat) (x : AV), rows[i]? = some row -> row[j]? = some x -> ∃ v, x = .s v /\ yk v = true /\ cs[i * k + j]? = some v := by
    intro i row j x hi hj
    obtain ⟨v, rfl, hv⟩ := hall row (List.mem_of_getElem? hi) x (List.mem_of_getElem? hj)
    have h5 := vx hk hi hj
    have hlt := (List.getElem?_eq_some_iff.1 h5).1
    have h6 : (rows.flatten ++ pad)[i * k + j]? = some (.s v) := by grind
    have hlt2 : i * k + j < cs.size := by grind
    have h7 := hrel _ _ cs[i * k + j] h6 (by simp [hlt2])
    have : cs[i * k + j] = v := by generalize cs[i * k + j] = y at h7; cases h7; rfl
    grind
  refine VRel.lst rows none b 0 cap k (fun p => cs.getD p undef) hcap (fun i row hi => hk row (List.mem_of_getElem? hi)) (fun _ h => by cases h) (fun i row j x hi hj => ?_) (fun i row j x hi hj => ?_) (fun i row j x hi hj => ?_)
  · obtain ⟨v, rfl, hv, h5⟩ := at1 i row j x hi hj
    simp_all[World.cell?]
  · obtain ⟨v, rfl, hv, h5⟩ := at1 i row j x hi hj
    simp_all
  · obtain ⟨v, rfl, hv, h5⟩ := at1 i row j x hi hj
    rw [Array.getD_eq_getD_getElem?, h5]; exact .s _
/-- One store says less than another one. -/
def AObj.le (x y : AObj) : Prop := ∀ w T b, ObjRel w T x b -> ObjRel w T y b
structure Store.Le (st st' : Store) : Prop where
  obj : ∀ b y, st'.obj b = some y -> ∃ x, st.obj b = some x /\ AObj.le x y
  tok : ∀ b x, st'.tok b = some x -> st.tok b = some x
theorem AObj.le_refl (x : AObj) : AObj.le x x := fun _ _ _ h => h
theorem Store.Le.refl (st : Store) : st.Le st := ⟨fun b y h => ⟨y, h, AObj.le_refl y⟩, fun _ _ h => h⟩
theorem Store.Has.toLe {st st' : Store} (h : st.Has st') : st.Le st' := ⟨fun b y hy => ⟨y, h.obj b y hy, AObj.le_refl y⟩, h.tok⟩
theorem Store.Le.trans {a b c : Store} (h : a.Le b) (h' : b.Le c) : a.Le c :=
  ⟨fun i z hz => by
    obtain ⟨y, hy, h2⟩ := h'.obj i z hz
    obtain ⟨x, hx, h3⟩ := h.obj i y hy
    exact ⟨x, hx, fun w T b k => h2 w T b (h3 w T b k)⟩, fun i x hx => h.tok i x (h'.tok i x hx)⟩
theorem StoreOK.weakenLe {st st' : Store} {Oth M : Nat -> Nat -> Prop} {w : World} (h : StoreOK st Oth M w) (hh : st.Le st') : StoreOK st' Oth M w :=
  ⟨fun b y k => by
    obtain ⟨x, hx, hle⟩ := hh.obj b y k
    exact ⟨hle _ _ _ (h.obj b x hx).1, (h.obj b x hx).2⟩, fun b x k => h.tok b x (hh.tok b x k), h.mlt, h.olt, h.dis⟩
/-- A contract that says less. -/
theorem ACalls.post {f : FuncId} {xs : List AV} {st st0 : Store} {R R' : AV -> Store -> Prop} (h : ACalls P f xs st0 R) (h0 : st.Le st0) (hR : ∀ r st', R r st' -> ∃ r' st'', AV.le r r' /\ st'.Le st'' /\ R' r' st'') : ACalls P f xs st R' := by
  refine ⟨fun Oth M w vs sto hr => ?_⟩
  have h1 := h.out Oth M w vs (sto.weakenLe h0) hr
  have key : ∀ v w', yi st0 R Oth M w v w' -> yi st R' Oth M w v w' := by
    rintro v w' ⟨r, a', M2, hQ, hv, hsto, hchg⟩
    obtain ⟨r', st'', h2, h3, h4⟩ := hR r a' hQ
    exact ⟨r', st'', M2, h4, h2 _ _ _ hv, hsto.weakenLe h3, hchg⟩
  generalize (callFunc f vs).run P w = res at h1
  cases res with
  | ok n w' =>
    cases n with
    | enter f' args => exact Calls.mono h1 fun e w'' ⟨v, he, hv⟩ => ⟨v, he, key _ _ hv⟩
    | value v => exact key _ _ h1
    | _ => exact h1
  | _ => exact h1
theorem ACalls.imp {f : FuncId} {xs : List AV} {st : Store} {R R' : AV -> Store -> Prop} (h : ACalls P f xs st R) (hR : ∀ r st', R r st' -> R' r st') : ACalls P f xs st R' :=
  h.post (Store.Le.refl st) fun r st' hr => ⟨r, st', AV.le_refl r, Store.Le.refl st', hR r st' hr⟩
/-- A contract off a walk in words of worlds. -/
theorem ACalls.of_calls {f : FuncId} {fn : Func} {code : Code} {xs : List AV} {st : Store} {R : AV -> Store -> Prop} (hf : P.funcs[f]? = some fn) (hb : fn.body = some code) (hname : (fn.name == "runtime.NumGoroutine") = false)
    (h : ∀ (Oth M : Nat -> Nat -> Prop) (w : World) (vs : Array Value), StoreOK st Oth M w -> Reads w (fun b o => M b o \/ Oth b o) xs vs.toList -> Calls P f vs w fun e w' => ∃ v, e = .returned v /\ yi st R Oth M w v w') : ACalls P f xs st R := by
  refine ⟨fun Oth M w vs sto hr => ?_⟩
  have hrun : (callFunc f vs).run P w = .ok (.enter f vs) w := by simp_all[callFunc]
  rw [hrun]
  exact h Oth M w vs sto hr
/-- A contract off what a function without a text is said to do. -/
theorem ACalls.of_value {f : FuncId} {xs : List AV} {st : Store} {R : AV -> Store -> Prop}
    (h : ∀ (Oth M : Nat -> Nat -> Prop) (w : World) (vs : Array Value), StoreOK st Oth M w -> Reads w (fun b o => M b o \/ Oth b o) xs vs.toList -> ∃ v w', (callFunc f vs).run P w = .ok (.value v) w' /\ yi st R Oth M w v w') : ACalls P f xs st R := by
  refine ⟨fun Oth M w vs sto hr => ?_⟩
  obtain ⟨v, w', h1, h2⟩ := h Oth M w vs sto hr
  rw [h1]
  exact h2
end
/-- Once for all ways; the way to the place may be cut. -/
theorem AWp.meetA {P : Program} {c : Cfg} {σ : Type} (H : Meet σ) {x y : Code} {Q : Exit -> Fr -> Store -> Prop} {A : Fr} {st : Store} (hx : AWp P c x (Ch H.at Q) A st)
    (hy : ∀ s st', H.inv s st' -> AWp P c y Q (xe (H.t s) (H.bx s)) st') : AWp P c (.seq x y) Q A st := by
  refine AWp.seq (hx.mono fun e A' st' h => ?_)
  cases e with
  | normal =>
    obtain ⟨s, h1, h2, h3⟩ := h
    exact AWp.weaken (hy s st' h1) h2 h3 (Store.Has.refl st')
  | _ => exact h
/-- A test whose ways are not yet walked. -/
theorem AWp.cond {P : Program} {c : Cfg} {x : Operand} {p q : Code} {Q : Exit -> Fr -> Store -> Prop} {A : Fr} {st : Store} (t : Bool) (ht : A.ev x = .av (.s (.bool t))) (h : xu t (AWp P c p Q A st) (AWp P c q Q A st)) : AWp P c (.cond x p q) Q A st := by
  refine ⟨fun Oth M a w sim => ?_⟩
  have hv : a.eval x = .bool t := by
    obtain ⟨β, s⟩ := sim
    exact VRel.eq_s (z7 s.env ht)
  refine wpIn_cond hv ?_
  cases t with
  | true => exact (AWp.out (show AWp P c p Q A st from h)) Oth M a w sim
  | false => exact (AWp.out (show AWp P c q Q A st from h)) Oth M a w sim
section
variable {P : Program} {c : Cfg} {I : Info} {w : World} {T : Nat -> Nat -> Prop}
def Kt : Ty -> Bool
  | .int _ => true
  | _ => false
/-- A value that may be asked for in a map. -/
def Bg (I : Info) (kt : TypeId) (k : AV) : Bool :=
  match I kt with
  | none => false
  | some i => match i.ty, k with
    | .int _, _ => true
    | .bool, _ => true
    | .struct fs, .agg cs => fs.all fun f => match I f.2 with | some j => Kt j.ty && (xz j (cs.drop f.1)).isSome | none => false
    | _, _ => false
theorem Lw {kt : TypeId} {k : IntKind} (h : P.underlying kt = some (.int k)) (v : Value) (e : Bool) (n : Nat) : (Instr.checkKey e (n + 1) kt v).run P w = .ok () w := by simp_all[Instr.checkKey,zm]
theorem zdi {kt : TypeId} (h : P.underlying kt = some .bool) (v : Value) (e : Bool) (n : Nat) : (Instr.checkKey e (n + 1) kt v).run P w = .ok () w := by simp_all[Instr.checkKey,zm]
theorem Hb (hI : zu P I) {kt : TypeId} {k : AV} {kv : Value} (h : Bg I kt k = true) (hv : VRel w T k kv) (e : Bool) : (Instr.checkKey e 10000 kt kv).run P w = .ok () w := by
  unfold Bg at h
  cases hi : I kt with
  | none => grind
  | some i =>
    rw [hi] at h
    have ht := hI kt i hi
    simp only at h
    split at h
    · rename_i k' hy; exact Lw (wc ht hy) kv e 9999
    · grind[zdi,H5]
    · rename_i fs cs hy
      obtain ⟨cv, rfl, hr⟩ := j0 hv
      obtain ⟨a, ha1, ha2⟩ := Ap ht hy
      rw [show (10000 : Nat) = 9999 + 1 from rfl, Instr.checkKey]
      simp only [Sem.run_bind, zm ha1, Result.andThen_ok]
      rw [<- Array.forIn_toList]
      subst ha2
      clear ha1 hy
      generalize a.toList = L at h
      induction L with
      | nil => simp
      | cons f L ih =>
        simp only [List.map_cons, List.all_cons, Bool.and_eq_true] at h
        obtain ⟨h1, h2⟩ := h
        cases hj : I f.type with
        | none => grind
        | some j =>
          simp only [hj, Bool.and_eq_true] at h1
          obtain ⟨h3, h4⟩ := h1
          obtain ⟨x, hx⟩ := Option.isSome_iff_exists.1 h4
          obtain ⟨v, r1, r2⟩ := Be (hI _ _ hj) hr hx
          have hk : ∃ k, j.ty = .int k := by
            unfold Kt at h3
            grind
          obtain ⟨k, hk⟩ := hk
          have r3 := Lw (w := w) (wc (hI _ _ hj) hk) v e 9998
          simp_all
    · cases h
theorem rr {kt : TypeId} {d : TypeDesc} (hd : P.underlying kt = some d) {a b : Value} {r : Bool} (h : Instr.sameNow d a b = some r) (D : Nat) : (Op.equalIn (D + 1) kt a b).run P w = .ok r w := by
  unfold Instr.sameNow at h
  split at h
  · simp_all[Op.equalIn,zm]
  · simp_all[Op.equalIn,zm]
  · simp_all[Op.equalIn,zm]
  · cases h
/-- The first entry with the key. -/
theorem G2 (hI : zu P I) {kt : TypeId} {k : AV} {kv : Value} (hv : VRel w T k kv) (q : AV × AV -> Bool) {es : List (AV × AV)} {ms : List MapEntry} (hl : es.length = ms.length)
    (hr : ∀ (i : Nat) (x : AV × AV) (y : MapEntry), es[i]? = some x -> ms[i]? = some y -> VRel w T x.1 y.key) (hq : ∀ e ∈ es, ji I 5 kt k e.1 = some (q e)) (hkt : (I kt).isSome) :
    ∃ r, (Instr.findKey kt kv ms).run P w = .ok r w /\ ((r = none /\ es.findIdx? q = none) \/ ∃ i e m, r = some (i, m.val) /\ es.findIdx? q = some i /\ es[i]? = some e /\ ms[i]? = some m /\ q e = true) := by
  have eqrun : ∀ (i : Nat) (e : AV × AV) (m : MapEntry), es[i]? = some e -> ms[i]? = some m -> (Op.equal kt kv m.key).run P w = .ok (q e) w := fun i e m he hm =>
    Lh hI 5 kt k e.1 (q e) (hq e (List.mem_of_getElem? he)) 10000 (by omega) kv m.key hv (hr i e m he hm)
  obtain ⟨ik, hik⟩ := Option.isSome_iff_exists.1 hkt
  obtain ⟨d, hd, _⟩ := (hI kt ik hik).und
  have same : ∀ (i : Nat) (e : AV × AV) (m : MapEntry) (b : Bool), es[i]? = some e -> ms[i]? = some m -> Instr.sameNow d kv m.key = some b -> b = q e := by
    intro i e m b he hm hs
    have h1 := eqrun i e m he hm
    have h2 : (Op.equal kt kv m.key).run P w = .ok b w := rr hd hs 9999
    grind
  have res : ∀ (es : List (AV × AV)) (ms : List MapEntry) (i0 : Nat), es.length = ms.length ->
      (∀ (i : Nat) (e : AV × AV) (m : MapEntry), es[i]? = some e -> ms[i]? = some m -> (Op.equal kt kv m.key).run P w = .ok (q e) w /\ ∀ b, Instr.sameNow d kv m.key = some b -> b = q e) ->
      ∃ r, ((r = none /\ es.findIdx? q = none) \/ ∃ i e m, r = some (i0 + i, m.val) /\ es.findIdx? q = some i /\ es[i]? = some e /\ ms[i]? = some m /\ q e = true) /\ (Instr.findAsking kt kv ms i0).run P w = .ok r w ∧
        ∀ r', Instr.findNow d kv ms i0 = some r' -> r' = r := by
    intro es
    induction es with
    | nil =>
      intro ms i0 hl _
      cases ms with
      | cons m ms => simp at hl
      | nil => simp_all[Instr.findAsking,Instr.findNow]
    | cons e es ih =>
      intro ms i0 hl hall
      cases ms with
      | nil => simp at hl
      | cons m ms =>
        obtain ⟨h1, h2⟩ := hall 0 e m rfl rfl
        cases hqe : q e with
        | true =>
          rw [hqe] at h1 h2
          refine ⟨some (i0, m.val), .inr ⟨0, e, m, rfl, by grind, rfl, rfl, hqe⟩, ?_, fun r' h => ?_⟩
          · simp_all[Instr.findAsking]
          · unfold Instr.findNow at h
            grind
        | false =>
          rw [hqe] at h1 h2
          obtain ⟨r, h3, h4, h5⟩ := ih ms (i0 + 1) (by grind) fun i e' m' he hm => hall (i + 1) e' m' he hm
          refine ⟨r, ?_, ?_, fun r' h => ?_⟩
          · rcases h3 with ⟨h6, h7⟩ | ⟨i, e', m', h6, h7, h8, h9, h10⟩
            · grind
            · exact .inr ⟨i + 1, e', m', by grind, by grind, h8, h9, h10⟩
          · simp_all[Instr.findAsking]
          · unfold Instr.findNow at h
            grind
  obtain ⟨r, h1, h2, h3⟩ := res es ms 0 hl fun i e m he hm => ⟨eqrun i e m he hm, fun b => same i e m b he hm⟩
  refine ⟨r, ?_, ?_⟩
  · unfold Instr.findKey
    simp only [Sem.run_bind, zm hd, Result.andThen_ok]
    cases hf : Instr.findNow d kv ms 0 with
    | none => exact h2
    | some r' => simp_all
  grind
/-- What a type's variables hold at first. -/
def x8 (i : TI) : AV := bif xr i.ty then .agg (i.zero.map AV.s) else match i.zero with | v :: _ => .s v | [] => .any
theorem Mp {t : TypeId} {i : TI} (h : TIok P t i) (w : World) (T : Nat -> Nat -> Prop) : ∃ z, (zeroValue t).run P w = .ok z w /\ VRel w T (x8 i) z := by
  obtain ⟨inf, h1, _, _, z, h2, h3⟩ := h.info
  refine ⟨z, by simp [zeroValue, typeInfo, h1, h2], ?_⟩
  unfold x8
  rcases h.zag inf z h1 h2 with ⟨h4, cs, rfl⟩ | ⟨h4, h5⟩
  · rw [h4]
    refine Ao ?_
    have : i.zero = cs.toList := h3.symm
    rw [this]
    exact Reads.map_s _
  · rw [h4, h5]
    exact .s _
end
section
variable {P : Program} {c : Cfg} {w : World} {st : Store} {Oth M : Nat -> Nat -> Prop}
theorem Bm {b : Nat} {old : Obj} (new : Obj) (hb : w.heap[b]? = some old) : (w.heap.setIfInBounds b new)[b]? = some new := by grind
theorem za2 {b b' : Nat} (new : Obj) (h : b' ≠ b) : (w.heap.setIfInBounds b new)[b']? = w.heap[b']? := by grind
theorem xy {r : Nat} {es : Array MapEntry} {clock : Nat} (hb : w.heap[r]? = some (.map es clock)) : (getObj r).run P w = .ok (.map es clock) w := by
  simp [getObj, Sem.run, hb]
theorem Ck {r : Nat} {es : Array MapEntry} {clock : Nat} (o : Obj) (hb : w.heap[r]? = some (.map es clock)) : (setObj r o).run P w = .ok () { w with heap := w.heap.setIfInBounds r o } := by
  simp [setObj, Sem.run, hb]
def v6 : Obj -> Prop
  | .cells .. => False
  | _ => True
theorem Lz {b : Nat} {old new : Obj} (hb : w.heap[b]? = some old) (ho : v6 old) (hn : v6 new) (a : Addr) : World.cell? { w with heap := w.heap.setIfInBounds b new } a = w.cell? a := by grind[World.cell?,v6]
theorem vr {b : Nat} {old new : Obj} (hb : w.heap[b]? = some old) (ho : v6 old) (hn : v6 new) (T : Nat -> Nat -> Prop) : Keeps w T { w with heap := w.heap.setIfInBounds b new } T where
  cell b' o c hc _ := by rw [Lz hb ho hn]; exact hc
  out _ _ _ _ h := h
  shp b' c e fr h := by
    by_cases hbb : b' = b
    · subst hbb; rw [hb] at h; cases h; trivial
    grind
/-- An object that is no row of cells is turned. -/
theorem At (sto : StoreOK st Oth M w) {b : Nat} {old new : Obj} {x y : AObj} (hx : st.obj b = some x) (hb : w.heap[b]? = some old) (ho : v6 old) (hn : v6 new)
    (hy : ObjRel { w with heap := w.heap.setIfInBounds b new } (fun b o => M b o \/ Oth b o) y b) :
    StoreOK (st.setObj b y) Oth M { w with heap := w.heap.setIfInBounds b new } /\ Chg M w M { w with heap := w.heap.setIfInBounds b new } := by
  have hk := vr hb ho hn (fun b o => M b o \/ Oth b o)
  have hM := (sto.obj b x hx).2
  refine ⟨{ obj := fun b' z hz => ?_, tok := fun b' top ht => ?_, mlt := fun b' o hm => ?_, olt := fun b' o hm => ?_, dis := sto.dis }, ?_⟩
  · by_cases hbb : b' = b
    · grind[zc]
    · rw [zj hbb] at hz
      exact ⟨ObjRel.same (sto.obj b' z hz).1 hk (za2 new hbb), (sto.obj b' z hz).2⟩
  · obtain ⟨c, e, fr, h1, h2⟩ := sto.tok b' top ht
    have hbb : b' ≠ b := fun e => by rw [e, hb] at h1; cases h1; trivial
    grind
  · have := sto.mlt b' o hm; grind
  · have := sto.olt b' o hm; grind
  · exact { size := by simp
            keep := fun b' o hb' _ => Lz hb ho hn _
            blk := fun b' hb' hm => by
              have hbb : b' ≠ b := fun e => hm 0 (e ▸ hM 0)
              grind
            shp := fun b' c e fr h => (vr hb ho hn (fun _ _ => False)).shp b' c e fr h
            sub := fun _ _ h _ => h
            tape := rfl, os := rfl, output := rfl }
theorem Lb {α : Type} {q : α -> Bool} : ∀ {l : List α} {i : Nat} {e : α}, l.findIdx? q = some i -> l[i]? = some e -> l.find? q = some e := by
  intro l
  induction l with
  | nil => simp
  | cons a l ih =>
    intro i e h he
    rw [List.findIdx?_cons] at h
    cases hq : q a with
    | true => grind
    | false =>
      rw [hq] at h
      simp only [Bool.false_eq_true, if_false, Option.map_eq_some_iff] at h
      grind
theorem zb3 {α : Type} {q : α -> Bool} {l : List α} (h : l.findIdx? q = none) : l.find? q = none := by grind
/-- What a look-up tells. -/
def j8 (ok : Bool) (z : AV) (r : Option (AV × AV)) : AV :=
  match ok, r with
  | true, some e => .tup [e.2, .s (.bool true)]
  | true, none => .tup [z, .s (.bool false)]
  | false, some e => e.2
  | false, none => z
theorem Ht {T : Nat -> Nat -> Prop} {x : AV} {v : Value} (b : Bool) (h : VRel w T x v) : VRel w T (.tup [x, .s (.bool b)]) (.tuple #[v, .bool b]) :=
  xn (Reads.cons h (Reads.cons (.s _) Reads.nil))
theorem Cp {T : Nat -> Nat -> Prop} {x y : AV} {vs : List Value} (h : Reads w T [x, y] vs) : ∃ u v, vs = [u, v] /\ VRel w T x u /\ VRel w T y v := by
  obtain ⟨h1, h2⟩ := h
  match vs, h1 with
  | [u, v], _ => exact ⟨u, v, rfl, h2 0 x u rfl rfl, h2 1 y v rfl rfl⟩
theorem I3 {T : Nat -> Nat -> Prop} {x y z : AV} {vs : List Value} (h : Reads w T [x, y, z] vs) : ∃ u v t, vs = [u, v, t] /\ VRel w T x u /\ VRel w T y v /\ VRel w T z t := by
  obtain ⟨h1, h2⟩ := h
  match vs, h1 with
  | [u, v, t], _ => exact ⟨u, v, t, rfl, h2 0 x u rfl rfl, h2 1 y v rfl rfl, h2 2 z t rfl rfl⟩
theorem Ba {T : Nat -> Nat -> Prop} {x : AV} {vs : List Value} (h : Reads w T [x] vs) : ∃ u, vs = [u] /\ VRel w T x u := by
  obtain ⟨h1, h2⟩ := h
  match vs, h1 with
  | [u], _ => exact ⟨u, rfl, h2 0 x u rfl rfl⟩
theorem jj {o : Oper} {t kt e : TypeId} {x ix : Operand} {ok : Bool} (ho : o.op = .lookup t x ix ok) {it ie ik : TI} (hit : c.I t = some it) (hty : it.ty = .map kt e) (hie : c.I e = some ie) (hik : c.I kt = some ik)
    {m clk : Nat} {es : List (AV × AV)} {bs : List Nat} {k : AV} (hm : st.obj m = some (.map es bs clk)) (hk : Bg c.I kt k = true) (q : AV × AV -> Bool) (hq : ∀ e ∈ es, ji c.I 5 kt k e.1 = some (q e))
    {R : AV -> Store -> Prop} (h : R (j8 ok (x8 ie) (es.find? q)) st) : AEff P c o [.s (.map (some m)), k] st R := by
  refine ⟨fun Oth M w ρ hI sto hr => ?_⟩
  rw [ho] at hr
  have hr : Reads w (fun b o => M b o \/ Oth b o) [.s (.map (some m)), k] [ρ x, ρ ix] := by simpa [Op.operands] using hr
  obtain ⟨u, v, he, h1, h2⟩ := Cp hr
  simp only [List.cons.injEq, and_true] at he
  obtain ⟨hu, hv⟩ := he
  rw [<- hu] at h1
  rw [<- hv] at h2
  have h1 := VRel.eq_s h1
  obtain ⟨⟨ms, g1, g2, g3, g4⟩, hM⟩ := sto.obj m _ hm
  obtain ⟨r, r1, r2⟩ := G2 (kt := kt) (k := k) (kv := ρ ix) hI h2 q (es := es) (ms := ms.toList) (by omega) (fun i x y hx hy => (g3 i x y hx (by grind)).1) hq (by grind)
  obtain ⟨z, z1, z2⟩ := Mp (hI _ _ hie) w (fun b o => M b o \/ Oth b o)
  have hck := Hb hI hk h2 ms.isEmpty
  have hu := zm (P := P) (wb (hI _ _ hit) hty)
  have done : ∀ val : Value, VRel w (fun b o => M b o \/ Oth b o) (j8 ok (x8 ie) (es.find? q)) val -> (execOp ρ o).run P w = .ok (.value val) w ->
      match (execOp ρ o).run P w with
      | .ok (.value v) w' => yi st R Oth M w v w'
      | .ok .skip w' => o.dst = none /\ yi st R Oth M w (.tuple #[]) w'
      | _ => False := by
    intro val hval hrun
    rw [hrun]
    exact ⟨_, st, M, h, hval, sto, Chg.refl _ _⟩
  rcases r2 with ⟨rfl, r3⟩ | ⟨i, en, me, rfl, r3, r4, r5, r6⟩
  · rw [zb3 r3] at done
    cases ok with
    | true => exact done _ (Ht false z2) (by simp [execOp, ho, Instr.lookup, hu, h1, xy g1, hck, r1, z1])
    | false => exact done _ z2 (by simp [execOp, ho, Instr.lookup, hu, h1, xy g1, hck, r1, z1])
  · have hval := (g3 i en me r4 (by grind)).2
    rw [Lb r3 r4] at done
    cases ok with
    | true => exact done _ (Ht true hval) (by simp [execOp, ho, Instr.lookup, hu, h1, xy g1, hck, r1])
    | false => exact done _ hval (by simp [execOp, ho, Instr.lookup, hu, h1, xy g1, hck, r1])
/-- A key whose value is told. -/
def Gn : AV -> Bool
  | .s (.int _ _) => true
  | .s (.bool _) => true
  | .agg cs => cs.all fun | .s (.int _ _) => true | _ => false
  | _ => false
theorem Kp {T T' : Nat -> Nat -> Prop} {w' : World} {k : AV} {u v : Value} (hk : Gn k = true) (hu : VRel w T k u) (hv : VRel w' T' k v) : u = v /\ ∀ n, Instr.sameBits (n + 1) u u = true := by
  unfold Gn at hk
  split at hk
  · rw [VRel.eq_s hu, VRel.eq_s hv]; simp_all[Instr.sameBits]
  · rw [VRel.eq_s hu, VRel.eq_s hv]; simp_all[Instr.sameBits]
  · rename_i cs
    obtain ⟨c1, rfl, h1⟩ := j0 hu
    obtain ⟨c2, rfl, h2⟩ := j0 hv
    have hint : ∀ (i : Nat) (y : AV), cs[i]? = some y -> ∃ k n, y = .s (.int k n) := by
      intro i y hy
      have := List.all_eq_true.1 hk y (List.mem_of_getElem? hy)
      grind
    have heq : c1 = c2 := by
      apply Array.ext_getElem?
      intro i
      have e1 := h1.1
      have e2 := h2.1
      simp only [Array.length_toList] at e1 e2
      by_cases hi : i < cs.length
      · obtain ⟨k, n, hy⟩ := hint i cs[i] (List.getElem?_eq_getElem hi)
        have h3 := h1.2 i cs[i] c1[i] (List.getElem?_eq_getElem hi) (by simp)
        have h4 := h2.2 i cs[i] c2[i] (List.getElem?_eq_getElem hi) (by simp)
        grind[VRel.eq_s]
      grind
    refine ⟨by rw [heq], fun n => ?_⟩
    have hall : ∀ y ∈ c1.toList, ∃ k n, y = .int k n := by
      intro y hy
      obtain ⟨i, hi, rfl⟩ := List.getElem_of_mem hy
      have hi' : i < cs.length := by rw [h1.1]; exact hi
      obtain ⟨k, n, hx⟩ := hint i cs[i] (List.getElem?_eq_getElem hi')
      have h3 := h1.2 i cs[i] _ (List.getElem?_eq_getElem hi') (List.getElem?_eq_getElem hi)
      grind[VRel.eq_s]
    rw [Instr.sameBits]
    simp only [beq_self_eq_true, Bool.true_and]
    generalize c1.toList = L at hall
    clear heq h1 h2 hu hv
    induction L with
    | nil => simp
    | cons a L ih =>
      obtain ⟨k, m, rfl⟩ := hall a (by simp)
      simp_all[Instr.sameBits]
  grind
/-- The entries with one turned, or one more. -/
def qs (es : List (AV × AV)) (bs : List Nat) (clk : Nat) (q : AV × AV -> Bool) (k v : AV) : AObj :=
  match es.findIdx? q with
  | some i => .map (es.set i (k, v)) bs clk
  | none => .map (es ++ [(k, v)]) (bs ++ [clk]) (clk + 1)
theorem v7 {o : Oper} {t kt e : TypeId} {x ix y : Operand} (ho : o.op = .mapUpdate t x ix y \/ o.op = .insert t x ix y) (hd : o.dst = none) {it ik : TI} (hit : c.I t = some it) (hty : it.ty = .map kt e) (hik : c.I kt = some ik)
    {m clk : Nat} {es : List (AV × AV)} {bs : List Nat} {k v : AV} (hm : st.obj m = some (.map es bs clk)) (hk : Bg c.I kt k = true) (hdet : Gn k = true) (q : AV × AV -> Bool) (hq : ∀ e ∈ es, ji c.I 5 kt k e.1 = some (q e))
    (hsame : ∀ e ∈ es, q e = true -> e.1 = k) {R : AV -> Store -> Prop} (h : R (.tup []) (st.setObj m (qs es bs clk q k v))) : AEff P c o [.s (.map (some m)), k, v] st R := by
  refine ⟨fun Oth M w ρ hI sto hr => ?_⟩
  have hops : o.op.operands = #[x, ix, y] := by rcases ho with ho | ho <;> rw [ho] <;> rfl
  rw [hops] at hr
  have hr : Reads w (fun b o => M b o \/ Oth b o) [.s (.map (some m)), k, v] [ρ x, ρ ix, ρ y] := by grind
  obtain ⟨u, v', t', he, h1, h2, h3⟩ := I3 hr
  simp only [List.cons.injEq, and_true] at he
  obtain ⟨hu, hv, ht'⟩ := he
  rw [<- hu] at h1
  rw [<- hv] at h2
  rw [<- ht'] at h3
  have h1 := VRel.eq_s h1
  obtain ⟨⟨ms, g1, g2, g3, g4, g5, g6⟩, hM⟩ := sto.obj m _ hm
  obtain ⟨r, r1, r2⟩ := G2 (kt := kt) (k := k) (kv := ρ ix) hI h2 q (es := es) (ms := ms.toList) (by omega) (fun i x y hx hy => (g3 i x y hx (by grind)).1) hq (by grind)
  have hck := Hb hI hk h2 false
  have hund := zm (P := P) (wb (hI _ _ hit) hty)
  have done : ∀ w', (execOp ρ o).run P w = .ok .skip w' -> (StoreOK (st.setObj m (qs es bs clk q k v)) Oth M w' /\ Chg M w M w') ->
      match (execOp ρ o).run P w with
      | .ok (.value v) w' => yi st R Oth M w v w'
      | .ok .skip w' => o.dst = none /\ yi st R Oth M w (.tuple #[]) w'
      | _ => False := by
    intro w' hrun hok
    rw [hrun]
    exact ⟨hd, _, _, M, h, xn Reads.nil, hok.1, hok.2⟩
  have hexec : (execOp ρ o).run P w = ((Instr.mapUpdate t (ρ x) (ρ ix) (ρ y)).run P w).andThen fun _ w' => .ok .skip w' := by
    rcases ho with ho | ho <;> simp [execOp, ho]
  rcases r2 with ⟨rfl, r3⟩ | ⟨i, en, me, rfl, r3, r4, r5, r6⟩
  · refine done { w with heap := w.heap.setIfInBounds m (.map (ms.push { key := ρ ix, val := ρ y, born := clk }) (clk + 1)) } ?_ ?_
    · rw [hexec]
      simp [Instr.mapUpdate, hund, h1, xy g1, hck, r1, Ck _ g1]
    · refine At sto hm g1 trivial trivial ?_
      unfold qs
      rw [r3]
      have hkp := vr (new := .map (ms.push { key := ρ ix, val := ρ y, born := clk }) (clk + 1)) g1 trivial trivial (fun b o => M b o \/ Oth b o)
      refine ⟨_, Bm _ g1, by simp [g2], fun i x' y' hx hy => ?_, by simp [g4], fun t ht => ?_, ?_⟩
      · by_cases hi : i < es.length
        · rw [List.getElem?_append_left hi] at hx
          rw [Array.getElem?_push_lt (by omega)] at hy
          have hy : ms[i]? = some y' := by grind
          exact ⟨(g3 i x' y' hx hy).1.keep hkp, (g3 i x' y' hx hy).2.keep hkp⟩
        · rw [List.getElem?_append_right (by omega)] at hx
          have hi2 : i = es.length := by grind
          subst hi2
          rw [g2, Array.getElem?_push_size] at hy
          simp at hx hy
          subst hx hy
          exact ⟨h2.keep hkp, h3.keep hkp⟩
      · grind
      grind
  · have hme : ms[i]? = some me := by grind
    have hkey : me.key = ρ ix := by grind[Kp]
    have hsb := (Kp hdet h2 h2).2 9999
    have hstay : (Instr.keyThatStays (((ms[i]?).map (·.key)).getD (ρ ix)) (ρ ix)).run P w = .ok (ρ ix) w := by simp_all[Instr.keyThatStays]
    refine done { w with heap := w.heap.setIfInBounds m (.map (ms.modify i fun e => { e with key := ρ ix, val := ρ y }) clk) } ?_ ?_
    · rw [hexec]
      simp only [Instr.mapUpdate, Sem.run_bind, hund, Result.andThen_ok, h1, xy g1, hck, r1, hstay, Ck _ g1]
    · refine At sto hm g1 trivial trivial ?_
      unfold qs
      rw [r3]
      have hkp := vr (new := .map (ms.modify i fun e => { e with key := ρ ix, val := ρ y }) clk) g1 trivial trivial (fun b o => M b o \/ Oth b o)
      refine ⟨_, Bm _ g1, by simp [g2], fun j x' y' hx hy => ?_, ?_, g5, g6⟩
      · rw [Array.getElem?_modify] at hy
        by_cases hij : i = j
        · subst hij
          rw [if_pos rfl, hme] at hy
          simp at hy
          rw [List.getElem?_set_self (List.getElem?_eq_some_iff.1 r4).1] at hx
          simp at hx
          subst hx hy
          exact ⟨h2.keep hkp, h3.keep hkp⟩
        · rw [if_neg hij] at hy
          rw [List.getElem?_set_ne hij] at hx
          exact ⟨(g3 j x' y' hx hy).1.keep hkp, (g3 j x' y' hx hy).2.keep hkp⟩
      · rw [g4]
        apply List.ext_getElem?
        grind
end
section
variable {P : Program} {c : Cfg} {w : World} {st : Store} {Oth M : Nat -> Nat -> Prop}
/-- A new object that is no row of cells. -/
theorem Gf (sto : StoreOK st Oth M w) (new : Obj) {y : AObj} (hy : ObjRel (w.alloc new) (fun b o => qj M w.heap.size b o \/ Oth b o) y w.heap.size) :
    Fresh st w.heap.size /\ StoreOK (st.setObj w.heap.size y) Oth (qj M w.heap.size) (w.alloc new) /\ Chg M w (qj M w.heap.size) (w.alloc new) := by
  refine ⟨sto.fresh (Nat.le_refl _), ?_, vy w new M⟩
  have h := sto.alloc new
  refine { obj := fun b z hz => ?_, tok := h.tok, mlt := h.mlt, olt := h.olt, dis := h.dis }
  by_cases hb : b = w.heap.size
  · subst hb
    rw [zc] at hz
    cases hz
    exact ⟨hy, fun o => .inr rfl⟩
  · rw [zj hb] at hz
    exact h.obj b z hz
theorem D8 {o : Oper} {t : TypeId} (ho : o.op = .makeMap t none) {R : AV -> Store -> Prop}
    (h : ∀ b, Fresh st b -> R (.s (.map (some b))) (st.setObj b (.map [] [] 0))) : AEff P c o [] st R := by
  refine ⟨fun Oth M w ρ hI sto hr => ?_⟩
  have hrun : (execOp ρ o).run P w = .ok (.value (.map (some w.heap.size))) (w.alloc (.map #[] 0)) := by
    simp [execOp, ho, Instr.makeMap]
  rw [hrun]
  obtain ⟨h1, h2, h3⟩ := Gf sto (.map #[] 0) (y := .map [] [] 0) ⟨#[], ww w _, rfl, fun i x y hx => by simp, rfl, by simp, List.Pairwise.nil⟩
  exact ⟨_, _, _, h _ h1, .s _, h2, h3⟩
/-- The entries with one less. -/
def jq (es : List (AV × AV)) (bs : List Nat) (clk : Nat) (q : AV × AV -> Bool) : AObj :=
  match es.findIdx? q with
  | some i => .map (es.eraseIdx i) (bs.eraseIdx i) clk
  | none => .map es bs clk
theorem getElem?_eraseIdx' {α : Type} (l : List α) (i j : Nat) : (l.eraseIdx i)[j]? = if j < i then l[j]? else l[j + 1]? := List.getElem?_eraseIdx
theorem Dr {α β : Type} (f : α -> β) : ∀ (l : List α) (i : Nat), (l.map f).eraseIdx i = (l.eraseIdx i).map f
  | [], _ => rfl
  | _ :: _, 0 => rfl
  | a :: l, i + 1 => by simp [Dr f l i]
theorem Hn {o : Oper} {cl : Call} {t kt e : TypeId} {x ix : Operand} (ho : o.op = .call cl) (hcl : cl.callee = .builtin .delete) (hargs : cl.args = #[x, ix]) (hat : cl.argTypes[0]? = some t)
    {it ik : TI} (hit : c.I t = some it) (hty : it.ty = .map kt e) (hik : c.I kt = some ik)
    {m clk : Nat} {es : List (AV × AV)} {bs : List Nat} {k : AV} (hm : st.obj m = some (.map es bs clk)) (hk : Bg c.I kt k = true) (q : AV × AV -> Bool) (hq : ∀ e ∈ es, ji c.I 5 kt k e.1 = some (q e))
    {R : AV -> Store -> Prop} (h : R (.tup []) (st.setObj m (jq es bs clk q))) : AEff P c o [.s (.map (some m)), k] st R := by
  refine ⟨fun Oth M w ρ hI sto hr => ?_⟩
  have hops : o.op.operands = #[x, ix] := by grind[Op.operands,Call.operands]
  rw [hops] at hr
  have hr : Reads w (fun b o => M b o \/ Oth b o) [.s (.map (some m)), k] [ρ x, ρ ix] := by grind
  obtain ⟨u, v', he, h1, h2⟩ := Cp hr
  simp only [List.cons.injEq, and_true] at he
  obtain ⟨hu, hv⟩ := he
  rw [<- hu] at h1
  rw [<- hv] at h2
  have h1 := VRel.eq_s h1
  obtain ⟨⟨ms, g1, g2, g3, g4, g5, g6⟩, hM⟩ := sto.obj m _ hm
  obtain ⟨r, r1, r2⟩ := G2 (kt := kt) (k := k) (kv := ρ ix) hI h2 q (es := es) (ms := ms.toList) (by omega) (fun i x y hx hy => (g3 i x y hx (by grind)).1) hq (by grind)
  have hck := Hb hI hk h2 ms.isEmpty
  have hund := zm (P := P) (wb (hI _ _ hit) hty)
  have hexec : (execOp ρ o).run P w = ((Builtin.delete_ cl.argTypes o.type #[ρ x, ρ ix]).run P w).andThen fun v w' => .ok (.value v) w' := by simp_all[execOp,resolve,invoke,builtin]
  have done : ∀ w', (execOp ρ o).run P w = .ok (.value (.tuple #[])) w' -> (StoreOK (st.setObj m (jq es bs clk q)) Oth M w' /\ Chg M w M w') ->
      match (execOp ρ o).run P w with
      | .ok (.value v) w' => yi st R Oth M w v w'
      | .ok .skip w' => o.dst = none /\ yi st R Oth M w (.tuple #[]) w'
      | _ => False := by
    intro w' hrun hok
    rw [hrun]
    exact ⟨_, _, M, h, xn Reads.nil, hok.1, hok.2⟩
  rcases r2 with ⟨rfl, r3⟩ | ⟨i, en, me, rfl, r3, r4, r5, r6⟩
  · refine done { w with heap := w.heap.setIfInBounds m (.map ms clk) } ?_ ?_
    · rw [hexec]
      simp [Builtin.delete_, hat, hund, h1, xy g1, hck, r1, Ck _ g1]
    · refine At sto hm g1 trivial trivial ?_
      unfold jq
      rw [r3]
      have hkp := vr (new := .map ms clk) g1 trivial trivial (fun b o => M b o \/ Oth b o)
      exact ⟨_, Bm _ g1, g2, fun i x' y' hx hy => ⟨(g3 i x' y' hx hy).1.keep hkp, (g3 i x' y' hx hy).2.keep hkp⟩, g4, g5, g6⟩
  · refine done { w with heap := w.heap.setIfInBounds m (.map (ms.eraseIdxIfInBounds i) clk) } ?_ ?_
    · rw [hexec]
      simp [Builtin.delete_, hat, hund, h1, xy g1, hck, r1, Ck _ g1]
    · refine At sto hm g1 trivial trivial ?_
      unfold jq
      rw [r3]
      have hkp := vr (new := .map (ms.eraseIdxIfInBounds i) clk) g1 trivial trivial (fun b o => M b o \/ Oth b o)
      have hi : i < ms.size := by grind
      have htl : (ms.eraseIdxIfInBounds i).toList = ms.toList.eraseIdx i := by simp
      have hsub : (bs.eraseIdx i).Sublist bs := List.eraseIdx_sublist ..
      refine ⟨_, Bm _ g1, ?_, fun j x' y' hx hy => ?_, ?_, fun t ht => g5 t (hsub.subset ht), g6.sublist hsub⟩
      · grind
      · have hy : (ms.toList.eraseIdx i)[j]? = some y' := by grind
        rw [getElem?_eraseIdx'] at hx hy
        by_cases hj : j < i
        · rw [if_pos hj] at hx hy
          have := g3 j x' y' hx (by grind)
          exact ⟨this.1.keep hkp, this.2.keep hkp⟩
        · rw [if_neg hj] at hx hy
          have := g3 (j + 1) x' y' hx (by grind)
          exact ⟨this.1.keep hkp, this.2.keep hkp⟩
      · rw [htl, g4, Dr]
theorem zer {o : Oper} {t kt e : TypeId} {x : Operand} (ho : o.op = .range t x) {it : TI} (hit : c.I t = some it) (hty : it.ty = .map kt e)
    {m clk : Nat} {es : List (AV × AV)} {bs : List Nat} (hm : st.obj m = some (.map es bs clk)) {R : AV -> Store -> Prop}
    (h : ∀ b, Fresh st b -> R (.s (.pointer (some ⟨b, 0, none⟩))) (st.setObj b (.iter m clk [] clk))) : AEff P c o [.s (.map (some m))] st R := by
  refine ⟨fun Oth M w ρ hI sto hr => ?_⟩
  rw [ho] at hr
  have hr : Reads w (fun b o => M b o \/ Oth b o) [.s (.map (some m))] [ρ x] := by simpa [Op.operands] using hr
  obtain ⟨u, he, h1⟩ := Ba hr
  simp only [List.cons.injEq, and_true] at he
  rw [<- he] at h1
  have h1 := VRel.eq_s h1
  obtain ⟨⟨ms, g1, g2⟩, hM⟩ := sto.obj m _ hm
  have hund := zm (P := P) (wb (hI _ _ hit) hty)
  have hrun : (execOp ρ o).run P w = .ok (.value (.pointer (some ⟨w.heap.size, 0, none⟩))) (w.alloc (.mapIter (some m) clk #[] clk)) := by
    simp [execOp, ho, Instr.range, hund, h1, xy g1]
  rw [hrun]
  obtain ⟨h2, h3, h4⟩ := Gf sto (.mapIter (some m) clk #[] clk) (y := .iter m clk [] clk) (ww w _)
  exact ⟨_, _, _, h _ h2, .s _, h3, h4⟩
theorem r7 (n : Nat) (hn : 0 < n) (w : World) : ∃ i w', i < n /\ Grow w w' /\ w'.heap = w.heap /\ (choose (.mapNext n)).run P w = .ok i w' := by
  by_cases h1 : n <= 1
  · refine ⟨0, w, hn, Grow.refl w, rfl, ?_⟩
    simp_all[Question.forced]
  · refine ⟨w.tape w.drawn (.mapNext n) % n, w.drew, Nat.mod_lt _ hn, Grow.drew w, rfl, ?_⟩
    simp only [choose, Sem.run]
    rw [if_neg (by simpa [Question.forced] using h1)]
    rfl
theorem zes {o : Oper} {x : Operand} (ho : o.op = .next x false)
    {b m clk : Nat} {es : List (AV × AV)} {bs seen : List Nat} (hb : st.obj b = some (.iter m clk seen clk)) (hm : st.obj m = some (.map es bs clk)) {R : AV -> Store -> Prop}
    (h1 : (∀ t ∈ bs, t ∈ seen) -> R (.tup [.s (.bool false)]) st)
    (h2 : ∀ (i : Nat) (e : AV × AV) (t : Nat), es[i]? = some e -> bs[i]? = some t -> t ∉ seen -> R (.tup [.s (.bool true), e.1, e.2]) (st.setObj b (.iter m clk (seen ++ [t]) clk))) : AEff P c o [.s (.pointer (some ⟨b, 0, none⟩))] st R := by
  refine ⟨fun Oth M w ρ hI sto hr => ?_⟩
  rw [ho] at hr
  have hr : Reads w (fun b o => M b o \/ Oth b o) [.s (.pointer (some ⟨b, 0, none⟩))] [ρ x] := by simpa [Op.operands] using hr
  obtain ⟨u, he, hx⟩ := Ba hr
  simp only [List.cons.injEq, and_true] at he
  rw [<- he] at hx
  have hx := VRel.eq_s hx
  obtain ⟨⟨ms, g1, g2, g3, g4, g5, g6⟩, hM⟩ := sto.obj m _ hm
  obtain ⟨hit, hMb⟩ := sto.obj b _ hb
  have hit : w.heap[b]? = some (.mapIter (some m) clk seen.toArray clk) := hit
  have born : ∀ y ∈ ms, y.born < clk := fun y hy => g5 _ (by grind)
  have hall : (!seen.toArray.isEmpty && !ms.isEmpty && ms.all (fun e => decide (e.born >= clk))) = false := by
    cases hms : ms.isEmpty with
    | true => simp
    | false =>
      have hne : 0 < ms.size := by grind
      grind
  have hnew : (Array.filter (fun e => !seen.toArray.contains e.born) ms).filter (fun e => decide (e.born >= clk)) = #[] := by grind[Array.filter_eq_empty_iff]
  have hold : (Array.filter (fun e => !seen.toArray.contains e.born) ms).filter (fun e => decide (e.born < clk)) = Array.filter (fun e => !seen.toArray.contains e.born) ms := by grind[Array.filter_eq_self]
  have hgo : (getObj b).run P w = .ok (.mapIter (some m) clk seen.toArray clk) w := by simp [getObj, Sem.run, hit]
  generalize hleft : Array.filter (fun e => !seen.toArray.contains e.born) ms = left at hnew hold
  have hlm : ∀ y ∈ left, y ∈ ms /\ y.born ∉ seen := by grind
  let cands : Array (Option MapEntry) := (if left.isEmpty then #[none] else #[]) ++ (left ++ #[]).map some
  have hcs : 0 < cands.size := by grind
  obtain ⟨i, w1, hi, hg, hheap, hch⟩ := r7 (P := P) cands.size hcs w
  have hexec : (execOp ρ o).run P w = ((Instr.next (ρ x) false o.type).run P w).andThen fun v w' => .ok (.value v) w' := by
    simp [execOp, ho]
  cases hl : left.isEmpty with
  | true =>
    have hc0 : cands = #[none] := by
      have : left = #[] := by simpa using hl
      simp [cands, this]
    have hi0 : i = 0 := by rw [hc0] at hi; simpa using hi
    have hrun : (execOp ρ o).run P w = .ok (.value (.tuple #[.bool false])) w1 := by
      rw [hexec]
      simp only [Instr.next, hx, Sem.run_bind, hgo, Result.andThen_ok, xy g1, hall, Bool.false_eq_true, if_false, hleft, hold, hnew, Sem.run_pure]
      show ((((choose (.mapNext cands.size)).run P w).andThen _).andThen _) = _
      rw [hch]
      simp only [Result.andThen_ok]
      rw [show ((if left.isEmpty = true then #[none] else #[]) ++ Array.map some (left ++ #[]) : Array (Option MapEntry)) = cands from rfl, hc0, hi0]
      simp
    rw [hrun]
    refine ⟨_, st, M, h1 fun t ht => ?_, xn (Reads.cons (.s _) Reads.nil), sto.grow hg, hg.chg M⟩
    rw [g4] at ht
    obtain ⟨y, hy, rfl⟩ := List.mem_map.1 ht
    have hle : left = #[] := by simpa using hl
    rw [<- hleft, Array.filter_eq_empty_iff] at hle
    have := hle _ (Array.mem_toList_iff.1 hy)
    simpa using this
  | false =>
    have hce : cands = left.map some := by simp [cands, hl]
    have hil : i < left.size := by rw [hce] at hi; simpa using hi
    have hcg : cands[i]? = some (some left[i]) := by rw [hce]; simp [hil]
    have hgo1 : w1.heap[b]? = some (.mapIter (some m) clk seen.toArray clk) := by rw [hheap]; exact hit
    have hset : ∀ ob : Obj, (setObj b ob).run P w1 = .ok () { w1 with heap := w1.heap.setIfInBounds b ob } := fun ob => by simp [setObj, Sem.run, hgo1]
    have hrun : (execOp ρ o).run P w = .ok (.value (.tuple #[.bool true, left[i].key, left[i].val])) { w1 with heap := w1.heap.setIfInBounds b (.mapIter (some m) clk (seen.toArray.push left[i].born) clk) } := by
      rw [hexec]
      simp only [Instr.next, hx, Sem.run_bind, hgo, Result.andThen_ok, xy g1, hall, Bool.false_eq_true, if_false, hleft, hold, hnew, Sem.run_pure]
      show ((((choose (.mapNext cands.size)).run P w).andThen _).andThen _) = _
      rw [hch]
      simp only [Result.andThen_ok]
      rw [show ((if left.isEmpty = true then #[none] else #[]) ++ Array.map some (left ++ #[]) : Array (Option MapEntry)) = cands from rfl, hcg]
      simp only [Sem.run_bind, hset, Result.andThen_ok, Sem.run_pure]
    rw [hrun]
    obtain ⟨hlm1, hlm2⟩ := hlm left[i] (by simp)
    obtain ⟨j, hj, hje⟩ := Array.mem_iff_getElem.1 hlm1
    have hjs : j < es.length := by omega
    have hms : ms[j]? = some left[i] := by rw [Array.getElem?_eq_getElem hj, hje]
    have hrel := g3 j es[j] left[i] (List.getElem?_eq_getElem hjs) hms
    have hbs : bs[j]? = some left[i].born := by
      rw [g4, List.getElem?_map, Array.getElem?_toList, hms]; rfl
    have sto1 := sto.grow hg
    have hk1 := hg.keeps (fun b o => M b o \/ Oth b o)
    have hk2 := vr (new := .mapIter (some m) clk (seen.toArray.push left[i].born) clk) hgo1 trivial trivial (fun b o => M b o \/ Oth b o)
    obtain ⟨s1, s2⟩ := At (y := .iter m clk (seen ++ [left[i].born]) clk) sto1 hb hgo1 trivial trivial (new := .mapIter (some m) clk (seen.toArray.push left[i].born) clk) (by
      show _ = _
      rw [Bm _ hgo1]
      simp)
    exact ⟨_, _, M, h2 j es[j] left[i].born (List.getElem?_eq_getElem hjs) hbs hlm2,
      xn (Reads.cons (.s _) (Reads.cons ((hrel.1.keep hk1).keep hk2) (Reads.cons ((hrel.2.keep hk1).keep hk2) Reads.nil))), s1, (hg.chg M).trans s2⟩
end
section
variable {P : Program} {c : Cfg} {w : World} {st : Store} {Oth M : Nat -> Nat -> Prop}
/-- Cells of an object are stored. -/
theorem kl (sto : StoreOK st Oth M w) {b o : Nat} {l xs : List AV} {vs : List Value} {w' : World} (hk : st.obj b = some (.cells l))
    (hx : Reads w (fun b o => M b o \/ Oth b o) xs vs) (hw : Wrote w b o vs w') : StoreOK (st.setObj b (.cells (z6 l o xs))) Oth M w' /\ Chg M w M w' := by
  have hM := (sto.obj b _ hk).2
  have hT : ∀ o, M b o \/ Oth b o := fun o => .inl (hM o)
  refine ⟨{ obj := fun b' x hx' => ?_, tok := fun b' top ht => ?_, mlt := fun b' o' hm => ?_, olt := fun b' o' hm => ?_, dis := sto.dis }, hw.chg hM⟩
  · by_cases he : b' = b
    · subst he
      rw [zc] at hx'
      cases hx'
      exact ⟨CellsRel.wrote hw hT (sto.obj b' _ hk).1 hx, hM⟩
    · rw [zj he] at hx'
      exact ⟨ObjRel.same (sto.obj b' x hx').1 (hw.keeps hT) (hw.other b' he), (sto.obj b' x hx').2⟩
  · obtain ⟨c, e, fr, h1, h2, h3, h4⟩ := sto.tok b' top ht
    by_cases he : b' = b
    · subst he
      obtain ⟨c', h5, _, h6⟩ := hw.blk c e fr h1
      grind
    · exact ⟨c, e, fr, by rw [hw.other b' he]; exact h1, h2, h3, h4⟩
  · rw [hw.size]; exact sto.mlt b' o' hm
  · rw [hw.size]; exact sto.olt b' o' hm
/-- A new row of cells. -/
theorem ws (sto : StoreOK st Oth M w) (cs : Array Value) (e : TypeId) {l : List AV} (h : Reads w (fun b o => M b o \/ Oth b o) l cs.toList) :
    Fresh st w.heap.size /\ StoreOK (st.setObj w.heap.size (.cells l)) Oth (qj M w.heap.size) (w.alloc (.cells cs e)) /\ Chg M w (qj M w.heap.size) (w.alloc (.cells cs e)) :=
  Gf sto (.cells cs e) (y := .cells l) (Br w e M Oth h)
theorem zb1 {T : Nat -> Nat -> Prop} {b n cap k : Nat} {l : List AV} (h : CellsRel w T l b) (hn : n * k <= l.length) :
    ∃ new : Array Value, Reads w T (l.take (n * k)) new.toList /\ new.size = n * k /\ ∀ w', w'.heap = w.heap -> (Builtin.firstCells k n (.slice (some ⟨b, 0, none⟩) n cap)).run P w' = .ok new w' := by
  obtain ⟨c, e, fr, h1, h2, h3, h4⟩ := h
  have hsz : n * k <= c.size := by omega
  refine ⟨((List.range' 0 (n * k)).map fun i => c.getD i undef).toArray, ?_, by simp, fun w' hw => ?_⟩
  · refine ⟨by grind, fun i x y hx hy => ?_⟩
    have hi : i < n * k := by grind
    rw [List.getElem?_take_of_lt hi] at hx
    simp [hi] at hy
    grind
  · have := Ax (P := P) ⟨b, 0, none⟩ w' (fun i => c.getD i undef) (n * k) 0 #[] (fun p _ hp => by
      rw [qv, Gt hw]
      simp only [World.cell?, h1]
      have : p < c.size := by omega
      simp [this])
    grind[Builtin.firstCells,loadCells]
theorem ug {T : Nat -> Nat -> Prop} {xs : List AV} {vs : List Value} (h : Reads w T xs vs) (h1 : ∀ x ∈ xs, x.one = true) : ∀ v ∈ vs, yk v = true := by
  intro v hv
  obtain ⟨i, hi⟩ := List.mem_iff_getElem?.1 hv
  have hlt : i < xs.length := by rw [h.1]; grind
  exact Ge (h.2 i xs[i] v (List.getElem?_eq_getElem hlt) hi) (h1 _ (List.getElem_mem hlt))
/-- An append to a slice over an object. -/
theorem Mh {e : TypeId} {ie : TI} (hie : c.I e = some ie) {b n cap : Nat} {l : List AV} {x : AV} {rows : List (List AV)} (ho : st.obj b = some (.cells l)) (hcap : cap * ie.size <= l.length) (hn : n <= cap)
    (hx : xk ie.size (.av x) = some rows) (hroom : room (n + rows.length) ie.bytes) {K : AV -> Store -> Prop}
    (h1 : n + rows.length <= cap -> K (.s (.slice (some ⟨b, 0, none⟩) (n + rows.length) cap)) (st.setObj b (.cells (z6 l (n * ie.size) rows.flatten))))
    (h2 : cap < n + rows.length -> ∀ b' cap', Fresh st b' -> n + rows.length <= cap' -> cap' <= 9223372036854775807 -> K (.s (.slice (some ⟨b', 0, none⟩) (n + rows.length) cap')) (st.setObj b' (.cells (l.take (n * ie.size) ++ rows.flatten ++ List.replicate ((cap' - (n + rows.length)) * ie.size) .any)))) :
    AppX P c st e (.s (.slice (some ⟨b, 0, none⟩) n cap)) x K := by
  refine ⟨⟨ie, hie⟩, fun ie' hie' Oth M w sv xv argTypes ty args t sto hs hxv hat ht1 hu hti h0 h1' => ?_⟩
  rw [hie] at hie'
  cases hie'
  have hs := VRel.eq_s hs
  subst hs
  have A : AppArgs P c argTypes args t e ie (some ⟨b, 0, none⟩) n cap xv := ⟨hat, ht1, hu, hti, h0, h1'⟩
  obtain ⟨hl1, hl2, new, hnew, hone, hnsz, hfc⟩ := Fy (P := P) (β := fun _ => 0) (k := ie.size) (x := .av x) hxv hx
  have hnn : n * ie.size <= l.length := Nat.le_trans (Nat.mul_le_mul_right _ hn) hcap
  by_cases hc : n + rows.length <= cap
  · obtain ⟨⟨cs, e0, fr, hb0, huf, hlen, hrel⟩, hM⟩ := sto.obj b _ ho
    have hfit : n * ie.size + new.toList.length <= cs.size := by
      rw [Array.length_toList, hnsz, <- Nat.add_mul, <- hlen]
      exact Nat.le_trans (Nat.mul_le_mul_right _ hc) hcap
    obtain ⟨w', hw1, hw2⟩ := Cj (P := P) w b (n * ie.size) new.toList 0 w cs e0 fr hb0 (.inl huf) hfit hone
    have hrun := Hi (w' := w') ty A hl1 (hfc w rfl) hc (fun a ha => by
      cases ha
      rw [qv, Nat.zero_add]; exact hw1) (fun h => by cases h)
    obtain ⟨k1, k2⟩ := kl sto ho hnew hw2
    exact ⟨_, _, hrun, _, _, M, h1 hc, .s _, k1, k2⟩
  · have hc : cap < n + rows.length := by omega
    obtain ⟨old, hold1, hold2, hold3⟩ := zb1 (P := P) (cap := cap) (sto.obj b _ ho).1 hnn
    obtain ⟨newCap, rest, g1, g0, g2, g3⟩ := D5 ty A hl1 (hfc w.drew rfl) (hold3 w.drew rfl) hc hroom
    have gd : Grow w w.drew := Grow.drew w
    have sto1 := sto.grow gd
    obtain ⟨f1, f2, f3⟩ := ws sto1 (old ++ new ++ rest) e (l := l.take (n * ie.size) ++ rows.flatten ++ List.replicate rest.size .any) (by
      rw [Array.toList_append, Array.toList_append]
      refine ((hold1.append hnew).append ⟨by simp, fun i x y hx hy => ?_⟩).keep (gd.keeps _)
      rw [List.getElem?_replicate] at hx
      split at hx
      · cases hx; exact .any _
      grind)
    have e1 : w.drew.heap.size = w.heap.size := rfl
    rw [g2] at f2
    exact ⟨_, _, g3, _, _, _, h2 hc _ newCap f1 g1 g0, .s _, f2, (gd.chg M).trans f3⟩
/-- An append to no slice, that makes an object. -/
theorem Mi {e : TypeId} {ie : TI} (hie : c.I e = some ie) {x : AV} {rows : List (List AV)} (hx : xk ie.size (.av x) = some rows) (hroom : room rows.length ie.bytes) (hne : 0 < rows.length) {K : AV -> Store -> Prop}
    (h2 : ∀ b' cap', Fresh st b' -> rows.length <= cap' -> cap' <= 9223372036854775807 -> K (.s (.slice (some ⟨b', 0, none⟩) rows.length cap')) (st.setObj b' (.cells (rows.flatten ++ List.replicate ((cap' - rows.length) * ie.size) .any)))) :
    AppX P c st e (.s (.slice none 0 0)) x K := by
  refine ⟨⟨ie, hie⟩, fun ie' hie' Oth M w sv xv argTypes ty args t sto hs hxv hat ht1 hu hti h0 h1' => ?_⟩
  rw [hie] at hie'
  cases hie'
  have hs := VRel.eq_s hs
  subst hs
  have A : AppArgs P c argTypes args t e ie none 0 0 xv := ⟨hat, ht1, hu, hti, h0, h1'⟩
  obtain ⟨hl1, hl2, new, hnew, hone, hnsz, hfc⟩ := Fy (P := P) (β := fun _ => 0) (k := ie.size) (x := .av x) hxv hx
  obtain ⟨newCap, rest, g1, g0, g2, g3⟩ := D5 (old := #[]) ty A hl1 (hfc w.drew rfl) (by rfl) (by omega) (by grind)
  have gd : Grow w w.drew := Grow.drew w
  have sto1 := sto.grow gd
  obtain ⟨f1, f2, f3⟩ := ws sto1 (#[] ++ new ++ rest) e (l := rows.flatten ++ List.replicate rest.size .any) (by
    rw [Array.toList_append, Array.toList_append]
    refine ((show Reads w _ rows.flatten ([] ++ new.toList) from hnew).append ⟨by simp, fun i x y hx hy => ?_⟩).keep (gd.keeps _)
    rw [List.getElem?_replicate] at hx
    split at hx
    · cases hx; exact .any _
    grind)
  rw [g2] at f2
  simp only [Nat.zero_add] at g1 g3 f2
  exact ⟨_, _, g3, _, _, _, h2 _ newCap f1 g1 g0, .s _, f2, (gd.chg M).trans f3⟩
/-- A slice of kx over an object: its numbers, and how much room. -/
def Ints (st : Store) (v : AV) (ns : List Int) : Prop :=
  (v = .s (.slice none 0 0) /\ ns = []) \/ ∃ b cap L, v = .s (.slice (some ⟨b, 0, none⟩) ns.length cap) /\ st.obj b = some (.cells (ns.map (fun n => AV.s (.int .i64 n)) ++ L)) /\ ns.length <= cap /\ cap <= ns.length + L.length /\ cap <= 9223372036854775807
end
open Go.Proofs Go.Shelf Go.Sort Go.RowKit
section
variable {P : Program} {ρ : Ren} {w : World} {st : Store} {Oth M : Nat -> Nat -> Prop}
def vI (n : Int) : Value := .int .i64 n
def aI (n : Int) : AV := .s (.int .i64 n)
theorem jm (T : Nat -> Nat -> Prop) (ns : List Int) : Reads w T (ns.map aI) (ns.map vI) := by
  have := Reads.map_s (w := w) (T := T) (ns.map vI)
  rwa [List.map_map] at this
/-- A row that is put is a row that is stored. -/
theorem Hq {w : World} {b q : Nat} {c : Array Value} {e : TypeId} {fr : Nat × Nat} (hb : w.heap[b]? = some (.cells c e fr)) (ns : List Int) (hl : ns.length <= c.size) :
    Wrote w b 0 (ns.map vI) (putRow (Value.int .i64) (Sort.ahead w q) b 0 ns.toArray) where
  size := by simp
  other b' hne := by simp_all[putRow,mapBlock,Array.getElem?_modify,Ne.symm]
  blk c' e' fr' h := by
    rw [hb] at h
    cases h
    refine ⟨putCells (Value.int .i64) 0 ns.toArray c, ?_, ?_, by simp [putCells]⟩
    · simp_all[putRow,mapBlock,Array.getElem?_modify,onCells]
    · apply List.ext_getElem?
      intro i
      simp only [putCells, Array.getElem?_toList, List.take_zero, List.nil_append, Nat.zero_add, List.length_map, Array.getElem?_mapIdx]
      by_cases hi : i < ns.length
      · grind[vI]
      grind
  tape := rfl
  os := rfl
  output := rfl
theorem za5 (w : World) (os : Array Obj) : Grow w (Sort.grow w os) where
  size := by simp
  blk b hb := by grind[Sort.grow]
  tape := rfl
  os := rfl
  output := rfl
/-- The numbers that an object holds in front. -/
theorem wv {T : Nat -> Nat -> Prop} {b : Nat} {ns : List Int} {L : List AV} (h : CellsRel w T (ns.map aI ++ L) b) :
    ∃ c e fr, w.heap[b]? = some (.cells c e fr) /\ fr.2 = fr.1 /\ ns.length + L.length = c.size /\ ∀ j, j < ns.length -> c[j]? = some (vI (ns.getD j 0)) := by
  obtain ⟨c, e, fr, h1, h2, h3, h4⟩ := h
  refine ⟨c, e, fr, h1, h2, by grind, fun j hj => ?_⟩
  have hlt : j < c.size := by grind
  have h5 := h4 j (aI ns[j]) c[j] (by grind) (by simp)
  rw [Array.getElem?_eq_getElem hlt, VRel.eq_s h5]
  simp [hj, vI]
theorem Ky {T : Nat -> Nat -> Prop} {b : Nat} {ns : List Int} {L : List AV} (h : CellsRel w T (ns.map aI ++ L) b) : Holds (Value.int .i64) w b 0 ns.toArray := by
  obtain ⟨c, e, fr, h1, h2, h3, h4⟩ := wv h
  intro j hj
  simp_all[World.cell?,vI,World.frozen?]
theorem Ie {xs l L : List AV} (h : xs.length = l.length) : z6 (l ++ L) 0 xs = xs ++ L := by simp_all[z6]
theorem wh {A B xs : List AV} {o : Nat} (h : A.length = o) : z6 (A ++ B) o xs = A ++ xs ++ B.drop xs.length := by grind[z6,List.take_left,List.drop_append]
theorem Mg {x : AV} {vs : Array Value} {T : Nat -> Nat -> Prop} (h : Reads w T [x] vs.toList) : ∃ v, vs = #[v] /\ VRel w T x v := by grind[Ba]
theorem zea {x y : AV} {vs : Array Value} {T : Nat -> Nat -> Prop} (h : Reads w T [x, y] vs.toList) : ∃ u v, vs = #[u, v] /\ VRel w T x u /\ VRel w T y v := by grind[Cp]
theorem Hh {x y z : AV} {vs : Array Value} {T : Nat -> Nat -> Prop} (h : Reads w T [x, y, z] vs.toList) : ∃ u v t, vs = #[u, v, t] /\ VRel w T x u /\ VRel w T y v /\ VRel w T z t := by grind[I3]
theorem C9 {v : AV} {ns : List Int} (h : Ints st v ns) : (v = .s (.slice none 0 0) /\ ns = []) \/ ∃ b cap L, v = .s (.slice (some ⟨b, 0, none⟩) ns.length cap) /\ st.obj b = some (.cells (ns.map aI ++ L)) /\ ns.length <= cap /\ cap <= ns.length + L.length /\ cap <= 9223372036854775807 := h
/-- slices.Sort. -/
theorem o7 (Ly : Lays.n189 P ρ) {fn : Func} {code : Code} (hf : P.funcs[ρ.f 189]? = some fn) (hb : fn.body = some code) (hname : (fn.name == "runtime.NumGoroutine") = false) {b cap : Nat} {ns : List Int} {L : List AV} (ho : st.obj b = some (.cells (ns.map aI ++ L)))
    (hlen : ns.length < 4611686018427387904) {R : AV -> Store -> Prop} (h : R (.tup []) (st.setObj b (.cells ((ns.mergeSort fun x y => decide (x <= y)).map aI ++ L)))) :
    ACalls P (ρ.f 189) [.s (.slice (some ⟨b, 0, none⟩) ns.length cap)] st R := by
  refine ACalls.of_calls hf hb hname fun Oth M w vs sto hr => ?_
  obtain ⟨v, rfl, hv⟩ := Mg hr
  cases hv
  have hobj := (sto.obj b _ ho).1
  obtain ⟨c, e, fr, h1, h2, h3, h4⟩ := wv hobj
  refine Calls.mono (Any.slices_Sort_int Ly b 0 cap ns w (Ky hobj) (vo h1) hlen) fun e' w' ⟨he, n, os, hw'⟩ => ⟨_, he, ?_⟩
  subst hw'
  have hsl : (ns.mergeSort fun x y => decide (x <= y)).length = ns.length := List.length_mergeSort ns
  have hw := Hq (q := n) h1 (ns.mergeSort fun x y => decide (x <= y)) (by omega)
  obtain ⟨k1, k2⟩ := kl sto ho (jm _ _) hw
  have hg := za5 (putRow (Value.int .i64) (Sort.ahead w n) b 0 (ns.mergeSort fun x y => decide (x <= y)).toArray) os
  refine ⟨.tup [], _, M, h, xn Reads.nil, ?_, k2.trans (hg.chg M)⟩
  rw [Ie (by simp)] at k1
  exact k1.grow hg
theorem o6 (Ly : Lays.n189 P ρ) {fn : Func} {code : Code} (hf : P.funcs[ρ.f 189]? = some fn) (hb : fn.body = some code) (hname : (fn.name == "runtime.NumGoroutine") = false) {R : AV -> Store -> Prop} (h : R (.tup []) st) :
    ACalls P (ρ.f 189) [.s (.slice none 0 0)] st R := by
  refine ACalls.of_calls hf hb hname fun Oth M w vs sto hr => ?_
  obtain ⟨v, rfl, hv⟩ := Mg hr
  cases hv
  refine Calls.mono (Any.slices_Sort_int_none Ly none 0 w) fun e' w' ⟨he, hw'⟩ => ⟨_, he, ?_⟩
  subst hw'
  exact ⟨.tup [], st, M, h, xn Reads.nil, sto, Chg.refl _ _⟩
/-- slices.BinarySearch. -/
theorem pg (Ly : Lays2.n25 P ρ) {fn : Func} {code : Code} (hf : P.funcs[ρ.f 25]? = some fn) (hb : fn.body = some code) (hname : (fn.name == "runtime.NumGoroutine") = false) {v : AV} {ns : List Int} (hv : Ints st v ns) (x : Int)
    (hlen : ns.length < 4611686018427387904) (hs : ns.Pairwise (· <= ·)) {R : AV -> Store -> Prop} (h : R (.tup [aI (ns.countP (· < x) : Nat), .s (.bool (ns.contains x))]) st) :
    ACalls P (ρ.f 25) [v, aI x] st R := by
  refine ACalls.of_calls hf hb hname fun Oth M w vs sto hr => ?_
  obtain ⟨u, t, rfl, hu, ht⟩ := zea hr
  cases ht
  rcases C9 hv with ⟨rfl, rfl⟩ | ⟨b, cap, L, rfl, ho, hc1, hc2⟩
  · cases hu
    refine Calls.mono (Any.slices_BinarySearch_int_empty Ly none 0 x w) fun e' w' ⟨he, hw'⟩ => ⟨_, he, ?_⟩
    subst hw'
    refine ⟨_, st, M, h, xn (Reads.cons (.s _) (Reads.cons (.s _) Reads.nil)), sto, Chg.refl _ _⟩
  · cases hu
    have hobj := (sto.obj b _ ho).1
    obtain ⟨c, e, fr, h1, h2, h3, h4⟩ := wv hobj
    refine Calls.mono (Any.slices_BinarySearch_int Ly b 0 ns.length cap ns x w (Nat.le_refl _) hlen (fun j hj => ?_) (by grind)) fun e' w' ⟨he, q, hw'⟩ => ⟨_, he, ?_⟩
    · rw [Nat.zero_add]
      simp only [World.cell?, h1]
      exact h4 j hj
    · subst hw'
      rw [List.take_length]
      have hg : Grow w (w.drewN q) := ⟨Nat.le_refl _, fun _ _ => rfl, rfl, rfl, rfl⟩
      exact ⟨_, st, M, h, xn (Reads.cons (.s _) (Reads.cons (.s _) Reads.nil)), sto.grow hg, hg.chg M⟩
/-- slices.Delete. -/
theorem zcp (Ly : Lays2.n23 P ρ) {fn : Func} {code : Code} (hf : P.funcs[ρ.f 23]? = some fn) (hb : fn.body = some code) (hname : (fn.name == "runtime.NumGoroutine") = false) {b cap i j : Nat} {ns : List Int} {L : List AV} (ho : st.obj b = some (.cells (ns.map aI ++ L)))
    (hc1 : ns.length <= cap) (hc2 : cap <= 9223372036854775807) (hij : i <= j) (hj : j <= ns.length) {R : AV -> Store -> Prop}
    (h : R (.s (.slice (some ⟨b, 0, none⟩) (ns.take i ++ ns.drop j).length cap)) (st.setObj b (.cells ((ns.take i ++ ns.drop j).map aI ++ (List.replicate (j - i) (aI 0) ++ L))))) :
    ACalls P (ρ.f 23) [.s (.slice (some ⟨b, 0, none⟩) ns.length cap), aI i, aI j] st R := by
  refine ACalls.of_calls hf hb hname fun Oth M w vs sto hr => ?_
  obtain ⟨u, v, t, rfl, hu, hv, ht⟩ := Hh hr
  cases hu; cases hv; cases ht
  have hobj := (sto.obj b _ ho).1
  obtain ⟨c, e, fr, h1, h2, h3, h4⟩ := wv hobj
  have hl2 : (ns.take i ++ ns.drop j ++ List.replicate (j - i) 0).length = ns.length := by grind
  have hl1 : (ns.take i ++ ns.drop j).length = ns.length - (j - i) := by grind
  refine Calls.mono (Any.slices_Delete_int Ly b 0 cap i j ns w (Ky hobj) hc1 hc2 hij hj) fun e' w' ⟨he, q, hw'⟩ => ⟨_, he, ?_⟩
  subst hw'
  have hw := Hq (q := q) h1 (ns.take i ++ ns.drop j ++ List.replicate (j - i) 0) (by omega)
  obtain ⟨k1, k2⟩ := kl sto ho (jm _ _) hw
  rw [<- hl1]
  refine ⟨_, _, M, h, .s _, ?_, k2⟩
  grind[Ie,List.map_replicate]
/-- math/bits.Add64. -/
theorem zeu (Ly : Lays7.n25 P ρ) (x y c : Nat) (hc : c <= 1) {R : AV -> Store -> Prop}
    (h : R (.tup [.s (.int .u64 ((x + y + c) % 18446744073709551616 : Nat)), .s (.int .u64 ((x + y + c) / 18446744073709551616 : Nat))]) st) :
    ACalls P (ρ.f 25) [.s (.int .u64 x), .s (.int .u64 y), .s (.int .u64 c)] st R := by
  refine ACalls.of_value fun Oth M w vs sto hr => ?_
  obtain ⟨u, v, t, rfl, hu, hv, ht⟩ := Hh hr
  cases hu; cases hv; cases ht
  exact ⟨_, w, Any7.bits_Add64 Ly x y c hc w, _, st, M, h, xn (Reads.cons (.s _) (Reads.cons (.s _) Reads.nil)), sto, Chg.refl _ _⟩
theorem Aj {b : Nat} : ∀ (vs : List Value) (o : Nat) (w : World) (c : Array Value) (e : TypeId) (fr : Nat × Nat), w.heap[b]? = some (.cells c e fr) -> o + vs.length <= c.size -> Wrote w b o vs (w.setCells b o vs) := by
  intro vs
  induction vs with
  | nil => intro o w c e fr h _; exact ⟨rfl, fun _ _ => rfl, fun c e fr h => ⟨c, h, by simp, rfl⟩, rfl, rfl, rfl⟩
  | cons v vs ih =>
    intro o w c e fr h hl
    simp only [List.length_cons] at hl
    have h1 : (w.setCell ⟨b, o, none⟩ v).heap[b]? = some (.cells (c.setIfInBounds o v) e fr) := by
      rw [Dd, if_pos rfl, h]; rfl
    have k := ih (o + 1) (w.setCell ⟨b, o, none⟩ v) _ e fr h1 (by grind)
    refine ⟨by rw [World.setCells, k.size]; simp, fun b' hb => by rw [World.setCells, k.other b' hb, Dd, if_neg hb], fun c1 e1 fr1 hc1 => ?_, by rw [World.setCells, k.tape]; rfl, by rw [World.setCells, k.os]; rfl, by rw [World.setCells, k.output]; rfl⟩
    rw [h] at hc1
    cases hc1
    obtain ⟨c', g1, g2, g3⟩ := k.blk _ _ _ h1
    refine ⟨c', g1, ?_, by grind⟩
    rw [g2, Array.toList_setIfInBounds]
    have hlt : o < c.toList.length := by grind
    have hA : (c.toList.take o).length = o := by grind
    rw [List.set_eq_take_append_cons_drop, if_pos hlt]
    have t1 : (c.toList.take o ++ v :: c.toList.drop (o + 1)).take (o + 1) = c.toList.take o ++ [v] := by grind
    have t2 : (c.toList.take o ++ v :: c.toList.drop (o + 1)).drop (o + 1 + vs.length) = c.toList.drop (o + (vs.length + 1)) := by
      rw [List.drop_append, hA, show o + 1 + vs.length - o = vs.length + 1 by omega, List.drop_of_length_le (by omega), List.nil_append, List.drop_succ_cons, List.drop_drop]
      grind
    grind
/-- slices.Insert of one number. -/
theorem zau (Ly : Lays2.n21 P ρ) {fn : Func} {code : Code} (hf : P.funcs[ρ.f 21]? = some fn) (hb : fn.body = some code) (hname : (fn.name == "runtime.NumGoroutine") = false) {v : AV} {ns : List Int} (hv : Ints st v ns) {vb : Nat} (x : Int) (i : Nat) (hi : i <= ns.length)
    (hvb : st.obj vb = some (.cells [aI x])) (hne : ∀ b cap, v = .s (.slice (some ⟨b, 0, none⟩) ns.length cap) -> b ≠ vb) (hlen : (ns.length + 1) * 8 <= 140737488355328) {R : AV -> Store -> Prop}
    (h : ∀ b cap L, (Fresh st b \/ ∃ c0, v = .s (.slice (some ⟨b, 0, none⟩) ns.length c0)) -> (ns.take i ++ x :: ns.drop i).length <= cap -> cap <= (ns.take i ++ x :: ns.drop i).length + L.length -> cap <= 9223372036854775807 ->
      R (.s (.slice (some ⟨b, 0, none⟩) (ns.take i ++ x :: ns.drop i).length cap)) (st.setObj b (.cells ((ns.take i ++ x :: ns.drop i).map aI ++ L)))) :
    ACalls P (ρ.f 21) [v, aI i, .s (.slice (some ⟨vb, 0, none⟩) 1 1)] st R := by
  refine ACalls.of_calls hf hb hname fun Oth M w vs sto hr => ?_
  obtain ⟨u, t, s, rfl, hu, ht, hs⟩ := Hh hr
  cases ht; cases hs
  have hvo := (sto.obj vb _ hvb).1
  obtain ⟨cv, ev, frv, v1, v2, v3, v4⟩ := wv (ns := [x]) (L := []) (show CellsRel w _ ([x].map aI ++ []) vb from hvo)
  have hvs : ∀ j v, ([vI x] : List Value)[j]? = some v -> w.cell? ⟨vb, 0 + j, none⟩ = some v := by grind[World.cell?]
  have h1v : ∀ v ∈ ([vI x] : List Value), v.oneCell' = true := by intro v hv; simp at hv; subst hv; rfl
  have hl' : (ns.take i ++ x :: ns.drop i).length = ns.length + 1 := by grind
  have hcut : ∀ (w : World) (need old : Nat) (e : TypeId), need <= 140737488355328 -> need <= grownCap w need old e /\ grownCap w need old e <= 9223372036854775807 := by
    intro w need old e hn
    unfold grownCap
    simp only [Question.cut]
    have := Nat.mod_lt (w.tape w.drawn (.appendCap need old e)) (show 0 < 2 ^ 63 - need by omega)
    omega
  rcases C9 hv with ⟨rfl, rfl⟩ | ⟨b, cap, L, rfl, ho, hc1, hc2, hc3⟩
  · cases hu
    simp only [List.length_nil, Nat.le_zero] at hi
    subst hi
    refine Calls.mono (Any2.slices_Insert_int_end_grow Ly none 0 0 vb 0 1 1 [] [vI x] w (by omega) (Nat.le_refl _) (by omega) (by omega) rfl rfl (fun _ => rfl) (fun a ha => by cases ha) hvs h1v) fun e' w' ⟨he, hw'⟩ => ⟨_, he, ?_⟩
    obtain ⟨g1, g2⟩ := hcut w (0 + 1) 0 (ρ.t 3) (by omega)
    generalize grownCap w (0 + 1) 0 (ρ.t 3) = gc at *
    subst hw'
    have gd : Grow w w.drew := Grow.drew w
    obtain ⟨f1, f2, f3⟩ := ws (sto.grow gd) ((([] : List Value) ++ [vI x]).toArray ++ Builtin.zeroCells (Value.int .i64 0).cells (gc - (0 + 1))) (ρ.t 3) (l := [x].map aI ++ List.replicate (gc - (0 + 1)) .any) (by
      rw [Array.toList_append]
      refine Reads.append (jm _ [x]) ⟨by simp [Builtin.zeroCells, Value.cells], fun i x y hx hy => ?_⟩
      rw [List.getElem?_replicate] at hx
      split at hx
      · cases hx; exact .any _
      grind)
    have := h w.heap.size gc (List.replicate (gc - (0 + 1)) .any) (.inl f1) (by grind) (by grind) g2
    exact ⟨_, _, _, this, .s _, f2, (gd.chg M).trans f3⟩
  · cases hu
    have hbv : b ≠ vb := hne b cap rfl
    have hobj := (sto.obj b _ ho).1
    obtain ⟨c, e, fr, h1, h2, h3, h4⟩ := wv hobj
    have cell : ∀ j, j < c.size -> w.cell? ⟨b, 0 + j, none⟩ = c[j]? := fun j hj => by simp_all[World.cell?]
    have froz : ∀ o, w.frozen? ⟨b, o, none⟩ = false := fun o => by grind[World.frozen?]
    have hcs : ∀ j v, (ns.map vI)[j]? = some v -> w.cell? ⟨b, 0 + j, none⟩ = some v := by grind
    have h1c : ∀ v ∈ ns.map vI, v.oneCell' = true := by intro v hv; obtain ⟨n, _, rfl⟩ := List.mem_map.1 hv; rfl
    by_cases hroom : ns.length + 1 <= cap
    · obtain ⟨L0, hL⟩ : ∃ L0, L = L0 := ⟨_, rfl⟩
      by_cases hin : i = ns.length
      · subst hin
        refine Calls.mono (Any2.slices_Insert_int_end_room Ly b 0 ns.length cap vb 0 1 1 [vI x] w (by omega) hroom hc3 rfl (fun j hj => ?_) (fun j hj => froz _) hvs h1v) fun e' w' ⟨he, hw'⟩ => ⟨_, he, ?_⟩
        · grind
        · subst hw'
          rw [Nat.zero_add]
          have hw := Aj [vI x] ns.length w c e fr h1 (by grind)
          obtain ⟨k1, k2⟩ := kl sto ho (jm _ [x]) hw
          rw [wh (by simp)] at k1
          have e2 : (ns.take ns.length ++ x :: ns.drop ns.length).map aI = ns.map aI ++ [x].map aI := by simp
          have := h b cap (L.drop 1) (.inr ⟨cap, rfl⟩) (by omega) (by grind) hc3
          rw [hl', e2] at this
          exact ⟨_, _, M, this, .s _, k1, k2⟩
      · have hsz : ∀ j, j < ns.length + 1 -> (w.cell? ⟨b, 0 + j, none⟩).isSome = true := fun j hj => by grind
        refine Calls.mono (Any2.slices_Insert_int_shift Ly b 0 ns.length cap i vb 0 1 1 (ns.map vI) [vI x] w (by omega) (by omega) hroom hc3 (Ne.symm hbv) (by simp) rfl hcs hsz (fun j _ => froz _) hvs h1c h1v ev e cv.size c.size
          (by simp [World.shape?, v1]) (by simp [World.shape?, h1]) (by omega) ?_ ?_) fun e' w' ⟨he, hw'⟩ => ⟨_, he, ?_⟩
        · grind[World.frozen?]
        · grind[World.frozen?]
        · subst hw'
          rw [Nat.zero_add, Nat.zero_add, <- List.map_drop]
          have gd : Grow w w.drew := Grow.drew w
          have hw1 := Aj ((ns.drop i).map vI) (i + 1) w.drew c e fr h1 (by grind)
          obtain ⟨k1, k2⟩ := kl (sto.grow gd) ho (jm _ _) hw1
          obtain ⟨c', m1, _, m2⟩ := hw1.blk c e fr h1
          have hw2 := Aj [vI x] i _ c' e fr m1 (by grind)
          obtain ⟨k3, k4⟩ := kl k1 (zc _ _ _) (jm _ [x]) hw2
          rw [qa] at k3
          have e1 : z6 (z6 (ns.map aI ++ L) (i + 1) ((ns.drop i).map aI)) i ([x].map aI) = (ns.take i ++ x :: ns.drop i).map aI ++ L.drop 1 := by
            have hL1 : 1 <= L.length := by omega
            cases L with
            | nil => grind
            | cons y L =>
              have q1 : ns.map aI ++ y :: L = (ns.map aI ++ [y]).take (i + 1) ++ ((ns.map aI ++ [y]).drop (i + 1) ++ L) := by grind[List.take_append_drop]
              have q2 : ((ns.map aI ++ [y]).take (i + 1)).length = i + 1 := by grind
              grind[wh,List.map_take,List.take_succ_eq_append_getElem]
          rw [e1] at k3
          have := h b cap (L.drop 1) (.inr ⟨cap, rfl⟩) (by omega) (by rw [hl']; simp; omega) hc3
          rw [hl'] at this
          exact ⟨_, _, M, this, .s _, k3, ((gd.chg M).trans k2).trans k4⟩
    · obtain ⟨g1, g2⟩ := hcut w (ns.length + 1) cap (ρ.t 3) (by omega)
      by_cases hin : i = ns.length
      · subst hin
        refine Calls.mono (Any2.slices_Insert_int_end_grow Ly (some ⟨b, 0, none⟩) ns.length cap vb 0 1 1 (ns.map vI) [vI x] w (by omega) hc1 (by omega) hlen (by simp) rfl (fun hh => by cases hh) (fun a ha j v hj => ?_) hvs h1v) fun e' w' ⟨he, hw'⟩ => ⟨_, he, ?_⟩
        · cases ha; rw [qv]; exact hcs j v hj
        · generalize grownCap w (ns.length + 1) cap (ρ.t 3) = gc at *
          subst hw'
          have gd : Grow w w.drew := Grow.drew w
          obtain ⟨f1, f2, f3⟩ := ws (sto.grow gd) ((ns.map vI ++ [vI x]).toArray ++ Builtin.zeroCells (Value.int .i64 0).cells (gc - (ns.length + 1))) (ρ.t 3) (l := (ns ++ [x]).map aI ++ List.replicate (gc - (ns.length + 1)) .any) (by
            rw [Array.toList_append]
            refine Reads.append ?_ ⟨by simp [Builtin.zeroCells, Value.cells], fun i x y hx hy => ?_⟩
            · have := jm (w := w.drew) (fun b o => M b o \/ Oth b o) (ns ++ [x])
              rw [List.map_append (f := vI)] at this
              exact this
            · rw [List.getElem?_replicate] at hx
              split at hx
              · cases hx; exact .any _
              · cases hx)
          have e2 : ns.take ns.length ++ x :: ns.drop ns.length = ns ++ [x] := by simp
          rw [e2] at h
          have := h w.heap.size gc (List.replicate (gc - (ns.length + 1)) .any) (.inl f1) (by simpa using g1) (by simp; omega) g2
          rw [List.length_append] at this
          exact ⟨_, _, _, this, .s _, f2, (gd.chg M).trans f3⟩
      · refine Calls.mono (Any2.slices_Insert_int_grow Ly b 0 ns.length cap i vb 0 1 1 (ns.map vI) [vI x] w (by omega) (by omega) hc1 (by omega) hlen (by simp) rfl hcs hvs h1c h1v) fun e' w' ⟨he, hw'⟩ => ⟨_, he, ?_⟩
        generalize grownCap w (ns.length + 1) cap (ρ.t 3) = gc at *
        subst hw'
        rw [<- List.map_take, <- List.map_drop]
        obtain ⟨f1, f2, f3⟩ := ws sto (((ns.take i).map vI).toArray ++ Builtin.zeroCells (Value.int .i64 0).cells (ns.length + 1 - i) ++ Builtin.zeroCells (Value.int .i64 0).cells (gc - (ns.length + 1))) (ρ.t 3) (l := (ns.take i).map aI ++ List.replicate (ns.length + 1 - i + (gc - (ns.length + 1))) .any) (by
          rw [Array.append_assoc, Array.toList_append]
          refine Reads.append (jm _ _) ⟨by simp [Builtin.zeroCells, Value.cells], fun i x y hx hy => ?_⟩
          rw [List.getElem?_replicate] at hx
          split at hx
          · cases hx; exact .any _
          · cases hx)
        generalize hArr : (((ns.take i).map vI).toArray ++ Builtin.zeroCells (Value.int .i64 0).cells (ns.length + 1 - i) ++ Builtin.zeroCells (Value.int .i64 0).cells (gc - (ns.length + 1))) = Arr at *
        have hAs : Arr.size = gc := by rw [<- hArr]; simp [Builtin.zeroCells, Value.cells]; omega
        have hb1 : (w.alloc (.cells Arr (ρ.t 3))).drew.heap[w.heap.size]? = some (.cells Arr (ρ.t 3) (0, 0)) := ww w _
        have gd1 : Grow (w.alloc (.cells Arr (ρ.t 3))) (w.alloc (.cells Arr (ρ.t 3))).drew := Grow.drew _
        have hw1 := Aj [vI x] i _ _ _ _ hb1 (by simp; omega)
        obtain ⟨k1, k2⟩ := kl (f2.grow gd1) (zc _ _ _) (jm _ [x]) hw1
        obtain ⟨c', m1, _, m2⟩ := hw1.blk _ _ _ hb1
        have gd2 : Grow ((w.alloc (.cells Arr (ρ.t 3))).drew.setCells w.heap.size i [vI x]) ((w.alloc (.cells Arr (ρ.t 3))).drew.setCells w.heap.size i [vI x]).drew := Grow.drew _
        have hw2 := Aj ((ns.drop i).map vI) (i + 1) ((w.alloc (.cells Arr (ρ.t 3))).drew.setCells w.heap.size i [vI x]).drew c' _ _ m1 (by simp; omega)
        obtain ⟨k3, k4⟩ := kl (k1.grow gd2) (zc _ _ _) (jm _ _) hw2
        rw [qa, qa] at k3
        have e1 : z6 (z6 ((ns.take i).map aI ++ List.replicate (ns.length + 1 - i + (gc - (ns.length + 1))) .any) i ([x].map aI)) (i + 1) ((ns.drop i).map aI) = (ns.take i ++ x :: ns.drop i).map aI ++ List.replicate (gc - (ns.length + 1)) .any := by
          rw [wh (by simp; omega), wh (by simp; omega), List.drop_replicate, List.drop_replicate]
          have q : ns.length + 1 - i + (gc - (ns.length + 1)) - ([x].map aI).length - ((ns.drop i).map aI).length = gc - (ns.length + 1) := by simp; omega
          rw [q]
          simp
        rw [e1] at k3
        have := h w.heap.size gc (List.replicate (gc - (ns.length + 1)) .any) (.inl f1) (by omega) (by rw [hl']; simp; omega) g2
        rw [hl'] at this
        exact ⟨_, _, _, this, .s _, k3, ((((f3.trans (gd1.chg _)).trans k2).trans (gd2.chg _)).trans k4)⟩
end
theorem y4 (a g : Store) (b : Nat) (x : AObj) : (a.un g).setObj b x = a.un (g.setObj b x) := by
 unfold Store.un Store.setObj
 grind
theorem Ce (a : Store) : a.un Store.empty = a := by rfl
theorem zcl (a : Store) : zv a Store.empty := fun b _ h => h.elim (fun h => h rfl) (fun h => h rfl)
theorem wy {a g : Store} {b : Nat} (h : Fresh (a.un g) b) : Fresh a b /\ Fresh g b := by grind[fresh_iff,un_has]
theorem has_setObj_iff {g : Store} {b i : Nat} {x : AObj} : (g.setObj b x).has i ↔ i = b \/ g.has i := by grind[Store.has,zc,ya,Store.setObj]
theorem Bp {a g : Store} {b : Nat} {x : AObj} (h : zv a g) (hb : Fresh a b) : zv a (g.setObj b x) := by
 intro i hi hg
 rcases has_setObj_iff.1 hg with rfl | hg
 ·exact (fresh_iff.1 hb) hi
 ·exact h i hi hg
theorem w8 {a g : Store} {b : Nat} {x y : AObj} (h : zv a g) (hb : g.obj b = some y) : zv a (g.setObj b x) := by
 intro i hi hg
 rcases has_setObj_iff.1 hg with rfl | hg
 ·exact h i hi (js hb)
 ·exact h i hi hg
/-- In which cell. -/
def zg (p : Vc) : Int × Int := (nrm p.1 / 131072, nrm p.2 / 131072)
abbrev Ent := Int × Vc
def qg (e : Ent) : AV × AV := (int e.1, .agg (zn e.2))
structure Grp where
 x : Int
 y : Int
 ns : List Int
 b : Nat
 cap : Nat
 L : List AV
def Grp.key (g : Grp) : Int × Int := (g.x, g.y)
def qf (g : Grp) : AV × AV := (.agg [int g.x, int g.y], .s (.slice (some ⟨g.b, 0, none⟩) g.ns.length g.cap))
def Grp.fits (g : Grp) : Prop := g.ns.length <= g.cap /\ g.cap <= g.ns.length + g.L.length /\ g.cap <= 9223372036854775807
/-- The cells in a store: the struct 'p', two maps, a slice for each cell. -/
structure CellsAt (a : Store) (p ma mi : Nat) (l : List Ent) (bs1 : List Nat) (c1 : Nat) (G : List Grp) (bs2 : List Nat) (c2 : Nat) : Prop where
 hp : a.obj p = some (.cells [.s (.map (some ma)), .s (.map (some mi))])
 ha : a.obj ma = some (.map (l.map qg) bs1 c1)
 hi : a.obj mi = some (.map (G.map qf) bs2 c2)
 ne : ma ≠ mi
 hg : ∀ g ∈ G, a.obj g.b = some (.cells (g.ns.map aI ++ g.L)) /\ g.fits /\ g.b ≠ p
 nd : (G.map (·.b)).Nodup
structure Inv (l : List Ent) (G : List Grp) : Prop where
 n1 : (l.map (·.1)).Nodup
 n2 : (G.map (·.key)).Nodup
 s : ∀ g ∈ G, g.ns.Pairwise (· < ·) /\ g.ns ≠ []
 m1 : ∀ g ∈ G, ∀ id, id ∈ g.ns ↔ ∃ e ∈ l, e.1 = id /\ zg e.2 = g.key
 m2 : ∀ e ∈ l, ∃ g ∈ G, g.key = zg e.2
def CellsOf (a : Store) (p : Nat) (l : List Ent) : Prop := ∃ ma mi bs1 c1 G bs2 c2, CellsAt a p ma mi l bs1 c1 G bs2 c2 /\ Inv l G
/-- A sorted list, cut at a number. -/
theorem Lm (x : Int) : ∀ {ns : List Int}, ns.Pairwise (· < ·) -> ns.take (ns.countP (· < x)) = ns.filter (· < x) /\ ns.drop (ns.countP (· < x)) = ns.filter (x <= ·) := by
 intro ns
 induction ns with
 | nil => simp
 | cons a ns ih =>
  intro h
  obtain ⟨h1, h2⟩ := List.pairwise_cons.1 h
  grind
theorem zcy (x : Int) (ns : List Int) : ns.countP (· < x) <= ns.length := List.countP_le_length
theorem zav {ns : List Int} (h : ns.Pairwise (· < ·)) {x : Int} (hx : x ∉ ns) :
  (ns.take (ns.countP (· < x)) ++ x :: ns.drop (ns.countP (· < x))).Pairwise (· < ·) /\ ∀ y, y ∈ ns.take (ns.countP (· < x)) ++ x :: ns.drop (ns.countP (· < x)) ↔ y = x \/ y ∈ ns := by
 obtain ⟨h1, h2⟩ := Lm x h
 rw [h1, h2]
 refine ⟨?_, fun y => ?_⟩
 ·rw [List.pairwise_append, List.pairwise_cons]
  refine ⟨h.filter _, ⟨fun y hy => ?_, h.filter _⟩, fun a ha b hb => ?_⟩
  ·have h3 := List.mem_filter.1 hy
   have h4 : x <= y := by simpa using h3.2
   have h5 : y ≠ x := fun e => hx (e ▸ h3.1)
   omega
  ·have h3 := (List.mem_filter.1 ha).2
   have h3 : a < x := by simpa using h3
   rcases List.mem_cons.1 hb with rfl | hb
   ·exact h3
   ·have h4 : x <= b := by simpa using (List.mem_filter.1 hb).2
    omega
 grind
theorem zcq {ns : List Int} (h : ns.Pairwise (· < ·)) {x : Int} (hx : x ∈ ns) :
  ns.countP (· < x) + 1 <= ns.length /\ (ns.take (ns.countP (· < x)) ++ ns.drop (ns.countP (· < x) + 1)).Pairwise (· < ·) /\ ∀ y, y ∈ ns.take (ns.countP (· < x)) ++ ns.drop (ns.countP (· < x) + 1) ↔ y ≠ x /\ y ∈ ns := by
 obtain ⟨h1, h2⟩ := Lm x h
 have hsub : (ns.take (ns.countP (· < x)) ++ ns.drop (ns.countP (· < x) + 1)).Sublist ns := by grind[List.take_append_drop]
 have h3 : ns.filter (x <= ·) = x :: ns.filter (x < ·) := by
  clear h1 h2 hsub
  induction ns with
  | nil => cases hx
  | cons a ns ih =>
   obtain ⟨k1, k2⟩ := List.pairwise_cons.1 h
   rcases List.mem_cons.1 hx with rfl | hx
   ·grind[List.filter_congr]
   grind
 have h4 : ns.drop (ns.countP (· < x) + 1) = ns.filter (x < ·) := by
  rw [<- List.drop_drop, h2, h3]; rfl
 grind
theorem je {α β : Type} {f : α -> β} : ∀ {G : List α} {i j : Nat} {a b : α}, (G.map f).Nodup -> G[i]? = some a -> G[j]? = some b -> f a = f b -> i = j := by
 intro G i j a b hn hi hj h
 have hi' : (G.map f)[i]? = some (f a) := by simp [hi]
 have hj' : (G.map f)[j]? = some (f b) := by simp [hj]
 grind[List.getElem?_inj]
theorem jf {α β : Type} {f : α -> β} {G : List α} {j : Nat} {g g' g1 : α} (hn : (G.map f).Nodup) (hj : G[j]? = some g) : g1 ∈ G.set j g' ↔ g1 = g' \/ (g1 ∈ G /\ f g1 ≠ f g) := by
 have hlt := (List.getElem?_eq_some_iff.1 hj).1
 constructor
 ·intro h
  obtain ⟨i, hi⟩ := List.mem_iff_getElem?.1 h
  by_cases hij : j = i
  ·grind
  grind[je]
 ·rintro (rfl | ⟨h1, h2⟩)
  ·grind[List.getElem?_set_self]
  ·obtain ⟨i, hi⟩ := List.mem_iff_getElem?.1 h1
   have hij : j ≠ i := fun e => by grind
   exact List.mem_iff_getElem?.2 ⟨i, by grind⟩
theorem Cw {α β : Type} {f : α -> β} {G : List α} {j : Nat} {g g1 : α} (hn : (G.map f).Nodup) (hj : G[j]? = some g) : g1 ∈ G.eraseIdx j ↔ (g1 ∈ G /\ f g1 ≠ f g) := by
 constructor
 ·grind[List.mem_iff_getElem?,je]
 ·rintro ⟨h1, h2⟩
  obtain ⟨i, hi⟩ := List.mem_iff_getElem?.1 h1
  have hij : i ≠ j := fun e => by grind
  refine List.mem_iff_getElem?.2 ?_
  by_cases hlt : i < j
  ·exact ⟨i, by grind⟩
  ·refine ⟨i - 1, ?_⟩
   grind
theorem Gh {α β : Type} (f : α -> β) {G : List α} {j : Nat} {g g' : α} (hj : G[j]? = some g) (h : f g' = f g) : (G.set j g').map f = G.map f := by
 rw [List.map_set, h]
 apply List.ext_getElem?
 grind
theorem zam {G : List Grp} (hn : (G.map (·.key)).Nodup) {g g1 : Grp} (h : g ∈ G) (h1 : g1 ∈ G) (hk : g1.key = g.key) : g1 = g := by grind[List.mem_iff_getElem?,je]
theorem Bl {l : List Ent} (hn : (l.map (·.1)).Nodup) {e e1 : Ent} (h : e ∈ l) (h1 : e1 ∈ l) (hk : e1.1 = e.1) : e1 = e := by
 obtain ⟨i, hi⟩ := List.mem_iff_getElem?.1 h
 obtain ⟨j, hj⟩ := List.mem_iff_getElem?.1 h1
 have := je (f := fun (e : Ent) => e.1) hn hj hi hk
 grind
/-- All but one. -/
def yf (l : List Ent) (id : Int) : List Ent := l.filter fun e => e.1 != id
theorem mem_dropId {l : List Ent} {id : Int} {e : Ent} : e ∈ yf l id ↔ e ∈ l /\ e.1 ≠ id := by simp [yf]
theorem Li {l : List Ent} {id : Int} (h : (l.map (·.1)).Nodup) : ((yf l id).map (·.1)).Nodup := h.sublist ((List.filter_sublist).map _)
theorem zap {l : List Ent} {G : List Grp} (h : Inv l G) {e : Ent} (he : e ∈ l) {j : Nat} {g : Grp} (hj : G[j]? = some g) (hk : g.key = zg e.2) {ns' : List Int} (hs : ns'.Pairwise (· < ·)) (hm : ∀ y, y ∈ ns' ↔ y ≠ e.1 /\ y ∈ g.ns) :
  (ns' = [] -> Inv (yf l e.1) (G.eraseIdx j)) /\ (ns' ≠ [] -> ∀ g' : Grp, g'.key = g.key -> g'.ns = ns' -> Inv (yf l e.1) (G.set j g')) := by
 have hgm := List.mem_of_getElem? hj
 have key : ∀ g1 ∈ G, g1.key ≠ g.key -> ∀ id, id ∈ g1.ns ↔ ∃ e1 ∈ yf l e.1, e1.1 = id /\ zg e1.2 = g1.key := by
  intro g1 h1 h2 id
  rw [h.m1 g1 h1 id]
  constructor
  ·rintro ⟨e1, h3, h4, h5⟩
   refine ⟨e1, mem_dropId.2 ⟨h3, fun h6 => h2 ?_⟩, h4, h5⟩
   rw [<- h5, Bl h.n1 he h3 h6, hk]
  grind[mem_dropId]
 refine ⟨fun hn => ?_, fun hn g' hk' hns => ?_⟩
 ·refine ⟨Li h.n1, h.n2.sublist ((List.eraseIdx_sublist ..).map _), fun g1 h1 => ?_, fun g1 h1 => ?_, fun e1 h1 => ?_⟩
  ·exact h.s g1 ((Cw (f := Grp.key) h.n2 hj).1 h1).1
  ·obtain ⟨h2, h3⟩ := (Cw (f := Grp.key) h.n2 hj).1 h1
   grind
  ·obtain ⟨h2, h3⟩ := mem_dropId.1 h1
   obtain ⟨g1, h4, h5⟩ := h.m2 e1 h2
   refine ⟨g1, (Cw (f := Grp.key) h.n2 hj).2 ⟨h4, fun h6 => ?_⟩, h5⟩
   have h7 : e1.1 ∈ g.ns := (h.m1 g hgm e1.1).2 ⟨e1, h2, rfl, by grind⟩
   grind
 ·refine ⟨Li h.n1, by rw [Gh Grp.key hj hk']; exact h.n2, fun g1 h1 => ?_, fun g1 h1 => ?_, fun e1 h1 => ?_⟩
  ·rcases (jf (f := Grp.key) h.n2 hj).1 h1 with rfl | ⟨h2, _⟩
   ·grind
   ·exact h.s g1 h2
  ·rcases (jf (f := Grp.key) h.n2 hj).1 h1 with rfl | ⟨h2, h3⟩
   ·intro id
    rw [hns, hm, h.m1 g hgm, hk']
    constructor
    ·rintro ⟨h4, e1, h5, h6, h7⟩
     grind[mem_dropId]
    grind[mem_dropId]
   grind
  ·obtain ⟨h2, h3⟩ := mem_dropId.1 h1
   obtain ⟨g1, h4, h5⟩ := h.m2 e1 h2
   by_cases h6 : g1.key = g.key
   ·exact ⟨g', (jf (f := Grp.key) h.n2 hj).2 (.inl rfl), by grind⟩
   ·exact ⟨g1, (jf (f := Grp.key) h.n2 hj).2 (.inr ⟨h4, h6⟩), h5⟩
theorem zaq {l : List Ent} {G : List Grp} (h : Inv l G) {e : Ent} (he : ∀ e1 ∈ l, e1.1 ≠ e.1) :
  (∀ j g g', G[j]? = some g -> g.key = zg e.2 -> g'.key = g.key -> g'.ns.Pairwise (· < ·) -> (∀ y, y ∈ g'.ns ↔ y = e.1 \/ y ∈ g.ns) -> Inv (l ++ [e]) (G.set j g')) ∧
  ((∀ g ∈ G, g.key ≠ zg e.2) -> ∀ g', g'.key = zg e.2 -> g'.ns = [e.1] -> Inv (l ++ [e]) (G ++ [g'])) := by
 have n1 : ((l ++ [e]).map (·.1)).Nodup := by
  rw [List.map_append, List.nodup_append]
  refine ⟨h.n1, by simp, fun a ha b hb => ?_⟩
  grind
 have key : ∀ g1 ∈ G, g1.key ≠ zg e.2 -> ∀ id, id ∈ g1.ns ↔ ∃ e1 ∈ l ++ [e], e1.1 = id /\ zg e1.2 = g1.key := by
  intro g1 h1 h2 id
  rw [h.m1 g1 h1 id]
  constructor
  ·simp_all
  grind
 refine ⟨fun j g g' hj hk hk' hs hm => ?_, fun hno g' hk' hns => ?_⟩
 ·have hgm := List.mem_of_getElem? hj
  refine ⟨n1, by rw [Gh Grp.key hj hk']; exact h.n2, fun g1 h1 => ?_, fun g1 h1 => ?_, fun e1 h1 => ?_⟩
  ·rcases (jf (f := Grp.key) h.n2 hj).1 h1 with rfl | ⟨h2, _⟩
   ·grind
   ·exact h.s g1 h2
  ·rcases (jf (f := Grp.key) h.n2 hj).1 h1 with rfl | ⟨h2, h3⟩
   ·intro id
    rw [hm, h.m1 g hgm, hk']
    constructor
    ·rintro (rfl | ⟨e1, h5, h6, h7⟩)
     ·grind
     grind
    grind
   grind
  ·rcases List.mem_append.1 h1 with h1 | h1
   ·obtain ⟨g1, h4, h5⟩ := h.m2 e1 h1
    by_cases h6 : g1.key = g.key
    ·exact ⟨g', (jf (f := Grp.key) h.n2 hj).2 (.inl rfl), by grind⟩
    ·exact ⟨g1, (jf (f := Grp.key) h.n2 hj).2 (.inr ⟨h4, h6⟩), h5⟩
   ·simp at h1
    subst h1
    exact ⟨g', (jf (f := Grp.key) h.n2 hj).2 (.inl rfl), by grind⟩
 ·refine ⟨n1, ?_, fun g1 h1 => ?_, fun g1 h1 => ?_, fun e1 h1 => ?_⟩
  ·rw [List.map_append, List.nodup_append]
   refine ⟨h.n2, by simp, fun a ha b hb => ?_⟩
   grind
  ·rcases List.mem_append.1 h1 with h1 | h1
   ·exact h.s g1 h1
   grind
  ·rcases List.mem_append.1 h1 with h1 | h1
   ·grind
   ·simp at h1
    subst h1
    intro id
    rw [hns, hk']
    constructor
    ·grind
    ·rintro ⟨e1, h2, h3, h4⟩
     rcases List.mem_append.1 h2 with h2 | h2
     ·obtain ⟨g2, h5, h6⟩ := h.m2 e1 h2
      grind
     grind
  ·rcases List.mem_append.1 h1 with h1 | h1
   ·obtain ⟨g1, h4, h5⟩ := h.m2 e1 h1
    grind
   grind
end Go.V
