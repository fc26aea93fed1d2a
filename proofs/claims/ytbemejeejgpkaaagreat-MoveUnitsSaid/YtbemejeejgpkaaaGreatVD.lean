/- The ground on which laws of thronglaw24 are proved: contracts of functions and plain lemmas; no condition beyond the row's own. -/
import Derived.Test.YtbemejeejgpkaaaGreatVC
set_option linter.unusedSimpArgs false
set_option linter.unusedVariables false
namespace Go.V
def u8 (b : UInt8) : AV := .s (.int .u8 b.toNat)
def int (n : Int) : AV := .s (.int .i64 n)
def u64 (n : Int) : AV := .s (.int .u64 n)
def bool (b : Bool) : AV := .s (.bool b)
def nil : AV := .s (.slice none 0 0)
/-- A list's elements as rows of cells. -/
def rws {α : Type} (f : α -> List AV) (l : List α) : List (List AV) := l.map f
def lst {α : Type} (k : Nat) (f : α -> List AV) (l : List α) : AV := .lst k (rws f l) none
section
variable {α : Type} {f : α -> List AV}
theorem zi (l : List α) : (rws f l).length = l.length := by simp [rws]
theorem zh {l : List α} {i : Nat} (h : i < l.length) : (rws f l)[i]? = some (f l[i]) := by simp [rws, h]
theorem zjt {l : List α} {i : Nat} (h : i < l.length) : rws f (l.take i) ++ [f l[i]] = rws f (l.take (i + 1)) := by
 unfold rws; rw [List.take_succ_eq_append_getElem h, List.map_append]; rfl
theorem zuu (a b : List α) : rws f a ++ rws f b = rws f (a ++ b) := by simp [rws]
theorem qz {l : List α} {i : Nat} (h : decide ((i : Int) < ((rws f l).length : Int)) = true) : i < l.length := by
 rw [zi] at h; simpa using h
theorem x3 {l : List α} {i : Nat} (h : decide ((i : Int) < ((rws f l).length : Int)) = false) (h2 : i <= l.length) : i = l.length := by
 rw [zi] at h; simp at h; omega
theorem zv5 {l m : List α} (h : (((rws f l).length : Int) != ((rws f m).length : Int)) = true) : l.length ≠ m.length := by
 rw [zi, zi] at h; simp at h; omega
theorem zxl {l m : List α} (h : (((rws f l).length : Int) != ((rws f m).length : Int)) = false) : l.length = m.length := by
 rw [zi, zi] at h; simp at h; omega
end
def u8C (b : UInt8) : List AV := [u8 b]
def intC (n : Int) : List AV := [int n]
def byts (l : List UInt8) : AV := lst 1 u8C l
def ints (l : List Int) : AV := lst 1 intC l
theorem isF {R : AV -> Store -> Prop} {b : Bool} {st : Store} (h : R (bool b) st) (hb : b = false) : R (bool false) st := by rw [hb] at h; exact h
theorem isT {R : AV -> Store -> Prop} {b : Bool} {st : Store} (h : R (bool b) st) (hb : b = true) : R (bool true) st := by rw [hb] at h; exact h
/-- The program's data. -/
structure Gnd where
 W : Int
 H : Int
 T : List UInt8
 deriving DecidableEq
structure Cmd where
 P : Int
 S : Int
 K : Int
 N : Int
 U : List Int
 T : Int
 W : Int
 H : Int
 X : Int
 Y : Int
 deriving DecidableEq
structure Frm where
 turn : Int
 C : List Cmd
 hash : Int
 deriving DecidableEq
structure Rep where
 P : Int
 G : Gnd
 F : List Frm
 deriving DecidableEq
def gndC (g : Gnd) : List AV := [int g.W, int g.H, byts g.T]
def Cmd.fits (c : Cmd) : Prop := c.U.length <= 1000000000000
def Frm.fits (f : Frm) : Prop := f.C.length <= 1000000000000 /\ ∀ c ∈ f.C, c.fits
def Gnd.fits (g : Gnd) : Prop := g.T.length <= 1000000000000
def Rep.fits (r : Rep) : Prop := r.G.fits /\ r.F.length <= 1000000000000 /\ ∀ f ∈ r.F, f.fits
/-- What a replay's parts may be. -/
def gndP (g : Gnd) : Prop := (1 <= g.W /\ g.W <= 128) /\ (1 <= g.H /\ g.H <= 128) /\ (g.T.length : Int) = g.W * g.H /\ ∀ t ∈ g.T, t.toNat <= 5
def qv (x y : Int) : Prop := (-1099511627776 <= x /\ x <= 1099511627776) /\ (-1099511627776 <= y /\ y <= 1099511627776)
/-- What of a command is of its kind. -/
def Cmd.only (c : Cmd) : Cmd :=
 if c.K = 1 then ⟨c.P, c.S, c.K, c.N, [], 0, 0, 0, c.X, c.Y⟩ else
 if c.K = 2 then ⟨c.P, c.S, c.K, 0, c.U, c.T, 0, 0, 0, 0⟩ else
 if c.K = 3 then ⟨c.P, c.S, c.K, 0, c.U, 0, 0, 0, 0, 0⟩ else
 if c.K = 4 then ⟨c.P, c.S, c.K, 0, [], c.T, c.W, c.H, 0, 0⟩ else
 if c.K = 5 then ⟨c.P, c.S, c.K, c.N, [], 0, 0, 0, 0, 0⟩ else
 if c.K = 6 then ⟨c.P, c.S, c.K, c.N, c.U, 0, 0, 0, 0, 0⟩ else
 if c.K = 7 then ⟨c.P, c.S, c.K, c.N, [], c.T, 0, 0, 0, 0⟩ else
 ⟨c.P, c.S, c.K, 0, [], 0, 0, 0, 0, 0⟩
/-- Lists of values, one by one. -/
def leL : List AV -> List AV -> Prop
 | [], [] => True
 | x :: xs, y :: ys => AV.le x y /\ leL xs ys
 | _, _ => False
theorem zj4 : ∀ {xs ys : List AV}, leL xs ys -> xs.length = ys.length /\ ∀ (i : Nat) (x y : AV), xs[i]? = some x -> ys[i]? = some y -> AV.le x y := by
 intro xs
 induction xs with
 | nil =>
  intro ys h
  cases ys with
  | nil => exact ⟨rfl, fun i x y h => by simp at h⟩
  | cons y ys => exact h.elim
 | cons x xs ih =>
  intro ys h
  cases ys with
  | nil => exact h.elim
  | cons y ys =>
   obtain ⟨h1, h2⟩ := ih h.2
   refine ⟨by simp [h1], fun i u v hu hv => ?_⟩
   cases i with
   | zero => simp at hu hv; subst hu hv; exact h.1
   | succ i => exact h2 i u v (by simpa using hu) (by simpa using hv)
theorem AV.le_aggL {xs ys : List AV} (h : leL xs ys) : AV.le (.agg xs) (.agg ys) := AV.le_agg (zj4 h).1 (zj4 h).2
theorem zu9 {w : World} {T : Nat -> Nat -> Prop} {xs ys : List AV} {vs : List Value} (h : leL xs ys) (hr : Reads w T xs vs) : Reads w T ys vs := by
 obtain ⟨h1, h2⟩ := zj4 h
 refine ⟨by rw [<- h1]; exact hr.1, fun i y v hy hv => ?_⟩
 have hi : i < xs.length := by
  have := (List.getElem?_eq_some_iff.1 hy).1
  omega
 exact h2 i xs[i] y (List.getElem?_eq_getElem hi) hy w T v (hr.2 i _ v (List.getElem?_eq_getElem hi) hv)
theorem ACalls.le {P : Program} {f : FuncId} {xs ys : List AV} {st : Store} {R : AV -> Store -> Prop} (h : leL xs ys) (hc : ACalls P f ys st R) : ACalls P f xs st R :=
 ⟨fun Oth M w vs sto hr => hc.out Oth M w vs sto (zu9 h hr)⟩
theorem zp4 {a b : Int} (h1 : 1 <= a /\ a <= 128) (h2 : 1 <= b /\ b <= 128) : 1 <= a * b /\ a * b <= 16384 := by
 have h3 : a * b <= 128 * 128 := Int.mul_le_mul h1.2 h2.2 (by omega) (by omega)
 have h4 : 0 < a * b := Int.mul_pos (by omega) (by omega)
 omega
def cmpZ (a b : Int) : Int := if a < b then -1 else if a > b then 1 else 0
end Go.V
namespace Go.V
theorem yjs (a q m : Nat) (h : a < 2 ^ m) : a ||| q * 2 ^ m = a + q * 2 ^ m := by
 have := Nat.two_pow_add_eq_or_of_lt h q
 rw [Nat.or_comm, Nat.mul_comm q, <- this, Nat.add_comm]
theorem zha (a b : Nat) (ha : a < 2 ^ 64) (hb : b < 2 ^ 64) : qi .or .i64 a b = IntKind.i64.wrap ((a ||| b : Nat) : Int) /\ qi .or .u64 a b = IntKind.u64.wrap ((a ||| b : Nat) : Int) := by
 have h : ∀ a : Nat, a < 2 ^ 64 -> (BitVec.ofInt 64 (a : Int)).toNat = a := by
  intro a ha
  rw [BitVec.ofInt_natCast, BitVec.toNat_ofNat, Nat.mod_eq_of_lt ha]
 constructor
 ·show IntKind.i64.wrap ((BitVec.ofInt 64 (a : Int) ||| BitVec.ofInt 64 (b : Int)).toNat : Int) = _
  rw [BitVec.toNat_or, h a ha, h b hb]
 ·show IntKind.u64.wrap ((BitVec.ofInt 64 (a : Int) ||| BitVec.ofInt 64 (b : Int)).toNat : Int) = _
  rw [BitVec.toNat_or, h a ha, h b hb]
theorem ya {v : Int} (h : 0 <= v) (h2 : v < 18446744073709551616) : IntKind.u64.wrap v = v := by
 have : IntKind.u64.wrap v = v % 18446744073709551616 := by simp [IntKind.wrap, IntKind.bits, IntKind.signed]
 rw [this]; omega
theorem ypi {n : Int} {q m : Nat} (h0 : 0 <= n) (h1 : n < 2 ^ m) (h2 : n + q * 2 ^ m < 18446744073709551616) : qi .or .u64 n (q * 2 ^ m) = n + q * 2 ^ m := by
 obtain ⟨a, rfl⟩ := Int.eq_ofNat_of_zero_le h0
 have e : ((q : Int) * 2 ^ m) = ((q * 2 ^ m : Nat) : Int) := by simp
 have h1' : a < 2 ^ m := by exact_mod_cast h1
 rw [e] at h2 ⊢
 have h3 : a + q * 2 ^ m < 18446744073709551616 := by omega
 rw [(zha a (q * 2 ^ m) (by omega) (by omega)).2, yjs a q m h1', ya (by omega) (by omega)]
 simp
/-- P4.2: a number: it, its bytes, the error. -/
def yps : List UInt8 -> Nat -> Int -> Int × Nat × Int
 | [], _, _ => (0, 0, 11)
 | c :: l, i, n =>
  if (128 <= c.toNat /\ i = 8) \/ (c.toNat = 0 /\ 0 < i) then (0, 0, 1)
  else if c.toNat < 128 then (n + (c.toNat % 128 : Nat) * 128 ^ i, i + 1, 0)
  else yps l (i + 1) (n + (c.toNat % 128 : Nat) * 128 ^ i)
def zw9 (b : List UInt8) : Int × Nat × Int := yps b 0 0
/-- A number that may be below 0, of one that may not. -/
def zig (n : Int) : Int := if n % 2 = 0 then n / 2 else -(n / 2) - 1
def ypr (b : List UInt8) : Int × Nat × Int := (zig (zw9 b).1, (zw9 b).2.1, (zw9 b).2.2)
/-- The program's reader: what is left, and what is wrong. -/
structure Rd where
 b : List UInt8
 e : Int
 deriving DecidableEq
def Rd.fail (s : Rd) (e : Int) : Rd := if s.e = 0 then ⟨s.b, e⟩ else s
def Rd.must (s : Rd) (ok : Bool) : Rd := if ok then s else s.fail 1
def Rd.take (s : Rd) (n : Int) (k : Nat) (e : Int) : Int × Rd := if (s.fail e).e ≠ 0 then (0, s.fail e) else (n, ⟨s.b.drop k, 0⟩)
def inB (n lo hi : Int) : Bool := decide (lo <= n /\ n <= hi)
def Rd.got (s : Rd) (g : Int × Nat × Int) (lo hi : Int) : Int × Rd :=
 if s.e ≠ 0 then (0, s) else ((s.take g.1 g.2.1 g.2.2).1, (s.take g.1 g.2.1 g.2.2).2.must (inB (s.take g.1 g.2.1 g.2.2).1 lo hi))
def Rd.int (s : Rd) (lo hi : Int) : Int × Rd := s.got (ypr s.b) lo hi
def Rd.byte (s : Rd) : UInt8 × Rd :=
 if s.e ≠ 0 then (0, s) else match s.b with | [] => (0, ⟨[], 11⟩) | c :: l => (c, ⟨l, 0⟩)
def Rd.same (s : Rd) (l : List UInt8) : Rd := l.foldl (fun s c => s.byte.2.must (s.byte.1 == c)) s
def Rd.fin (s : Rd) : Rd := s.must (s.b.length == 0)
end Go.V
namespace Go.V
end Go.V
namespace Go.V
end Go.V
namespace Go.V
end Go.V
namespace Go.V
end Go.V
namespace Go.V
end Go.V
namespace Go.V
end Go.V
namespace Go.V
end Go.V
namespace Go.V
/-- A number as it counts. -/
def nrm (a : Int) : Int := if a < -9223372036854775807 then -9223372036854775807 else a
theorem ypl (n : Int) : max2 n (Int.negSucc 9223372036854775806) = nrm n := by
 have e : Int.negSucc 9223372036854775806 = -9223372036854775807 := rfl
 unfold max2 nrm
 rw [e]
 by_cases h : n < -9223372036854775807
 ·simp [h]
 ·simp [h]
theorem v7 {n : Int} (h : yi n) : -9223372036854775807 <= nrm n /\ nrm n <= 9223372036854775807 := by
 unfold yi at h
 unfold nrm
 split <;> omega
theorem qx {n : Int} (h : -9223372036854775807 <= n) : nrm n = n := by unfold nrm; rw [if_neg (by omega)]
theorem yny (n : Int) : nrm (nrm n) = nrm n := by unfold nrm; split <;> simp_all
def j2 (s : Int) : Int := if s > 9223372036854775807 then 9223372036854775807 else if s < -9223372036854775807 then -9223372036854775807 else s
def fadd (a b : Int) : Int := j2 (nrm a + nrm b)
def fsub (a b : Int) : Int := fadd a (-nrm b)
theorem zko (s : Int) : -9223372036854775807 <= j2 s /\ j2 s <= 9223372036854775807 := by
 unfold j2; split
 ·omega
 ·split <;> omega
theorem zg0 (a b : Int) : -9223372036854775807 <= fadd a b /\ fadd a b <= 9223372036854775807 := zko _
theorem ziu (a b : Int) : -9223372036854775807 <= fsub a b /\ fsub a b <= 9223372036854775807 := zko _
theorem zke (a b : Int) : yi (fadd a b) := by have := zg0 a b; unfold yi; omega
theorem zbg (a b : Int) : yi (fsub a b) := by have := ziu a b; unfold yi; omega
/-- How great. -/
def asz (a : Int) : Int := if nrm a < 0 then -nrm a else nrm a
theorem zni {n : Int} (h : yi n) : 0 <= asz n /\ asz n <= 9223372036854775807 := by
 have := v7 h
 unfold asz; split <;> omega
/-- A number of 128 bits. -/
def x6 (n : Int) : List AV := [u64 (n / 18446744073709551616), u64 (n % 18446744073709551616)]
theorem zaw (v : Int) : IntKind.u64.wrap v = v % 18446744073709551616 := by simp [IntKind.wrap, IntKind.bits, IntKind.signed]
theorem zto {a : Int} (h : 0 <= a) : qi .and .u64 a 4294967295 = a % 4294967296 := by
 obtain ⟨n, rfl⟩ := Int.eq_ofNat_of_zero_le h
 show IntKind.u64.wrap ((BitVec.ofInt 64 (n : Int) &&& BitVec.ofInt 64 (4294967295 : Int)).toNat : Int) = _
 rw [zaw]
 have e1 : BitVec.ofInt 64 (n : Int) = BitVec.ofNat 64 n := BitVec.ofInt_natCast ..
 have e2 : BitVec.ofInt 64 (4294967295 : Int) = BitVec.ofNat 64 4294967295 := rfl
 rw [e1, e2, BitVec.toNat_and, BitVec.toNat_ofNat, BitVec.toNat_ofNat]
 have e3 : (4294967295 : Nat) % 2 ^ 64 = 2 ^ 32 - 1 := by decide
 rw [e3, Nat.and_two_pow_sub_one_eq_mod]
 omega
theorem yqb (a : Int) : a.fdiv (2 ^ (min (32 : Int).toNat IntKind.u64.bits)) = a / 4294967296 := by
 have : (min (32 : Int).toNat IntKind.u64.bits) = 32 := by decide
 rw [this]
 rw [Int.fdiv_eq_ediv_of_nonneg _ (by decide)]
 rfl
theorem yqf : (2 : Int) ^ (min (32 : Int).toNat IntKind.u64.bits) = 4294967296 := by decide
theorem ypx (a : Int) : a.fdiv 4294967296 = a / 4294967296 := Int.fdiv_eq_ediv_of_nonneg _ (by decide)
theorem zjc {n hi lo : Int} (h1 : hi = n / 18446744073709551616) (h2 : lo = n % 18446744073709551616) : [AV.s (.int .u64 hi), AV.s (.int .u64 lo)] = x6 n := by subst h1 h2; rfl
theorem or32 {a b : Int} (ha : 0 <= a) (hb : 0 <= b) (hb2 : b < 4294967296) : qi .or .u64 ((a * 4294967296) % 18446744073709551616) b = (a * 4294967296) % 18446744073709551616 + b := by
 have e : (a * 4294967296) % 18446744073709551616 = (a % 4294967296) * 2 ^ 32 := by
  have : (2 : Int) ^ 32 = 4294967296 := by decide
  rw [this]; omega
 obtain ⟨q, hq⟩ := Int.eq_ofNat_of_zero_le (show 0 <= a % 4294967296 by omega)
 have e2 := @ypi b q 32 hb (by simpa using hb2) (by rw [show (2 : Int) ^ 32 = 4294967296 by decide]; omega)
 have comm : ∀ x y : Int, qi .or .u64 x y = qi .or .u64 y x := by
  intro x y
  unfold qi
  simp only
  rw [BitVec.or_comm]
 rw [e, comm, hq, e2]
 omega
/-- The parts of a product. -/
theorem zfu (x y : Int) (hx : 0 <= x) (hx2 : x < 18446744073709551616) (hy : 0 <= y) (hy2 : y < 18446744073709551616) :
  ∃ p00 p10 p01 p11 : Int, p00 = (x % 4294967296) * (y % 4294967296) /\ p10 = (x / 4294967296) * (y % 4294967296) /\ p01 = (x % 4294967296) * (y / 4294967296) /\ p11 = (x / 4294967296) * (y / 4294967296) ∧
   x * y = p11 * 18446744073709551616 + (p10 + p01) * 4294967296 + p00 /\ 0 <= p00 /\ p00 <= 18446744065119617025 /\ 0 <= p10 /\ p10 <= 18446744065119617025 /\ 0 <= p01 /\ p01 <= 18446744065119617025 /\ 0 <= p11 /\ p11 <= 18446744065119617025 := by
 have b : ∀ u v : Int, 0 <= u -> u <= 4294967295 -> 0 <= v -> v <= 4294967295 -> 0 <= u * v /\ u * v <= 18446744065119617025 := by
  intro u v h1 h2 h3 h4
  refine ⟨Int.mul_nonneg h1 h3, ?_⟩
  have h5 : u * v <= 4294967295 * 4294967295 := Int.mul_le_mul h2 h4 h3 (by decide)
  exact h5
 refine ⟨_, _, _, _, rfl, rfl, rfl, rfl, ?_, ?_⟩
 ·have h1 : x = (x / 4294967296) * 4294967296 + x % 4294967296 := by omega
  have h2 : y = (y / 4294967296) * 4294967296 + y % 4294967296 := by omega
  generalize x / 4294967296 = a at *
  generalize x % 4294967296 = b at *
  generalize y / 4294967296 = c at *
  generalize y % 4294967296 = d at *
  rw [h1, h2]
  simp only [Int.add_mul, Int.mul_add]
  have e1 : a * 4294967296 * (c * 4294967296) = a * c * 18446744073709551616 := by
   rw [Int.mul_assoc, Int.mul_comm 4294967296, Int.mul_assoc c, <- Int.mul_assoc a c]; rfl
  have e2 : a * 4294967296 * d = a * d * 4294967296 := by rw [Int.mul_assoc, Int.mul_comm 4294967296, Int.mul_assoc]
  have e3 : b * (c * 4294967296) = b * c * 4294967296 := by rw [Int.mul_assoc]
  rw [e1, e2, e3]
  omega
 ·obtain ⟨h1, h2⟩ := b (x % 4294967296) (y % 4294967296) (by omega) (by omega) (by omega) (by omega)
  obtain ⟨h3, h4⟩ := b (x / 4294967296) (y % 4294967296) (by omega) (by omega) (by omega) (by omega)
  obtain ⟨h5, h6⟩ := b (x % 4294967296) (y / 4294967296) (by omega) (by omega) (by omega) (by omega)
  obtain ⟨h7, h8⟩ := b (x / 4294967296) (y / 4294967296) (by omega) (by omega) (by omega) (by omega)
  exact ⟨h1, h2, h3, h4, h5, h6, h7, h8⟩
/-- A place, a way. -/
abbrev Vc := Int × Int
def vecC (p : Vc) : List AV := [int p.1, int p.2]
def Vc.ok (p : Vc) : Prop := yi p.1 /\ yi p.2
def vsub (a b : Vc) : Vc := (fsub a.1 b.1, fsub a.2 b.2)
def sqr (v : Vc) : Int := asz v.1 * asz v.1 + asz v.2 * asz v.2
/-- Nearer than 'r'. -/
def near (a b : Vc) (r : Int) : Bool := decide (0 < r /\ sqr (vsub a b) < r * r)
end Go.V
