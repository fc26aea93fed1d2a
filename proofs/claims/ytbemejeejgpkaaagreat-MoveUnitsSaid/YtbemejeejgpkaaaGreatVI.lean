/- The ground on which laws of thronglaw24 are proved: contracts of functions and plain lemmas; no condition beyond the row's own. -/
import Derived.Test.YtbemejeejgpkaaaGreatVH
import Derived.Test.YtbemejeejgpkaaaGreatVK
import Derived.Test.YtbemejeejgpkaaaGreatVG
set_option linter.unusedSimpArgs false
set_option linter.unusedVariables false
namespace Go.V
/-- The first thing that is not right of several ones. -/
def allE (f : Int -> Int) : List Int -> Int
 | [] => 0
 | a :: l => if f a = 0 then allE f l else f a
def ze6 (l : List Unt) (id : Int) : Option Nat := l.findIdx? fun u => decide (u.id = id)
def unt0 : Unt := ⟨0, 0, 0, (0, 0), 0, 0, 0, 0, 0⟩
theorem ziw {l : List Unt} {id : Int} {i : Nat} (h : ze6 l id = some i) : ∃ hi : i < l.length, l[i].id = id := by
 unfold ze6 at h
 rw [List.findIdx?_eq_some_iff_getElem] at h
 obtain ⟨h1, h2, _⟩ := h
 exact ⟨h1, of_decide_eq_true h2⟩
theorem zix {l : List Unt} {id : Int} (h : ze6 l id = none) : ∀ u ∈ l, u.id ≠ id := by
 unfold ze6 at h
 rw [List.findIdx?_eq_none_iff] at h
 exact fun u hu => of_decide_eq_false (h u hu)
theorem yiv {l : List Unt} (hr : yf l) {id : Int} {i : Nat} (hi : i < l.length) (e : l[i].id = id) : ze6 l id = some i := by
 cases h : ze6 l id with
 | none => exact absurd e (zix h _ (List.getElem_mem hi))
 | some k =>
  obtain ⟨hk, e2⟩ := ziw h
  by_cases h1 : k < i
  ·have := xd hr h1 hi; omega
  ·by_cases h2 : i < k
   ·have := xd hr h2 hk; omega
   ·rw [show k = i by omega]
/-- The unit of an ID. -/
def uAt (w : Wld) (id : Int) : Unt := match ze6 w.U id with | none => unt0 | some i => w.U.getD i unt0
/-- What a player is told who asks for a unit. -/
def askE (w : Wld) (P id : Int) : Int := match ze6 w.U id with | none => 3 | some i => if (w.U.getD i unt0).owner = P then (if (w.U.getD i unt0).inn = 0 then 0 else 9) else 6
def rstU (u : Unt) : Unt := { u with goal := -1, next := -1, stuck := 0, state := 0 }
/-- Some units are changed. -/
def setU (l : List Int) (g : Unt -> Unt) (U : List Unt) : List Unt := U.map fun u => if u.id ∈ l then g u else u
/-- Units that are stopped. -/
def stW (w : Wld) (c : Cmd) : Wld := { w with U := setU c.U rstU w.U }
def stE (w : Wld) (c : Cmd) : Int := allE (askE w c.P) c.U
theorem yht {α : Type} {f : α -> List AV} {k : Nat} (hf : ∀ x, (f x).length = k) {U : List α} {i : Nat} (hi : i < U.length) (x : α) (J : List AV) : zo ((rws f U).flatten ++ J) (i * k) (f x) = (rws f (U.set i x)).flatten ++ J := by
 have := w9 (j := 0) (ys := f x) (L := J) (x' := x) hf hi (by rw [hf]; omega) (by
  unfold zo
  rw [hf x, List.take_zero, List.nil_append, Nat.zero_add, List.drop_of_length_le (by rw [hf]; exact Nat.le_refl _), List.append_nil])
 rw [Nat.add_zero] at this
 exact this
end Go.V
namespace Go.V
section
variable {α : Type} {f : α -> List AV} {k : Nat}
end
instance (a b : Bld) : Decidable (ze2 a b) := inferInstanceAs (Decidable (_ /\ _))
/-- The building that is to come. -/
def bdB (w : Wld) (c : Cmd) : Bld := ⟨w.next, c.P, c.T.tmod w.G.W, c.T.tdiv w.G.W, c.W, c.H⟩
open Classical in
noncomputable def putE (g : Gnd) (l : List Bld) (b : Bld) : Int := if ¬ onP g b then 3 else if ∃ x ∈ l, ze2 x b then 12 else if ¬ zhp g b then 5 else if 256 <= l.length then 4 else 0
def ypo (w : Wld) (b : Bld) : Prop := ∃ t : Nat, ((t : Int) < w.G.W * w.G.H /\ hasP w.G b t) /\ ∃ u ∈ w.U, u.inn = 0 /\ hitP w.G t u.pos (kRad u.kind)
open Classical in
noncomputable def bdE (w : Wld) (c : Cmd) : Int := if ¬ (0 <= c.T /\ c.T < w.G.W * w.G.H) then 3 else if 1099511627776 <= w.next then 4 else if putE w.G w.B (bdB w c) = 0 then (if ypo w (bdB w c) then 5 else 0) else putE w.G w.B (bdB w c)
def bdW (w : Wld) (c : Cmd) : Wld := { w with B := w.B ++ [bdB w c], next := w.next + 1 }
def bld0 : Bld := ⟨0, 0, 0, 0, 0, 0⟩
def ypv (l : List Bld) (id : Int) : Option Nat := l.findIdx? fun b => decide (b.id = id)
/-- A building less. -/
def drE (w : Wld) (c : Cmd) : Int := match ypv w.B c.N with | none => 3 | some i => if (w.B.getD i bld0).owner = c.P then 0 else 6
def drW (w : Wld) (c : Cmd) : Wld := match ypv w.B c.N with | none => w | some i => { w with B := w.B.eraseIdx i }
end Go.V
namespace Go.V
end Go.V
namespace Go.V
/-- A whole root, cut at the greatest number. -/
def zap (m r : Int) : Prop := 0 <= r /\ r <= 9223372036854775807 /\ r * r <= m /\ (r = 9223372036854775807 \/ m < (r + 1) * (r + 1))
theorem zos {m r r' : Int} (h : zap m r) (h' : zap m r') : r = r' := by
 obtain ⟨h0, h1, h2, h3⟩ := h
 obtain ⟨g0, g1, g2, g3⟩ := h'
 have a : ¬ r < r' := fun hlt => by
  rcases h3 with h3 | h3
  ·omega
  ·have := Int.mul_le_mul (show r + 1 <= r' by omega) (show r + 1 <= r' by omega) (by omega) g0
   omega
 have b : ¬ r' < r := fun hlt => by
  rcases g3 with h3 | h3
  ·omega
  ·have := Int.mul_le_mul (show r' + 1 <= r by omega) (show r' + 1 <= r by omega) (by omega) h0
   omega
 omega
/-- Farther than 2? -/
def farP (p q : Vc) : Prop := 17180131329 <= sqr (vsub p q)
instance (p q : Vc) : Decidable (farP p q) := inferInstanceAs (Decidable (_ <= _))
/-- Loading. -/
def carE (w : Wld) (P N : Int) : Int := if askE w P N = 0 then (if wv (uAt w N).kind = 0 then 7 else 0) else askE w P N
def yqg (x u : Unt) : Int := if 0 < wv u.kind then 7 else if farP u.pos x.pos then 8 else 0
def ldA (w : Wld) (P N id : Int) : Int := if askE w P id = 0 then yqg (uAt w N) (uAt w id) else askE w P id
def ldE (w : Wld) (c : Cmd) : Int := if carE w c.P c.N = 0 then (if allE (ldA w c.P c.N) c.U = 0 then (if wv (uAt w c.N).kind < ((inOf w.U c.N).length : Int) + (c.U.length : Int) then 4 else 0) else allE (ldA w c.P c.N) c.U) else carE w c.P c.N
def ldU (n : Int) (u : Unt) : Unt := { u with pos := (0, 0), goal := -1, next := -1, stuck := 0, inn := n, state := 0 }
def ldW (w : Wld) (c : Cmd) : Wld := { w with U := setU c.U (ldU c.N) w.U }
/-- One bit below a number's bits. -/
theorem zvt {n : Int} {q m : Nat} (h0 : 0 <= n) (h1 : n < 2 ^ m) (h2 : n + q * 2 ^ m < 18446744073709551616) : qi .or .u64 (q * 2 ^ m) n = q * 2 ^ m + n := by
 obtain ⟨a, rfl⟩ := Int.eq_ofNat_of_zero_le h0
 have e : ((q : Int) * 2 ^ m) = ((q * 2 ^ m : Nat) : Int) := by simp
 have h1' : a < 2 ^ m := by exact_mod_cast h1
 rw [e] at h2 ⊢
 have h3 : a + q * 2 ^ m < 18446744073709551616 := by omega
 rw [(zha (q * 2 ^ m) a (by omega) (by omega)).2, Nat.or_comm, yjs a q m h1', ya (by omega) (by omega)]
 simp
 omega
theorem shl1 {k : Nat} (hk : k <= 62) : IntKind.u64.wrap (1 * 2 ^ (min ((k : Int)).toNat IntKind.u64.bits)) = 2 ^ k := by
 have : (min ((k : Int)).toNat IntKind.u64.bits) = k := by
  show min ((k : Int)).toNat 64 = k
  omega
 rw [this, Int.one_mul]
 have h : (2 : Int) ^ k <= 2 ^ 62 := by exact_mod_cast Nat.pow_le_pow_right (by decide) hk
 have h0 : (0 : Int) < 2 ^ k := Int.pow_pos (by decide)
 have h2 : (2 : Int) ^ 62 = 4611686018427387904 := by decide
 exact ya (by omega) (by omega)
/-- The road to a root: bits from k on are reckoned. -/
def zej (m r : Int) (k : Nat) : Prop := ∃ q : Nat, r = q * 2 ^ k /\ r + 2 ^ k <= 9223372036854775808 /\ r * r <= m /\ (m < (r + 2 ^ k) * (r + 2 ^ k) \/ r + 2 ^ k = 9223372036854775808)
theorem zlu {m : Int} (hm : 0 <= m) : zej m 0 63 := ⟨0, by simp, by decide, by simpa using hm, .inr (by decide)⟩
theorem zru {m r : Int} (h : zej m r 0) : zap m r := by
 obtain ⟨q, e, h1, h2, h3⟩ := h
 have e1 : (2 : Int) ^ 0 = 1 := rfl
 rw [e1] at h1 h3 e
 exact ⟨by omega, by omega, h2, h3.symm.imp (fun h => by omega) id⟩
theorem zrv {m r : Int} {k : Nat} (h : zej m r (k + 1)) : qi .or .u64 r (2 ^ k) = r + 2 ^ k /\ 0 <= r /\ (0 : Int) < 2 ^ k /\ r + 2 ^ k < 9223372036854775808 := by
 obtain ⟨q, e, h1, h2, h3⟩ := h
 have h0 : (0 : Int) < 2 ^ k := Int.pow_pos (by decide)
 have e2 : (2 : Int) ^ (k + 1) = 2 * 2 ^ k := by rw [Int.pow_succ, Int.mul_comm]
 have hr : 0 <= r := by rw [e]; exact Int.mul_nonneg (by omega) (by omega)
 rw [e2] at h1
 refine ⟨?_, hr, h0, by omega⟩
 rw [e]
 refine zvt (by omega) (by rw [e2]; omega) ?_
 rw [<- e]; omega
theorem zuz {m r : Int} {k : Nat} (h : zej m r (k + 1)) (hn : m < (r + 2 ^ k) * (r + 2 ^ k)) : zej m r k := by
 obtain ⟨q, e, h1, h2, h3⟩ := h
 have e2 : (2 : Int) ^ (k + 1) = 2 * 2 ^ k := by rw [Int.pow_succ, Int.mul_comm]
 have h0 : (0 : Int) < 2 ^ k := Int.pow_pos (by decide)
 rw [e2] at h1
 refine ⟨2 * q, ?_, by omega, h2, .inl hn⟩
 rw [e, e2]
 push_cast
 rw [<- Int.mul_assoc, Int.mul_comm (q : Int) 2]
theorem zrt {m r : Int} {k : Nat} (h : zej m r (k + 1)) (hn : (r + 2 ^ k) * (r + 2 ^ k) <= m) : zej m (r + 2 ^ k) k := by
 obtain ⟨q, e, h1, h2, h3⟩ := h
 have e2 : (2 : Int) ^ (k + 1) = 2 * 2 ^ k := by rw [Int.pow_succ, Int.mul_comm]
 have h0 : (0 : Int) < 2 ^ k := Int.pow_pos (by decide)
 rw [e2] at h1 h3
 have e3 : r + 2 ^ k + 2 ^ k = r + 2 * 2 ^ k := by omega
 refine ⟨2 * q + 1, ?_, by omega, hn, by rw [e3]; exact h3⟩
 rw [e, e2]
 push_cast
 rw [Int.add_mul, Int.one_mul, <- Int.mul_assoc, Int.mul_comm (q : Int) 2]
/-- Halving. -/
def zf8 (m low high : Int) : Prop := 0 <= low /\ low <= high /\ high <= 9223372036854775807 /\ low * low <= m /\ (m < (high + 1) * (high + 1) \/ high = 9223372036854775807)
theorem zlv {m : Int} (hm : 0 <= m) : zf8 m 0 9223372036854775807 := ⟨by decide, by decide, by decide, by simpa using hm, .inr rfl⟩
theorem zrw {m l h : Int} (hh : zf8 m l h) (h1 : ¬ l < h) : zap m l := by
 obtain ⟨g0, g1, g2, g3, g4⟩ := hh
 have : h = l := by omega
 subst this
 exact ⟨g0, g2, g3, g4.symm⟩
theorem zu0 {m l h r : Int} (hh : zf8 m l h) (h1 : l < r) (h2 : r <= h) (h3 : r * r <= m) : zf8 m r h := by
 obtain ⟨g0, g1, g2, g3, g4⟩ := hh
 exact ⟨by omega, h2, g2, h3, g4⟩
theorem zu1 {m l h r : Int} (hh : zf8 m l h) (h1 : l < r) (h2 : r <= h) (h3 : m < r * r) : zf8 m l (r - 1) := by
 obtain ⟨g0, g1, g2, g3, g4⟩ := hh
 exact ⟨g0, by omega, by omega, g3, .inl (by rw [Int.sub_add_cancel]; exact h3)⟩
end Go.V
namespace Go.V
def onG (g : Gnd) (x y : Int) : Prop := (0 <= x /\ x < g.W) /\ (0 <= y /\ y < g.H)
instance (g : Gnd) (x y : Int) : Decidable (onG g x y) := inferInstanceAs (Decidable (_ /\ _))
def tl (g : Gnd) (x y : Int) : Nat := (x + g.W * y).toNat
theorem xq {g : Gnd} (hg : gndP g) {x y : Int} (h : onG g x y) : ((tl g x y : Nat) : Int) = x + g.W * y /\ tl g x y < g.T.length /\ (tl g x y : Int) % g.W = x /\ (tl g x y : Int) / g.W = y := by
 obtain ⟨h1, h2, h3⟩ := zr hg
 obtain ⟨⟨hx, hx2⟩, hy, hy2⟩ := h
 have hW : 1 <= g.W := hg.1.1
 have e0 : 0 <= g.W * y := Int.mul_nonneg (by omega) hy
 have e : ((tl g x y : Nat) : Int) = x + g.W * y := by unfold tl; omega
 have e1 : g.W * y <= g.W * (g.H - 1) := Int.mul_le_mul (Int.le_refl _) (by omega) hy (by omega)
 rw [Int.mul_sub, Int.mul_one] at e1
 refine ⟨e, by omega, ?_, ?_⟩
 ·rw [e, Int.add_mul_emod_self_left, Int.emod_eq_of_lt hx hx2]
 ·rw [e, Int.add_mul_ediv_left _ _ (by omega), Int.ediv_eq_zero_of_lt hx hx2, Int.zero_add]
theorem zon {g : Gnd} (hg : gndP g) {t : Nat} (ht : t < g.T.length) : onG g ((t : Int) % g.W) ((t : Int) / g.W) /\ tl g ((t : Int) % g.W) ((t : Int) / g.W) = t := by
 obtain ⟨h1, h2, h3⟩ := zr hg
 have hW : 1 <= g.W := hg.1.1
 have a := Int.emod_nonneg (t : Int) (show g.W ≠ 0 by omega)
 have b := Int.emod_lt_of_pos (t : Int) (show 0 < g.W by omega)
 have c := Int.ediv_nonneg (show 0 <= (t : Int) by omega) (show 0 <= g.W by omega)
 have d : (t : Int) / g.W < g.H := Int.ediv_lt_of_lt_mul (by omega) (by rw [Int.mul_comm]; omega)
 refine ⟨⟨⟨a, b⟩, c, d⟩, ?_⟩
 unfold tl
 rw [Int.emod_add_mul_ediv]
 omega
/-- All tiles of a square are good. -/
def sqP (g : Gnd) (f : Nat -> Bool) (s : Nat) (x y : Int) : Prop := ∀ a b : Int, -(s : Int) <= a -> a <= s -> -(s : Int) <= b -> b <= s -> onG g (x + a) (y + b) /\ f (tl g (x + a) (y + b)) = true
theorem sq_zero {g : Gnd} {f : Nat -> Bool} {x y : Int} : sqP g f 0 x y ↔ onG g x y /\ f (tl g x y) = true := by
 constructor
 ·intro h
  have := h 0 0 (by decide) (by decide) (by decide) (by decide)
  simpa using this
 ·intro h a b h1 h2 h3 h4
  have ea : a = 0 := by omega
  have eb : b = 0 := by omega
  subst ea eb
  simpa using h
theorem sq_succ {g : Gnd} {f : Nat -> Bool} {s : Nat} {x y : Int} : sqP g f (s + 1) x y ↔ ∀ a b : Int, -1 <= a -> a <= 1 -> -1 <= b -> b <= 1 -> onG g (x + a) (y + b) /\ sqP g f s (x + a) (y + b) := by
 constructor
 ·intro h a b h1 h2 h3 h4
  refine ⟨(h a b (by omega) (by omega) (by omega) (by omega)).1, fun a' b' k1 k2 k3 k4 => ?_⟩
  have := h (a + a') (b + b') (by omega) (by omega) (by omega) (by omega)
  rw [<- Int.add_assoc, <- Int.add_assoc] at this
  exact this
 ·intro h a b h1 h2 h3 h4
  obtain ⟨a1, ha1, ha2, ha3, ha4⟩ : ∃ a1 : Int, -1 <= a1 /\ a1 <= 1 /\ -(s : Int) <= a - a1 /\ a - a1 <= s := by
   by_cases c1 : a > s
   ·exact ⟨1, by omega, by omega, by omega, by omega⟩
   ·by_cases c2 : a < -s
    ·exact ⟨-1, by omega, by omega, by omega, by omega⟩
    ·exact ⟨0, by omega, by omega, by omega, by omega⟩
  obtain ⟨b1, hb1, hb2, hb3, hb4⟩ : ∃ b1 : Int, -1 <= b1 /\ b1 <= 1 /\ -(s : Int) <= b - b1 /\ b - b1 <= s := by
   by_cases c1 : b > s
   ·exact ⟨1, by omega, by omega, by omega, by omega⟩
   ·by_cases c2 : b < -s
    ·exact ⟨-1, by omega, by omega, by omega, by omega⟩
    ·exact ⟨0, by omega, by omega, by omega, by omega⟩
  have := (h a1 b1 ha1 ha2 hb1 hb2).2 (a - a1) (b - b1) ha3 ha4 hb3 hb4
  rw [show x + a1 + (a - a1) = x + a by omega, show y + b1 + (b - b1) = y + b by omega] at this
  exact this
theorem zn2 {g : Gnd} {f : Nat -> Bool} {s s' : Nat} (hs : s' <= s) {x y : Int} (h : sqP g f s x y) : sqP g f s' x y := fun a b h1 h2 h3 h4 => h a b (by omega) (by omega) (by omega) (by omega)
theorem ymp {g : Gnd} {f : Nat -> Bool} {s : Nat} {x y : Int} (h : sqP g f s x y) : 2 * (s : Int) + 1 <= g.W := by
 have h1 := (h (-(s : Int)) 0 (by omega) (by omega) (by omega) (by omega)).1.1.1
 have h2 := (h s 0 (by omega) (by omega) (by omega) (by omega)).1.1.2
 omega
def m5 (a b c d e : Int) : Int := min (min (min (min a (b + 1)) (c + 1)) (d + 1)) (e + 1)
/-- Two sweeps tell how far it is to what is not good. -/
theorem cham {g : Gnd} {f : Nat -> Bool} {A B : Int -> Int -> Int} (oA : ∀ x y, ¬ onG g x y -> A x y = 0) (oB : ∀ x y, ¬ onG g x y -> B x y = 0)
  (hA : ∀ x y, onG g x y -> A x y = m5 (if f (tl g x y) then 128 else 0) (A (x - 1) y) (A (x - 1) (y - 1)) (A x (y - 1)) (A (x + 1) (y - 1)))
  (hB : ∀ x y, onG g x y -> B x y = m5 (A x y) (B (x + 1) y) (B (x + 1) (y + 1)) (B x (y + 1)) (B (x - 1) (y + 1))) {x y : Int} (hxy : onG g x y) (s : Nat) (hs : s <= 127) : (s : Int) < B x y ↔ sqP g f s x y := by
 -- not below 0
 have nA : ∀ n : Nat, ∀ x y, onG g x y -> y * 200 + x < n -> 0 <= A x y := by
  intro n
  induction n with
  | zero => intro x y h hn; obtain ⟨⟨h1, h2⟩, h3, h4⟩ := h; omega
  | succ n ih =>
   intro x y h hn
   have any : ∀ x' y', y' * 200 + x' < y * 200 + x -> 0 <= A x' y' := fun x' y' hl => by
    by_cases ho : onG g x' y'
    ·exact ih x' y' ho (by omega)
    ·rw [oA x' y' ho]; decide
   rw [hA x y h]
   have a1 := any (x - 1) y (by omega)
   have a2 := any (x - 1) (y - 1) (by omega)
   have a3 := any x (y - 1) (by omega)
   have a4 := any (x + 1) (y - 1) (by omega)
   have a5 : (0 : Int) <= (if f (tl g x y) then 128 else 0) := by split <;> decide
   unfold m5
   omega
 have pA : ∀ x y, 0 <= A x y := fun x y => by
  by_cases ho : onG g x y
  ·exact nA (y * 200 + x + 1).toNat x y ho (by obtain ⟨⟨h1, h2⟩, h3, h4⟩ := ho; omega)
  ·rw [oA x y ho]; decide
 have nB : ∀ n : Nat, ∀ x y, onG g x y -> (g.H - y) * 200 + (g.W - x) < n -> 0 <= B x y := by
  intro n
  induction n with
  | zero => intro x y h hn; obtain ⟨⟨h1, h2⟩, h3, h4⟩ := h; omega
  | succ n ih =>
   intro x y h hn
   have any : ∀ x' y', (g.H - y') * 200 + (g.W - x') < (g.H - y) * 200 + (g.W - x) -> 0 <= B x' y' := fun x' y' hl => by
    by_cases ho : onG g x' y'
    ·exact ih x' y' ho (by omega)
    ·rw [oB x' y' ho]; decide
   rw [hB x y h]
   have a1 := any (x + 1) y (by omega)
   have a2 := any (x + 1) (y + 1) (by omega)
   have a3 := any x (y + 1) (by omega)
   have a4 := any (x - 1) (y + 1) (by omega)
   have a5 := pA x y
   unfold m5
   omega
 have pB : ∀ x y, 0 <= B x y := fun x y => by
  by_cases ho : onG g x y
  ·exact nB ((g.H - y) * 200 + (g.W - x) + 1).toNat x y ho (by obtain ⟨⟨h1, h2⟩, h3, h4⟩ := ho; omega)
  ·rw [oB x y ho]; decide
 constructor
 ·-- what is bad is not farther than its steps
  have up1 : ∀ d : Nat, ∀ x y a b, onG g x y -> -(d : Int) <= a -> a <= d -> -(d : Int) <= b -> b <= 0 -> a <= -b -> ¬ (onG g (x + a) (y + b) /\ f (tl g (x + a) (y + b)) = true) -> A x y <= d := by
   intro d
   induction d with
   | zero =>
    intro x y a b h h1 h2 h3 h4 h5 hbad
    have ea : a = 0 := by omega
    have eb : b = 0 := by omega
    subst ea eb
    rw [Int.add_zero, Int.add_zero] at hbad
    have hf : ¬ f (tl g x y) = true := fun hf => hbad ⟨h, hf⟩
    rw [hA x y h, if_neg hf]
    unfold m5
    omega
   | succ d ih =>
    intro x y a b h h1 h2 h3 h4 h5 hbad
    have go : ∀ u v : Int, -(d : Int) <= a - u -> a - u <= d -> -(d : Int) <= b - v -> b - v <= 0 -> a - u <= -(b - v) -> A (x + u) (y + v) <= d := fun u v g1 g2 g3 g4 g5 => by
     by_cases ho : onG g (x + u) (y + v)
     ·refine ih (x + u) (y + v) (a - u) (b - v) ho g1 g2 g3 g4 g5 ?_
      rw [show x + u + (a - u) = x + a by omega, show y + v + (b - v) = y + b by omega]
      exact hbad
     ·rw [oA _ _ ho]; omega
    have hk := hA x y h
    unfold m5 at hk
    by_cases cb : b = 0
    ·by_cases ca : a = 0
     ·subst ca cb
      rw [Int.add_zero, Int.add_zero] at hbad
      have hf : ¬ f (tl g x y) = true := fun hf => hbad ⟨h, hf⟩
      rw [if_neg hf] at hk
      omega
     ·have := go (-1) 0 (by omega) (by omega) (by omega) (by omega) (by omega)
      rw [show x + -1 = x - 1 by omega, Int.add_zero] at this
      omega
    ·by_cases ca : a = 0
     ·have := go 0 (-1) (by omega) (by omega) (by omega) (by omega) (by omega)
      rw [show y + -1 = y - 1 by omega, Int.add_zero] at this
      omega
     ·by_cases ca2 : a < 0
      ·have := go (-1) (-1) (by omega) (by omega) (by omega) (by omega) (by omega)
       rw [show y + -1 = y - 1 by omega, show x + -1 = x - 1 by omega] at this
       omega
      ·have := go 1 (-1) (by omega) (by omega) (by omega) (by omega) (by omega)
       rw [show y + -1 = y - 1 by omega] at this
       omega
  have up2 : ∀ d : Nat, ∀ x y a b, onG g x y -> -(d : Int) <= a -> a <= d -> -(d : Int) <= b -> b <= d -> ¬ (onG g (x + a) (y + b) /\ f (tl g (x + a) (y + b)) = true) -> B x y <= d := by
   intro d
   induction d with
   | zero =>
    intro x y a b h h1 h2 h3 h4 hbad
    have := up1 0 x y a b h h1 h2 h3 (by omega) (by omega) hbad
    have hk := hB x y h
    unfold m5 at hk
    omega
   | succ d ih =>
    intro x y a b h h1 h2 h3 h4 hbad
    have hk := hB x y h
    unfold m5 at hk
    by_cases cone : b <= 0 /\ a <= -b
    ·have := up1 (d + 1) x y a b h h1 h2 h3 cone.1 cone.2 hbad
     omega
    have go : ∀ u v : Int, -(d : Int) <= a - u -> a - u <= d -> -(d : Int) <= b - v -> b - v <= d -> B (x + u) (y + v) <= d := fun u v g1 g2 g3 g4 => by
     by_cases ho : onG g (x + u) (y + v)
     ·refine ih (x + u) (y + v) (a - u) (b - v) ho g1 g2 g3 g4 ?_
      rw [show x + u + (a - u) = x + a by omega, show y + v + (b - v) = y + b by omega]
      exact hbad
     ·rw [oB _ _ ho]; omega
    by_cases cb : b <= 0
    ·have := go 1 0 (by omega) (by omega) (by omega) (by omega)
     rw [Int.add_zero] at this
     omega
    ·by_cases ca : a = 0
     ·have := go 0 1 (by omega) (by omega) (by omega) (by omega)
      rw [Int.add_zero] at this
      omega
     ·by_cases ca2 : a < 0
      ·have := go (-1) 1 (by omega) (by omega) (by omega) (by omega)
       rw [show x + -1 = x - 1 by omega] at this
       omega
      ·have := go 1 1 (by omega) (by omega) (by omega) (by omega)
       omega
  intro hlt a b h1 h2 h3 h4
  refine Classical.byContradiction fun hbad => ?_
  have := up2 s x y a b hxy h1 h2 h3 h4 hbad
  omega
 ·-- what is good all about is far
  have loA : ∀ s : Nat, s <= 127 -> ∀ x y, sqP g f s x y -> (s : Int) < A x y := by
   intro s
   induction s with
   | zero =>
    intro _ x y h
    obtain ⟨ho, hf⟩ := sq_zero.1 h
    rw [hA x y ho, if_pos hf]
    have a1 := pA (x - 1) y
    have a2 := pA (x - 1) (y - 1)
    have a3 := pA x (y - 1)
    have a4 := pA (x + 1) (y - 1)
    unfold m5
    omega
   | succ s ih =>
    intro hs x y h
    have h2 := sq_succ.1 h
    have nb := fun (a b : Int) h3 h4 h5 h6 => ih (by omega) _ _ (h2 a b h3 h4 h5 h6).2
    obtain ⟨ho, hf⟩ := sq_zero.1 (zn2 (Nat.zero_le _) h)
    have a1 := nb (-1) 0 (by decide) (by decide) (by decide) (by decide)
    have a2 := nb (-1) (-1) (by decide) (by decide) (by decide) (by decide)
    have a3 := nb 0 (-1) (by decide) (by decide) (by decide) (by decide)
    have a4 := nb 1 (-1) (by decide) (by decide) (by decide) (by decide)
    rw [show x + -1 = x - 1 by omega] at a1 a2
    rw [show y + -1 = y - 1 by omega] at a2 a3 a4
    rw [Int.add_zero] at a1 a3
    rw [hA x y ho, if_pos hf]
    unfold m5
    omega
  have loB : ∀ s : Nat, s <= 127 -> ∀ x y, sqP g f s x y -> (s : Int) < B x y := by
   intro s
   induction s with
   | zero =>
    intro hs x y h
    obtain ⟨ho, hf⟩ := sq_zero.1 h
    rw [hB x y ho]
    have a1 := pB (x + 1) y
    have a2 := pB (x + 1) (y + 1)
    have a3 := pB x (y + 1)
    have a4 := pB (x - 1) (y + 1)
    have a5 := loA 0 hs x y h
    unfold m5
    omega
   | succ s ih =>
    intro hs x y h
    have h2 := sq_succ.1 h
    have nb := fun (a b : Int) h3 h4 h5 h6 => ih (by omega) _ _ (h2 a b h3 h4 h5 h6).2
    obtain ⟨ho, hf⟩ := sq_zero.1 (zn2 (Nat.zero_le _) h)
    have a1 := nb 1 0 (by decide) (by decide) (by decide) (by decide)
    have a2 := nb 1 1 (by decide) (by decide) (by decide) (by decide)
    have a3 := nb 0 1 (by decide) (by decide) (by decide) (by decide)
    have a4 := nb (-1) 1 (by decide) (by decide) (by decide) (by decide)
    rw [show x + -1 = x - 1 by omega] at a4
    rw [Int.add_zero] at a1 a3
    have a5 := loA (s + 1) hs x y h
    rw [hB x y ho]
    unfold m5
    omega
  exact loB s hs x y
end Go.V
namespace Go.V
/-- How far by rows and columns. -/
def absM (i j : Int) : Int := max (max i (-i)) (max j (-j))
/-- A tile at just this way from a place, by steps of k. -/
def yqd (g : Gnd) (x y k d : Int) (t : Nat) : Bool := decide (absM ((t : Int) % g.W - x) ((t : Int) / g.W - y) = d /\ ((t : Int) % g.W - x).tmod k = 0 /\ ((t : Int) / g.W - y).tmod k = 0)
def yqc (g : Gnd) (x y k d : Int) : List Nat := (List.range g.T.length).filter (yqd g x y k d)
/-- Places about a goal: all that are less than d away, by ways. -/
def yqa (g : Gnd) (f : Nat -> Bool) (x y k d : Int) : List Nat := (yqc g x y k d).filter f
def zuk (g : Gnd) (f : Nat -> Bool) (x y k : Int) : Nat -> List Nat
 | 0 => []
 | d + 1 => zuk g f x y k d ++ yqa g f x y k d
/-- Places about a goal. -/
def yo9 (g : Gnd) (f : Nat -> Bool) (size goal : Int) (n : Nat) : List Nat := (zuk g f (goal % g.W) (goal / g.W) (2 * size + 1) (g.W + g.H + 1).toNat).take n
end Go.V
namespace Go.V
/-- Cells of whole numbers. -/
def il (n : Nat) (f : Nat -> Int) : List AV := (List.range n).map fun t => int (f t)
theorem yv (n : Nat) (f : Nat -> Int) : (il n f).length = n := by simp [il]
theorem zbe {n : Nat} {f : Nat -> Int} {t : Nat} (h : t < n) : (il n f)[t]? = some (int (f t)) := by simp [il, h]
theorem yx {n : Nat} {f : Nat -> Int} {t : Nat} (h : t < n) : ((il n f).drop (0 + t * 1)).head? = some (int (f t)) := by
 rw [List.head?_drop, show 0 + t * 1 = t by omega, zbe h]
theorem zkt {n : Nat} {f : Nat -> Bool} {t : Nat} (h : t < n) : ((bl n f).drop (0 + t * 1)).head? = some (bool (f t)) := by
 rw [List.head?_drop, show 0 + t * 1 = t by omega, zdm h]
theorem zgr (n : Nat) : List.replicate n (AV.s (.int .i64 0)) = il n fun _ => 0 := by
 unfold il
 rw [List.map_const', List.length_range]
 rfl
def setI (f : Nat -> Int) (t : Nat) (v : Int) : Nat -> Int := fun s => if s = t then v else f s
theorem wn (f : Nat -> Int) (t : Nat) (v : Int) : setI f t v t = v := if_pos rfl
theorem zce (f : Nat -> Int) {t s : Nat} (v : Int) (h : s ≠ t) : setI f t v s = f s := if_neg h
theorem ymu (f : Nat -> Int) (t : Nat) : setI f t (f t) = f := funext fun s => by
 unfold setI
 split
 ·rename_i h; rw [h]
 ·rfl
theorem zf3 (f : Nat -> Int) (t : Nat) (v u : Int) : setI (setI f t v) t u = setI f t u := funext fun s => by
 unfold setI
 split <;> simp_all
theorem zwp {n : Nat} {f : Nat -> Int} {t : Nat} (h : t < n) (g : Nat -> Int) (hg : ∀ s, s ≠ t -> g s = f s) : zo (il n f) t [int (g t)] = il n g := by
 unfold zo
 apply List.ext_getElem?
 intro s
 by_cases h1 : s < t
 ·rw [List.append_assoc, List.getElem?_append_left (by rw [List.length_take, yv]; omega), List.getElem?_take_of_lt h1, zbe (by omega), zbe (by omega), hg s (by omega)]
 ·by_cases h2 : s = t
  ·subst h2
   rw [List.append_assoc, List.getElem?_append_right (by rw [List.length_take, yv]; omega), List.length_take, yv, show s - min s n = 0 by omega, zbe h]
   rfl
  ·rw [List.getElem?_append_right (by rw [List.length_append, List.length_take, yv]; simp; omega), List.length_append, List.length_take, yv, List.getElem?_drop]
   by_cases h3 : s < n
   ·have e : t + [int (g t)].length + (s - (min t n + [int (g t)].length)) = s := by simp; omega
    rw [e, zbe h3, zbe h3, hg s h2]
   ·rw [List.getElem?_eq_none (by rw [yv]; simp; omega), List.getElem?_eq_none (by rw [yv]; omega)]
theorem zc8 {n : Nat} {f : Nat -> Int} {t : Nat} (h : t < n) (v : Int) : zo (il n f) t [int v] = il n (setI f t v) := by
 have := zwp h (setI f t v) (fun s hs => zce f v hs)
 rw [wn] at this
 exact this
def ilL (n : Nat) (f : Nat -> Int) : List Int := (List.range n).map f
theorem k9 (n : Nat) (f : Nat -> Int) : (ilL n f).length = n := by simp [ilL]
theorem zwr {n : Nat} {f : Nat -> Int} {t : Nat} (h : t < n) : (ilL n f)[t]'(by rw [k9]; exact h) = f t := by simp [ilL]
theorem zwq (n : Nat) (f : Nat -> Int) : (rws intC (ilL n f)).flatten = il n f := by
 unfold rws ilL il
 rw [List.map_map]
 generalize List.range n = l
 induction l with
 | nil => rfl
 | cons a l ih => simp only [List.map_cons, List.flatten_cons, ih]; rfl
theorem kh {n : Nat} {f g : Nat -> Int} (h : ∀ t, t < n -> f t = g t) : il n f = il n g := List.map_congr_left fun t ht => by rw [h t (List.mem_range.1 ht)]
theorem zku {n : Nat} {f g : Nat -> Bool} (h : ∀ t, t < n -> f t = g t) : bl n f = bl n g := List.map_congr_left fun t ht => by rw [h t (List.mem_range.1 ht)]
theorem zx2 {n : Nat} {f g : Nat -> Bool} (h : ∀ t, t < n -> f t = g t) : blL n f = blL n g := List.map_congr_left fun t ht => h t (List.mem_range.1 ht)
/-- What a place reads as: nothing is there, or its number. -/
def gv (g : Gnd) (f : Nat -> Int) (x y : Int) : Int := if onG g x y then f (tl g x y) else 0
def zas (g : Gnd) (f : Nat -> Int) (x y : Int) (v : Int) (ws : List (Int × Int)) : Int := ws.foldl (fun v d => min v (gv g f (x + d.1) (y + d.2) + 1)) v
theorem gv_b {g : Gnd} (hg : gndP g) {f : Nat -> Int} (hf : ∀ t, t < g.T.length -> 0 <= f t /\ f t <= 128) (x y : Int) : 0 <= gv g f x y /\ gv g f x y <= 128 := by
 unfold gv
 split
 ·rename_i h; exact hf _ (xq hg h).2.1
 ·omega
theorem zoi {g : Gnd} (hg : gndP g) {f : Nat -> Int} (hf : ∀ t, t < g.T.length -> 0 <= f t /\ f t <= 128) (x y : Int) : ∀ (ws : List (Int × Int)) (v : Int), 0 <= v /\ v <= 128 -> 0 <= zas g f x y v ws /\ zas g f x y v ws <= 128
 | [], v, hv => hv
 | d :: r, v, hv => by
  have := gv_b hg hf (x + d.1) (y + d.2)
  exact zoi hg hf x y r (min v (gv g f (x + d.1) (y + d.2) + 1)) (by omega)
theorem zsd (g : Gnd) (f : Nat -> Int) (x y v : Int) (ws : List (Int × Int)) {i : Nat} (hi : i < ws.length) : zas g f x y v (ws.take (i + 1)) = min (zas g f x y v (ws.take i)) (gv g f (x + ws[i].1) (y + ws[i].2) + 1) := by
 unfold zas
 rw [List.take_succ_eq_append_getElem hi, List.foldl_append]
 rfl
theorem ypa {n : Nat} {f : Nat -> Int} (hf : ∀ t, t < n -> 0 <= f t /\ f t <= 128) {t : Nat} {v : Int} (hv : 0 <= v /\ v <= 128) : ∀ s, s < n -> 0 <= setI f t v s /\ setI f t v s <= 128 := fun s hs => by
 unfold setI
 split
 ·exact hv
 ·exact hf s hs
/-- Another place is not touched. -/
theorem yn8 {g : Gnd} (hg : gndP g) (f : Nat -> Int) {t : Nat} (v : Int) {dx dy : Int} (hd : dx ≠ 0 \/ dy ≠ 0) : gv g (setI f t v) ((t : Int) % g.W + dx) ((t : Int) / g.W + dy) = gv g f ((t : Int) % g.W + dx) ((t : Int) / g.W + dy) := by
 unfold gv
 split
 ·rename_i h
  obtain ⟨_, _, h3, h4⟩ := xq hg h
  refine zce f v fun e => ?_
  rw [e] at h3 h4
  omega
 ·rfl
def fwdW : List (Int × Int) := [(-1, 0), (-1, -1), (0, -1), (1, -1)]
def bwdW : List (Int × Int) := [(1, 0), (1, 1), (0, 1), (-1, 1)]
def wayC (d : Int × Int) : List AV := [int d.1, int d.2]
def zh5 (g : Gnd) (f : Nat -> Int) (ws : List (Int × Int)) (t : Nat) : Nat -> Int := setI f t (zas g f ((t : Int) % g.W) ((t : Int) / g.W) (f t) ws)
def jf (g : Gnd) (f : Nat -> Int) : Nat -> Nat -> Int
 | 0 => f
 | i + 1 => zh5 g (jf g f i) fwdW i
def vm (g : Gnd) (f : Nat -> Int) (n : Nat) : Nat -> Nat -> Int
 | 0 => f
 | j + 1 => zh5 g (vm g f n j) bwdW (n - 1 - j)
theorem zpz {g : Gnd} (hg : gndP g) {f : Nat -> Int} (hf : ∀ t, t < g.T.length -> 0 <= f t /\ f t <= 128) {ws : List (Int × Int)} {t : Nat} (ht : t < g.T.length) : ∀ s, s < g.T.length -> 0 <= zh5 g f ws t s /\ zh5 g f ws t s <= 128 :=
 ypa hf (zoi hg hf _ _ _ _ (hf t ht))
theorem zjj {g : Gnd} (hg : gndP g) {f : Nat -> Int} (hf : ∀ t, t < g.T.length -> 0 <= f t /\ f t <= 128) : ∀ i, i <= g.T.length -> ∀ s, s < g.T.length -> 0 <= jf g f i s /\ jf g f i s <= 128
 | 0, _ => hf
 | i + 1, hi => zpz hg (zjj hg hf i (by omega)) (by omega)
theorem zp0 {g : Gnd} (hg : gndP g) {f : Nat -> Int} (hf : ∀ t, t < g.T.length -> 0 <= f t /\ f t <= 128) : ∀ i, i <= g.T.length -> ∀ s, s < g.T.length -> 0 <= vm g f g.T.length i s /\ vm g f g.T.length i s <= 128
 | 0, _ => hf
 | i + 1, hi => zpz hg (zp0 hg hf i (by omega)) (by omega)
theorem zh7 (g : Gnd) (f : Nat -> Int) : ∀ i s, i <= s -> jf g f i s = f s
 | 0, _, _ => rfl
 | i + 1, s, h => by
  show setI _ i _ s = _
  rw [zce _ _ (by omega), zh7 g f i s (by omega)]
theorem zcr (g : Gnd) (f : Nat -> Int) : ∀ i s, s < i -> jf g f i s = jf g f (s + 1) s
 | 0, _, h => absurd h (Nat.not_lt_zero _)
 | i + 1, s, h => by
  by_cases e : s = i
  ·subst e; rfl
  ·show setI _ i _ s = _
   rw [zce _ _ e, zcr g f i s (by omega)]
theorem zh6 (g : Gnd) (f : Nat -> Int) (n : Nat) : ∀ j s, s + j < n -> vm g f n j s = f s
 | 0, _, _ => rfl
 | j + 1, s, h => by
  show setI _ (n - 1 - j) _ s = _
  rw [zce _ _ (by omega), zh6 g f n j s (by omega)]
theorem zcq (g : Gnd) (f : Nat -> Int) (n : Nat) : ∀ j s, s < n -> j <= n -> n <= s + j -> vm g f n j s = vm g f n (n - 1 - s + 1) s
 | 0, s, h, _, h2 => absurd h2 (by omega)
 | j + 1, s, h, h1, h2 => by
  by_cases e : s = n - 1 - j
  ·have : j + 1 = n - 1 - s + 1 := by omega
   rw [this]
  ·show setI _ (n - 1 - j) _ s = _
   rw [zce _ _ e, zcq g f n j s h (by omega) (by omega)]
theorem ynw (g : Gnd) (f : Nat -> Int) (x y v : Int) : zas g f x y v fwdW = m5 v (gv g f (x - 1) y) (gv g f (x - 1) (y - 1)) (gv g f x (y - 1)) (gv g f (x + 1) (y - 1)) := by
 unfold zas fwdW m5
 simp only [List.foldl_cons, List.foldl_nil, Int.add_zero, <- Int.sub_eq_add_neg]
theorem ynv (g : Gnd) (f : Nat -> Int) (x y v : Int) : zas g f x y v bwdW = m5 v (gv g f (x + 1) y) (gv g f (x + 1) (y + 1)) (gv g f x (y + 1)) (gv g f (x - 1) (y + 1)) := by
 unfold zas bwdW m5
 simp only [List.foldl_cons, List.foldl_nil, Int.add_zero, <- Int.sub_eq_add_neg]
/-- How much room there is. -/
def zf9 (g : Gnd) (o : Nat -> Bool) : Nat -> Int := vm g (jf g (fun t => if o t then 128 else 0) g.T.length) g.T.length g.T.length
theorem ynp {g : Gnd} (hg : gndP g) (o : Nat -> Bool) {t : Nat} (ht : t < g.T.length) (s : Nat) (hs : s <= 127) : (s : Int) < zf9 g o t ↔ sqP g o s ((t : Int) % g.W) ((t : Int) / g.W) := by
 have hW : 1 <= g.W := hg.1.1
 obtain ⟨ho, he⟩ := zon hg ht
 have key := cham (g := g) (f := o) (A := gv g (jf g (fun t => if o t then 128 else 0) g.T.length)) (B := gv g (zf9 g o))
  (fun x y h => if_neg h) (fun x y h => if_neg h) (fun x y h => ?_) (fun x y h => ?_) ho s hs
 ·rw [<- key]
  unfold gv
  rw [if_pos ho, he]
 ·obtain ⟨e1, e2, e3, e4⟩ := xq hg h
  have nb : ∀ dx dy : Int, (dy = -1 \/ dy = 0 /\ dx = -1) -> dx <= 1 -> gv g (jf g (fun t => if o t then 128 else 0) (tl g x y)) (x + dx) (y + dy) = gv g (jf g (fun t => if o t then 128 else 0) g.T.length) (x + dx) (y + dy) := fun dx dy hd hx => by
   unfold gv
   split
   ·rename_i h2
    obtain ⟨f1, f2, f3, f4⟩ := xq hg h2
    have hlt : tl g (x + dx) (y + dy) < tl g x y := by
     have hb := h.1
     have hb2 := h2.1
     rcases hd with rfl | ⟨rfl, rfl⟩
     ·have : g.W * (y + -1) = g.W * y - g.W := by rw [Int.mul_add]; omega
      rw [this] at f1
      have hne : (tl g (x + dx) (y + -1) : Int) ≠ tl g x y := fun e => by
       rw [e, e4] at f4
       omega
      omega
     ·rw [Int.add_zero] at f1 ⊢
      omega
    rw [zcr g _ _ _ hlt, zcr g _ _ _ f2]
   ·rfl
  have h1 : gv g (jf g (fun t => if o t then 128 else 0) g.T.length) x y = zas g (jf g (fun t => if o t then 128 else 0) (tl g x y)) x y (if o (tl g x y) then 128 else 0) fwdW := by
   unfold gv
   rw [if_pos h, zcr g _ _ _ e2]
   show setI _ _ _ _ = _
   rw [wn, e3, e4, zh7 g _ _ _ (Nat.le_refl _)]
  rw [h1, ynw]
  have n1 := nb (-1) 0 (by omega) (by decide)
  have n2 := nb (-1) (-1) (by omega) (by decide)
  have n3 := nb 0 (-1) (by omega) (by decide)
  have n4 := nb 1 (-1) (by omega) (by decide)
  rw [Int.add_zero] at n1 n3
  rw [<- Int.sub_eq_add_neg] at n1 n2 n3 n4
  rw [<- Int.sub_eq_add_neg] at n2
  rw [n1, n2, n3, n4]
 ·obtain ⟨e1, e2, e3, e4⟩ := xq hg h
  have hj : g.T.length - 1 - (g.T.length - 1 - tl g x y) = tl g x y := by omega
  unfold zf9
  generalize hF : jf g (fun t => if o t then 128 else 0) g.T.length = F
  have nb : ∀ dx dy : Int, (dy = 1 \/ dy = 0 /\ dx = 1) -> -1 <= dx -> gv g (vm g F g.T.length (g.T.length - 1 - tl g x y)) (x + dx) (y + dy) = gv g (vm g F g.T.length g.T.length) (x + dx) (y + dy) := fun dx dy hd hx => by
   unfold gv
   split
   ·rename_i h2
    obtain ⟨f1, f2, f3, f4⟩ := xq hg h2
    have hlt : tl g x y < tl g (x + dx) (y + dy) := by
     have hb := h.1
     have hb2 := h2.1
     rcases hd with rfl | ⟨rfl, rfl⟩
     ·have : g.W * (y + 1) = g.W * y + g.W := by rw [Int.mul_add]; omega
      rw [this] at f1
      have hne : (tl g (x + dx) (y + 1) : Int) ≠ tl g x y := fun e => by
       rw [e, e4] at f4
       omega
      omega
     ·rw [Int.add_zero] at f1 ⊢
      omega
    rw [zcq g _ _ _ _ f2 (by omega) (by omega), zcq g _ _ _ _ f2 (Nat.le_refl _) (by omega)]
   ·rfl
  have h1 : gv g (vm g F g.T.length g.T.length) x y = zas g (vm g F g.T.length (g.T.length - 1 - tl g x y)) x y (gv g F x y) bwdW := by
   unfold gv
   rw [if_pos h, if_pos h, zcq g _ _ _ _ e2 (Nat.le_refl _) (by omega)]
   show setI _ _ _ _ = _
   rw [hj, wn, e3, e4, zh6 g _ _ _ _ (by omega)]
  rw [h1, ynv]
  have n1 := nb 1 0 (by omega) (by decide)
  have n2 := nb 1 1 (by omega) (by decide)
  have n3 := nb 0 1 (by omega) (by decide)
  have n4 := nb (-1) 1 (by omega) (by decide)
  rw [Int.add_zero] at n1 n3
  rw [<- Int.sub_eq_add_neg] at n4
  rw [n1, n2, n3, n4]
def sqB (g : Gnd) (f : Nat -> Bool) (s : Nat) (x y : Int) : Bool := (List.range (2 * s + 1)).all fun a => (List.range (2 * s + 1)).all fun b => decide (onG g (x - s + a) (y - s + b)) && f (tl g (x - s + a) (y - s + b))
theorem zuh {g : Gnd} {f : Nat -> Bool} {s : Nat} {x y : Int} : sqB g f s x y = true ↔ sqP g f s x y := by
 unfold sqB
 rw [List.all_eq_true]
 constructor
 ·intro h a b h1 h2 h3 h4
  have h5 := h (a + s).toNat (List.mem_range.2 (by omega))
  rw [List.all_eq_true] at h5
  have h6 := h5 (b + s).toNat (List.mem_range.2 (by omega))
  rw [show x - s + ((a + s).toNat : Int) = x + a by omega, show y - s + ((b + s).toNat : Int) = y + b by omega, Bool.and_eq_true_iff] at h6
  exact ⟨of_decide_eq_true h6.1, h6.2⟩
 ·intro h a ha
  have ha := List.mem_range.1 ha
  rw [List.all_eq_true]
  intro b hb
  have hb := List.mem_range.1 hb
  have := h (a - s) (b - s) (by omega) (by omega) (by omega) (by omega)
  rw [show x - s + (a : Int) = x + (a - s) by omega, show y - s + (b : Int) = y + (b - s) by omega, Bool.and_eq_true_iff]
  exact ⟨decide_eq_true this.1, this.2⟩
/-- Is a tile good for a size? -/
def zk (g : Gnd) (l : List Bld) (c s : Int) (t : Nat) : Bool := sqB g (yc g l c) s.toNat ((t : Int) % g.W) ((t : Int) / g.W)
theorem zw2 {g : Gnd} (hg : gndP g) (l : List Bld) (c : Int) {s : Int} (hs : 0 <= s /\ s <= 3) {t : Nat} (ht : t < g.T.length) : decide (s < zf9 g (yc g l c) t) = zk g l c s t := by
 rw [Bool.eq_iff_iff, decide_eq_true_iff]
 unfold zk
 rw [zuh, <- ynp hg _ ht _ (by omega)]
 omega
def zgt (g : Gnd) (l : List Bld) (c s : Int) : AV := lst 1 vg (blL g.T.length (zk g l c s))
end Go.V
namespace Go.V
def dirL : List (Int × Int) := [(0, -1), (1, 0), (0, 1), (-1, 0), (1, -1), (1, 1), (-1, 1), (-1, -1)]
def xl (g : Gnd) (x y : Int) (d : Int × Int) : Int := if onG g (x + d.1) (y + d.2) then x + d.1 + g.W * (y + d.2) else -1
def jq (g : Gnd) (t : Nat) : List Int := dirL.map (xl g ((t : Int) % g.W) ((t : Int) / g.W))
theorem k7 (g : Gnd) (t : Nat) : (jq g t).length = 8 := by simp [jq, dirL]
theorem zqj {g : Gnd} (hg : gndP g) (x y : Int) (d : Int × Int) : xl g x y d = -1 /\ ¬ onG g (x + d.1) (y + d.2) \/ onG g (x + d.1) (y + d.2) /\ xl g x y d = (tl g (x + d.1) (y + d.2) : Nat) /\ tl g (x + d.1) (y + d.2) < g.T.length := by
 unfold xl
 split
 ·rename_i h
  exact .inr ⟨h, (xq hg h).1.symm, (xq hg h).2.1⟩
 ·rename_i h
  exact .inl ⟨rfl, h⟩
theorem zl7 {g : Gnd} (hg : gndP g) {t : Nat} {u : Int} (h : u ∈ jq g t) : u = -1 \/ ∃ m : Nat, u = m /\ m < g.T.length := by
 unfold jq at h
 obtain ⟨d, _, rfl⟩ := List.mem_map.1 h
 rcases zqj hg ((t : Int) % g.W) ((t : Int) / g.W) d with ⟨q1, _⟩ | ⟨_, q2, q3⟩
 ·exact .inl q1
 ·exact .inr ⟨_, q2, q3⟩
def sqT (g : Gnd) (o : Nat -> Bool) (r t : Nat) : Bool := sqB g o r ((t : Int) % g.W) ((t : Int) / g.W)
theorem sqT_iff {g : Gnd} {o : Nat -> Bool} {r t : Nat} : sqT g o r t = true ↔ sqP g o r ((t : Int) % g.W) ((t : Int) / g.W) := zuh
theorem yfu {g : Gnd} (hg : gndP g) (o : Nat -> Bool) {t : Nat} (ht : t < g.T.length) : sqT g o 0 t = o t := by
 rw [Bool.eq_iff_iff, sqT_iff, sq_zero]
 obtain ⟨h1, h2⟩ := zon hg ht
 rw [h2]
 exact ⟨fun h => h.2, fun h => ⟨h1, h⟩⟩
theorem zjo {g : Gnd} {o : Nat -> Bool} {r s t : Nat} (h : s <= r) (hi : sqT g o r t = true) : sqT g o s t = true := sqT_iff.2 (zn2 h (sqT_iff.1 hi))
theorem yp9 {g : Gnd} (hg : gndP g) {o : Nat -> Bool} {r t : Nat} (h : sqT g o r t = true) : r <= 63 := by
 have := ymp (sqT_iff.1 h)
 have := hg.1.2
 omega
def okB (g : Gnd) (o : Nat -> Bool) (r : Nat) (u : Int) : Bool := decide (0 <= u) && sqT g o r u.toNat
theorem zvz {g : Gnd} (hg : gndP g) {o : Nat -> Bool} {r : Nat} {x y : Int} {d : Int × Int} : okB g o r (xl g x y d) = true ↔ onG g (x + d.1) (y + d.2) /\ sqP g o r (x + d.1) (y + d.2) := by
 unfold okB
 rw [Bool.and_eq_true_iff]
 rcases zqj hg x y d with ⟨h1, h2⟩ | ⟨h1, h2, h3⟩
 ·rw [h1]
  exact ⟨fun h => absurd (of_decide_eq_true h.1) (by decide), fun h => absurd h.1 h2⟩
 ·obtain ⟨_, _, e3, e4⟩ := xq hg h1
  rw [h2, Int.toNat_natCast, sqT_iff, e3, e4]
  exact ⟨fun h => ⟨h1, h.2⟩, fun h => ⟨decide_eq_true (by omega), h.2⟩⟩
theorem yog {a b : Int} (h1 : -1 <= a) (h2 : a <= 1) (h3 : -1 <= b) (h4 : b <= 1) : (a = 0 /\ b = 0) \/ (a, b) ∈ dirL := by
 have ha : a = -1 \/ a = 0 \/ a = 1 := by omega
 have hb : b = -1 \/ b = 0 \/ b = 1 := by omega
 rcases ha with rfl | rfl | rfl <;> rcases hb with rfl | rfl | rfl <;> first | exact .inl ⟨rfl, rfl⟩ | exact .inr (by decide)
theorem yfv {g : Gnd} (hg : gndP g) {o : Nat -> Bool} {r t : Nat} (ht : t < g.T.length) : sqT g o (r + 1) t = (sqT g o r t && (jq g t).all (okB g o r)) := by
 rw [Bool.eq_iff_iff, Bool.and_eq_true_iff, sqT_iff, sqT_iff, sq_succ, List.all_eq_true]
 unfold jq
 constructor
 ·intro h
  refine ⟨by have := (h 0 0 (by decide) (by decide) (by decide) (by decide)).2; simpa using this, fun u hu => ?_⟩
  obtain ⟨d, hd, rfl⟩ := List.mem_map.1 hu
  refine (zvz hg).2 ?_
  have : ∀ d ∈ dirL, (-1 <= d.1 /\ d.1 <= 1) /\ (-1 <= d.2 /\ d.2 <= 1) := by decide
  have := this d hd
  exact h d.1 d.2 this.1.1 this.1.2 this.2.1 this.2.2
 ·rintro ⟨h0, h⟩ a b h1 h2 h3 h4
  rcases yog h1 h2 h3 h4 with ⟨rfl, rfl⟩ | hd
  ·rw [Int.add_zero, Int.add_zero]
   exact ⟨(zon hg ht).1, h0⟩
  ·exact (zvz hg).1 (h _ (List.mem_map.2 ⟨(a, b), hd, rfl⟩))
/-- How often a tile was left, up to round r, and of the round's tiles the first i. -/
def ze4 (g : Gnd) (o : Nat -> Bool) (r i : Nat) (f : Nat -> Int) : Prop := ∀ t, t < g.T.length -> 0 <= f t /\ f t <= ((if t < i then r + 1 else r : Nat) : Int) /\ ∀ s : Nat, s < (if t < i then r + 1 else r) -> ((s : Int) < f t ↔ sqT g o s t = true)
theorem zsu (g : Gnd) (o : Nat -> Bool) : ze4 g o 0 0 fun _ => 0 := fun t _ => ⟨Int.le_refl _, by simp, fun s hs => absurd hs (by simp)⟩
theorem zsv {g : Gnd} {o : Nat -> Bool} {r : Nat} {f : Nat -> Int} (h : ze4 g o r g.T.length f) : ze4 g o (r + 1) 0 f := fun t ht => by
 have := h t ht
 rw [if_pos ht] at this
 rw [if_neg (Nat.not_lt_zero t)]
 exact this
theorem yn9 {g : Gnd} {o : Nat -> Bool} {r i : Nat} {f : Nat -> Int} (h : ze4 g o r i f) {t : Nat} (ht : t < g.T.length) : 0 <= f t /\ f t <= r + 1 := by
 have := h t ht
 split at this <;> omega
theorem yim {g : Gnd} {o : Nat -> Bool} {r t : Nat} {f : Nat -> Int} (h : ze4 g o r t f) (hn : sqT g o r t = false) : ze4 g o r (t + 1) f := fun s hs => by
 have h1 := h s hs
 by_cases e : s = t
 ·subst e
  rw [if_neg (Nat.lt_irrefl s)] at h1
  rw [if_pos (by omega)]
  refine ⟨h1.1, by omega, fun q hq => ?_⟩
  by_cases e2 : q = r
  ·subst e2
   rw [hn]
   exact ⟨fun hh => by omega, fun hh => by cases hh⟩
  ·exact h1.2.2 q (by omega)
 ·by_cases e2 : s < t
  ·rw [if_pos e2] at h1
   rw [if_pos (by omega)]
   exact h1
  ·rw [if_neg e2] at h1
   rw [if_neg (by omega)]
   exact h1
theorem zwy {g : Gnd} {o : Nat -> Bool} {r t : Nat} {f : Nat -> Int} (h : ze4 g o r t f) (ht : t < g.T.length) (hn : sqT g o r t = true) : ze4 g o r (t + 1) (setI f t (f t + 1)) := fun s hs => by
 have h1 := h s hs
 by_cases e : s = t
 ·subst e
  rw [if_neg (Nat.lt_irrefl s)] at h1
  rw [if_pos (by omega), wn]
  have hr : f s = r := by
   by_cases e0 : r = 0
   ·subst e0; have := h1.1; have := h1.2.1; omega
   ·have := (h1.2.2 (r - 1) (by omega)).2 (zjo (by omega) hn)
    have := h1.2.1
    omega
  rw [hr]
  refine ⟨by omega, by omega, fun q hq => ⟨fun _ => zjo (by omega) hn, fun _ => by omega⟩⟩
 ·rw [zce _ _ e]
  by_cases e2 : s < t
  ·rw [if_pos e2] at h1
   rw [if_pos (by omega)]
   exact h1
  ·rw [if_neg e2] at h1
   rw [if_neg (by omega)]
   exact h1
/-- In the end a tile's number tells which squares are good. -/
def yil (g : Gnd) (o : Nat -> Bool) (f : Nat -> Int) : Prop := ∀ t, t < g.T.length -> ∀ s : Nat, (s : Int) < f t ↔ sqT g o s t = true
theorem zwz {g : Gnd} {o : Nat -> Bool} {r : Nat} {f : Nat -> Int} (h : ze4 g o r 0 f) (hn : ∀ t, t < g.T.length -> sqT g o r t = false) : yil g o f := fun t ht s => by
 have h1 := h t ht
 rw [if_neg (Nat.not_lt_zero t)] at h1
 by_cases e : s < r
 ·exact h1.2.2 s e
 ·constructor
  ·intro hh; have := h1.2.1; omega
  ·intro hh
   have := zjo (s := r) (by omega) hh
   rw [hn t ht] at this
   cases this
theorem zst {g : Gnd} {l : List Bld} {c : Int} {f : Nat -> Int} (h : yil g (yc g l c) f) {s : Int} (hs : 0 <= s) {t : Nat} (ht : t < g.T.length) : decide (s < f t) = zk g l c s t := by
 rw [Bool.eq_iff_iff, decide_eq_true_iff]
 have := h t ht s.toNat
 rw [show ((s.toNat : Nat) : Int) = s by omega] at this
 exact this
def nxF (g : Gnd) (o : Nat -> Bool) (r t : Nat) (v : Bool) (s : Nat) : Bool := if s < t then sqT g o (r + 1) s else (decide (s = t) && v)
def zd3 (g : Gnd) (o : Nat -> Bool) (r t : Nat) : Bool := (List.range t).any (sqT g o (r + 1))
theorem zsk (g : Gnd) (o : Nat -> Bool) (r t : Nat) : zd3 g o r (t + 1) = (zd3 g o r t || sqT g o (r + 1) t) := by
 unfold zd3
 rw [List.range_succ, List.any_append]
 simp
theorem yh5 (g : Gnd) (o : Nat -> Bool) (r : Nat) : nxF g o r 0 false = fun _ => false := funext fun s => by
 unfold nxF
 rw [if_neg (Nat.not_lt_zero s), Bool.and_false]
theorem zqg (g : Gnd) (o : Nat -> Bool) (r t : Nat) : nxF g o r t (sqT g o (r + 1) t) = nxF g o r (t + 1) false := funext fun s => by
 unfold nxF
 by_cases h : s < t
 ·rw [if_pos h, if_pos (by omega)]
 ·rw [if_neg h]
  by_cases e : s = t
  ·subst e
   rw [if_pos (by omega)]; simp
  ·rw [if_neg (by omega)]; simp [e]
theorem ynx (g : Gnd) (o : Nat -> Bool) (r n : Nat) : ∀ t, t < n -> nxF g o r n false t = sqT g o (r + 1) t := fun t ht => if_pos ht
theorem zqh (g : Gnd) (o : Nat -> Bool) (r t : Nat) (v : Bool) : nxF g o r t v t = v := by
 unfold nxF
 rw [if_neg (Nat.lt_irrefl t)]; simp
theorem ypk (g : Gnd) (o : Nat -> Bool) (r t : Nat) (v u : Bool) {s : Nat} (h : s ≠ t) : nxF g o r t v s = nxF g o r t u s := by
 unfold nxF
 split
 ·rfl
 ·simp [h]
end Go.V
namespace Go.V
def cenV (g : Gnd) (t : Nat) : Vc := (tx g t + 32768, ty g t + 32768)
/-- Good places for a kind about a tile. -/
def yjm (w : Wld) (k tile : Int) (n : Nat) : List Nat := yo9 w.G (zk w.G w.B (kCls k) (yy k)) (yy k) tile n
open Classical in
/-- Where a unit comes out. -/
noncomputable def outF (w : Wld) (u : Unt) (tile : Int) : Option Nat := (yjm w u.kind tile 64).find? fun t => decide (ym w u.id u.kind (cenV w.G t))
def unlU (u : Unt) (p : Vc) : Unt := { u with pos := p, inn := 0 }
/-- One behind the other comes out. -/
noncomputable def unl (tile : Int) : List Int -> Wld -> Option Wld
 | [], w => some w
 | id :: l, w => match ze6 w.U id with
  | none => none
  | some i => match outF w (w.U.getD i unt0) tile with
   | none => none
   | some t => unl tile l { w with U := w.U.set i (unlU (w.U.getD i unt0) (cenV w.G t)) }
open Classical in
noncomputable def ulE (w : Wld) (c : Cmd) : Int :=
 if carE w c.P c.N = 0 then
  (if 0 <= c.T /\ c.T < w.G.W * w.G.H then
   (if farP (cenV w.G c.T.toNat) (uAt w c.N).pos then 8 else (match unl c.T (inOf w.U c.N) w with | none => 5 | some _ => 0))
  else 3)
 else carE w c.P c.N
noncomputable def ulW (w : Wld) (c : Cmd) : Wld := (unl c.T (inOf w.U c.N) w).getD w
/-- The entries of a stand, when a unit is put. -/
def entP (L : List Ent) (u : Unt) : List Ent := if u.inn = 0 then yh L u.id ++ [(u.id, u.pos)] else yh L u.id
theorem zol {w : Wld} {L : List Ent} (hF : k5 w L) (hr : yf w.U) {i : Nat} (hi : i < w.U.length) {u : Unt} (hid : w.U[i].id = u.id) : k5 { w with U := w.U.set i u } (entP L u) := by
 have old : ∀ e, e ∈ yh L u.id ↔ ∃ j, ∃ hj : j < w.U.length, j ≠ i /\ w.U[j].inn = 0 /\ e = (w.U[j].id, w.U[j].pos) := fun e => by
  rw [mem_dropId, hF e]
  constructor
  ·rintro ⟨⟨x, hx, h0, rfl⟩, hne⟩
   obtain ⟨j, hj, rfl⟩ := List.getElem_of_mem hx
   exact ⟨j, hj, fun e => hne (by subst e; exact hid), h0, rfl⟩
  ·rintro ⟨j, hj, hji, h0, rfl⟩
   refine ⟨⟨w.U[j], List.getElem_mem hj, h0, rfl⟩, fun e => hji ?_⟩
   have e : w.U[j].id = u.id := e
   by_cases h1 : j < i
   ·have := qj hr h1 hi; omega
   ·by_cases h2 : i < j
    ·have := qj hr h2 hj; omega
    ·omega
 intro e
 have key : (∃ y ∈ w.U.set i u, y.inn = 0 /\ e = (y.id, y.pos)) ↔ (u.inn = 0 /\ e = (u.id, u.pos)) \/ ∃ j, ∃ hj : j < w.U.length, j ≠ i /\ w.U[j].inn = 0 /\ e = (w.U[j].id, w.U[j].pos) := by
  constructor
  ·rintro ⟨y, hy, h0, he⟩
   obtain ⟨j, hj, rfl⟩ := List.getElem_of_mem hy
   rw [List.length_set] at hj
   rw [List.getElem_set] at h0 he
   split at h0
   ·rename_i hh
    rw [if_pos hh] at he
    exact .inl ⟨h0, he⟩
   ·rename_i hh
    rw [if_neg hh] at he
    exact .inr ⟨j, hj, Ne.symm hh, h0, he⟩
  ·rintro (⟨h0, he⟩ | ⟨j, hj, hji, h0, he⟩)
   ·exact ⟨u, List.mem_set hi u, h0, he⟩
   ·refine ⟨w.U[j], ?_, h0, he⟩
    have hj2 : j < (w.U.set i u).length := by rw [List.length_set]; exact hj
    have : (w.U.set i u)[j] = w.U[j] := by rw [List.getElem_set, if_neg (Ne.symm hji)]
    rw [<- this]
    exact List.getElem_mem hj2
 show e ∈ entP L u ↔ ∃ y ∈ w.U.set i u, y.inn = 0 /\ e = (y.id, y.pos)
 rw [key]
 unfold entP
 split
 ·rename_i h0
  rw [List.mem_append, old, List.mem_singleton]
  constructor
  ·rintro (h | h)
   ·exact .inr h
   ·exact .inl ⟨h0, h⟩
  ·rintro (h | h)
   ·exact .inr h.2
   ·exact .inl h
 ·rename_i h0
  rw [old]
  exact ⟨.inr, fun h => h.resolve_left fun hh => h0 hh.1⟩
theorem zom {w : Wld} {L : List Ent} (hn : (L.map (·.1)).Nodup) (hF : k5 w L) : L.length <= w.U.length := by
 have := List.Nodup.length_le_of_subset (l₂ := w.U.map (·.id)) hn (fun id hid => by
  obtain ⟨e, he, rfl⟩ := List.mem_map.1 hid
  obtain ⟨u, hu, _, rfl⟩ := (hF e).1 he
  exact List.mem_map.2 ⟨u, hu, rfl⟩)
 rw [List.length_map, List.length_map] at this
 exact this
/-- A unit is put: IDs rise as before. -/
theorem zu5 {U : List Unt} (hr : yf U) {i : Nat} (hi : i < U.length) {u : Unt} (hid : U[i].id = u.id) : yf (U.set i u) := by
 intro j hj h0
 rw [List.length_set] at hj
 have := hr j hj h0
 have id' : ∀ k, (hk : k < U.length) -> ((U.set i u)[k]'(by rw [List.length_set]; exact hk)).id = U[k].id := fun k hk => by
  rw [List.getElem_set]
  split
  ·rename_i e; subst e; exact hid.symm
  ·rfl
 rw [id' _ (by omega), id' _ hj]
 exact this
end Go.V
namespace Go.V
def mvG (g : Int) (u : Unt) : Unt := { u with goal := g, next := -1, stuck := 0, state := 1 }
def ypn (w : Wld) (c : Cmd) (k : Nat) (kd : Int) : Int := match (yjm w kd c.T c.U.length)[k]? with | some t => (t : Int) | none => c.T
def mvL (w : Wld) (c : Cmd) : Nat -> List Unt
 | 0 => w.U
 | k + 1 => match ze6 w.U (c.U.getD k 0) with
  | some i => (mvL w c k).set i (mvG (ypn w c k (w.U.getD i unt0).kind) (w.U.getD i unt0))
  | none => mvL w c k
def mvE (w : Wld) (c : Cmd) : Int := if 0 <= c.T /\ c.T < w.G.W * w.G.H then allE (askE w c.P) c.U else 3
def mvW (w : Wld) (c : Cmd) : Wld := { w with U := mvL w c c.U.length }
theorem za6 {a b : Unt} (h : mvG 0 a = mvG 0 b) : a.id = b.id /\ a.owner = b.owner /\ a.kind = b.kind /\ a.pos = b.pos /\ a.inn = b.inn := by
 refine ⟨?_, ?_, ?_, ?_, ?_⟩
 ·have := congrArg Unt.id h
  exact this
 ·have := congrArg Unt.owner h
  exact this
 ·have := congrArg Unt.kind h
  exact this
 ·have := congrArg Unt.pos h
  exact this
 ·have := congrArg Unt.inn h
  exact this
end Go.V
namespace Go.V
noncomputable def aE (w : Wld) (c : Cmd) : Int := if c.K = 1 then spE w c else if c.K = 2 then mvE w c else if c.K = 3 then stE w c else if c.K = 4 then bdE w c else if c.K = 5 then drE w c else if c.K = 6 then ldE w c else ulE w c
noncomputable def aW (w : Wld) (c : Cmd) : Wld := if c.K = 1 then spW w c else if c.K = 2 then mvW w c else if c.K = 3 then stW w c else if c.K = 4 then bdW w c else if c.K = 5 then drW w c else if c.K = 6 then ldW w c else ulW w c
theorem a1 {w : Wld} {c : Cmd} (h : c.K = 1) : aE w c = spE w c /\ aW w c = spW w c := by unfold aE aW; rw [h]; exact ⟨rfl, rfl⟩
theorem a2 {w : Wld} {c : Cmd} (h : c.K = 2) : aE w c = mvE w c /\ aW w c = mvW w c := by unfold aE aW; rw [h]; exact ⟨rfl, rfl⟩
theorem a3 {w : Wld} {c : Cmd} (h : c.K = 3) : aE w c = stE w c /\ aW w c = stW w c := by unfold aE aW; rw [h]; exact ⟨rfl, rfl⟩
theorem a4 {w : Wld} {c : Cmd} (h : c.K = 4) : aE w c = bdE w c /\ aW w c = bdW w c := by unfold aE aW; rw [h]; exact ⟨rfl, rfl⟩
theorem a5 {w : Wld} {c : Cmd} (h : c.K = 5) : aE w c = drE w c /\ aW w c = drW w c := by unfold aE aW; rw [h]; exact ⟨rfl, rfl⟩
theorem a6 {w : Wld} {c : Cmd} (h : c.K = 6) : aE w c = ldE w c /\ aW w c = ldW w c := by unfold aE aW; rw [h]; exact ⟨rfl, rfl⟩
theorem a7 {w : Wld} {c : Cmd} (h : c.K = 7) : aE w c = ulE w c /\ aW w c = ulW w c := by unfold aE aW; rw [h]; exact ⟨rfl, rfl⟩
end Go.V
namespace Go.V
instance (g : Gnd) (t : Nat) (p : Vc) (r : Int) : Decidable (hitP g t p r) := by unfold hitP; infer_instance
instance (g : Gnd) (b : Bld) : Decidable (zhp g b) := by unfold zhp; infer_instance
instance (g : Gnd) (b : Bld) : Decidable (onP g b) := by unfold onP; infer_instance
instance (b : Bld) : Decidable (bldP b) := by unfold bldP; infer_instance
instance (a b : Bld) : Decidable (ze2 a b) := by unfold ze2; infer_instance
instance (l : List Bld) : Decidable (zlw l) := by unfold zlw; infer_instance
instance (l : List Bld) : Decidable (zq3 l) := by unfold zq3; infer_instance
instance (g : Gnd) : Decidable (gndP g) := by unfold gndP; infer_instance
instance (g : Gnd) (l : List Bld) : Decidable (znf g l) := by unfold znf; infer_instance
instance (g : Gnd) (l : List Bld) (c : Int) (p : Vc) (r : Int) : Decidable (ze5 g l c p r) := by unfold ze5; infer_instance
instance (w : Wld) (id k : Int) (p : Vc) : Decidable (ym w id k p) := by unfold ym; infer_instance
instance (k : Int) : Decidable (zat k) := by unfold zat; infer_instance
instance (g : Gnd) (t : Int) : Decidable (wz g t) := by unfold wz; infer_instance
instance (w : Wld) (u : Unt) : Decidable (untP w u) := by unfold untP; infer_instance
instance (w : Wld) : Decidable (zmm w) := by unfold zmm; infer_instance
instance (l : List Unt) : Decidable (yf l) := by unfold yf; infer_instance
instance (w : Wld) : Decidable (zcc w) := by unfold zcc; infer_instance
instance (w : Wld) (u : Unt) : Decidable (zb4 w u) := by unfold zb4; infer_instance
instance (w : Wld) : Decidable (mayP w) := by unfold mayP; infer_instance
instance (x y : Int) : Decidable (qv x y) := by unfold qv; infer_instance
instance (w : Wld) : Decidable (yoa w) := by unfold yoa; infer_instance
end Go.V
namespace Go.V
theorem zug (x y : Int) : (x - y) * (x - y) = (y - x) * (y - x) := by
 have : y - x = -(x - y) := by omega
 rw [this, Int.neg_mul_neg]
theorem ztk {g : Gnd} (hg : gndP g) {l : List Bld} {c c' : Int} {p q : Vc} {k k' : Int} (hp : ze5 g l c p (kRad k)) (hq : ze5 g l c' q (kRad k')) : vk p (kRad k) q (kRad k') = vk q (kRad k') p (kRad k) := by
 have b1 := zqr hg hp
 have b2 := zqr hg hq
 have r1 := zoe k
 have r2 := zoe k'
 unfold vk
 rw [zdz (by omega) (by omega) (by omega) (by omega) (by omega), zdz (by omega) (by omega) (by omega) (by omega) (by omega), zug p.1, zug p.2, Int.add_comm (kRad k)]
theorem zi3 {w w' : Wld} {id k : Int} {p : Vc} (hG : w'.G = w.G) (hB : w'.B = w.B) (h : ∀ v ∈ w'.U, v.inn = 0 -> v.id ≠ id -> ∃ x ∈ w.U, x.inn = 0 /\ x.id ≠ id /\ x.pos = v.pos /\ x.kind = v.kind) (hc : ym w id k p) : ym w' id k p := by
 refine ⟨by rw [hG, hB]; exact hc.1, fun v hv h0 hid => ?_⟩
 obtain ⟨x, hx, e1, e2, e3, e4⟩ := h v hv h0 hid
 rw [<- e3, <- e4]
 exact hc.2 x hx e1 e2
theorem ziq (l : List Unt) (id : Int) : inOf l id = ((l.map fun u => (u.inn, u.id)).filter fun x => x.1 == id).map (·.2) := by
 unfold inOf
 rw [List.filter_map, List.map_map]
 rfl
theorem zso {U U' : List Unt} (hl : U'.length = U.length) (h : ∀ j, (hj : j < U.length) -> (U'[j]'(by omega)).inn = U[j].inn /\ (U'[j]'(by omega)).id = U[j].id) (id : Int) : inOf U' id = inOf U id := by
 rw [ziq, ziq]
 have : (U'.map fun u => (u.inn, u.id)) = U.map fun u => (u.inn, u.id) := by
  apply List.ext_getElem (by rw [List.length_map, List.length_map]; exact hl)
  intro j h1 h2
  rw [List.length_map] at h1 h2
  rw [List.getElem_map, List.getElem_map, (h j h2).1, (h j h2).2]
 rw [this]
theorem zgb {U U' : List Unt} (hl : U'.length = U.length) (h : ∀ j, (hj : j < U.length) -> (U'[j]'(by omega)).id = U[j].id) (hr : yf U) : yf U' := by
 intro j hj h0
 rw [hl] at hj
 have := hr j hj h0
 rw [h _ (by omega), h _ hj]
 exact this
/-- Orders are turned, of such as are on the field. -/
theorem zsi {w : Wld} (hm : mayP w) {U : List Unt} (hl : U.length = w.U.length) (h1 : ∀ j, (hj : j < w.U.length) -> mvG 0 (U[j]'(by omega)) = mvG 0 w.U[j]) (h2 : ∀ j, (hj : j < w.U.length) -> w.U[j].inn ≠ 0 -> U[j]'(by omega) = w.U[j]) (h3 : ∀ j, (hj : j < w.U.length) -> untP w (U[j]'(by omega))) : mayP { w with U := U } := by
 obtain ⟨⟨hh, hr, hu⟩, hc, hd⟩ := hm
 have same := fun j hj => za6 (h1 j hj)
 have back : ∀ v ∈ U, ∃ j, ∃ hj : j < w.U.length, v = U[j]'(by omega) := fun v hv => by
  obtain ⟨j, hj, rfl⟩ := List.getElem_of_mem hv
  exact ⟨j, by omega, rfl⟩
 have hin := zso hl (fun j hj => ⟨(same j hj).2.2.2.2, (same j hj).1⟩)
 refine ⟨⟨⟨hh.1, ⟨hh.2.1.1, hh.2.1.2.1, by show U.length <= _; rw [hl]; exact hh.2.1.2.2⟩, hh.2.2⟩, zgb hl (fun j hj => (same j hj).1) hr, fun v hv => ?_⟩, fun v hv h0 => ?_, fun v hv h0 => ?_⟩
 ·obtain ⟨j, hj, rfl⟩ := back v hv
  refine ⟨h3 j hj, fun b hb => ?_⟩
  rw [(same j hj).1]
  exact (hu _ (List.getElem_mem hj)).2 b hb
 ·obtain ⟨j, hj, rfl⟩ := back v hv
  obtain ⟨e1, _, e3, e4, e5⟩ := same j hj
  rw [e1, e3, e4]
  refine zi3 (w := w) rfl rfl (fun x hx hx0 hxi => ?_) (hc _ (List.getElem_mem hj) (by rw [<- e5]; exact h0))
  obtain ⟨k, hk, rfl⟩ := back x hx
  obtain ⟨f1, _, f3, f4, f5⟩ := same k hk
  exact ⟨_, List.getElem_mem hk, by rw [<- f5]; exact hx0, by rw [<- f1]; exact hxi, f4.symm, f3.symm⟩
 ·obtain ⟨j, hj, rfl⟩ := back v hv
  have e5 := (same j hj).2.2.2.2
  rw [e5] at h0
  rw [h2 j hj h0]
  obtain ⟨x, hx, g1, g2, g3, g4⟩ := hd _ (List.getElem_mem hj) h0
  obtain ⟨k, hk, rfl⟩ := List.getElem_of_mem hx
  obtain ⟨f1, f2, f3, f4, f5⟩ := same k hk
  refine ⟨U[k]'(by omega), List.getElem_mem _, by rw [f1]; exact g1, ⟨by rw [f5]; exact g2.1, by rw [f2]; exact g2.2⟩, ?_, g4⟩
  show ((inOf U _).length : Int) <= _
  rw [hin, f3]
  exact g3
theorem ziy {q : Unt -> Bool} {x : Unt} (hx : q x = false) : ∀ (U : List Unt) (i : Nat), ((U.set i x).filter q).length <= (U.filter q).length
 | [], _ => Nat.le_refl _
 | a :: l, 0 => by
  rw [List.set_cons_zero, List.filter_cons, List.filter_cons]
  simp only [hx, Bool.false_eq_true, if_false]
  split
  ·rw [List.length_cons]; omega
  ·exact Nat.le_refl _
 | a :: l, i + 1 => by
  rw [List.set_cons_succ, List.filter_cons, List.filter_cons]
  have := ziy hx l i
  split
  ·simp only [List.length_cons]; omega
  ·exact this
/-- A unit is put where it is clear. -/
theorem zwf {w : Wld} (hm : mayP w) {i : Nat} (hi : i < w.U.length) {p : Vc} (hp : ym w w.U[i].id w.U[i].kind p) : mayP { w with U := w.U.set i { w.U[i] with pos := p, inn := 0 } } := by
 obtain ⟨⟨hh, hr, hu⟩, hc, hd⟩ := hm
 have hg := hh.2.1.1
 have hl : (w.U.set i { w.U[i] with pos := p, inn := 0 }).length = w.U.length := List.length_set
 have get : ∀ j, (hj : j < w.U.length) -> (w.U.set i { w.U[i] with pos := p, inn := 0 })[j]'(by omega) = if i = j then { w.U[i] with pos := p, inn := 0 } else w.U[j] := fun j hj => List.getElem_set ..
 have back : ∀ v ∈ w.U.set i { w.U[i] with pos := p, inn := 0 }, v = { w.U[i] with pos := p, inn := 0 } \/ ∃ j, ∃ hj : j < w.U.length, j ≠ i /\ v = w.U[j] := fun v hv => by
  obtain ⟨j, hj, rfl⟩ := List.getElem_of_mem hv
  rw [hl] at hj
  rw [get j hj]
  split
  ·exact .inl rfl
  ·rename_i e; exact .inr ⟨j, hj, Ne.symm e, rfl⟩
 have idne : ∀ j, (hj : j < w.U.length) -> j ≠ i -> w.U[j].id ≠ w.U[i].id := fun j hj hne e => by
  rcases Nat.lt_trichotomy j i with q | q | q
  ·have := qj hr q hi; omega
  ·exact hne q
  ·have := qj hr q hj; omega
 have hself : untP w { w.U[i] with pos := p, inn := 0 } /\ ∀ b ∈ w.B, b.id ≠ w.U[i].id := ⟨(hu _ (List.getElem_mem hi)).1, (hu _ (List.getElem_mem hi)).2⟩
 refine ⟨⟨⟨hh.1, ⟨hh.2.1.1, hh.2.1.2.1, by show (w.U.set i _).length <= _; rw [hl]; exact hh.2.1.2.2⟩, hh.2.2⟩, zu5 hr hi rfl, fun v hv => ?_⟩, fun v hv h0 => ?_, fun v hv h0 => ?_⟩
 ·rcases back v hv with rfl | ⟨j, hj, _, rfl⟩
  ·exact hself
  ·exact hu _ (List.getElem_mem hj)
 ·rcases back v hv with rfl | ⟨j, hj, hne, rfl⟩
  ·refine zi3 (w := w) rfl rfl (fun x hx hx0 hxi => ?_) hp
   rcases back x hx with rfl | ⟨k, hk, _, rfl⟩
   ·exact absurd rfl hxi
   ·exact ⟨_, List.getElem_mem hk, hx0, hxi, rfl, rfl⟩
  ·have hcj := hc _ (List.getElem_mem hj) h0
   refine ⟨hcj.1, fun x hx hx0 hxi => ?_⟩
   rcases back x hx with rfl | ⟨k, hk, _, rfl⟩
   ·have := hp.2 _ (List.getElem_mem hj) h0 (idne j hj hne)
    rw [ztk hg hp.1 hcj.1] at this
    exact this
   ·exact hcj.2 _ (List.getElem_mem hk) hx0 hxi
 ·rcases back v hv with rfl | ⟨j, hj, hne, rfl⟩
  ·exact absurd rfl h0
  obtain ⟨x, hx, g1, g2, g3, g4⟩ := hd _ (List.getElem_mem hj) h0
  obtain ⟨k, hk, rfl⟩ := List.getElem_of_mem hx
  have hle : ((inOf (w.U.set i { w.U[i] with pos := p, inn := 0 }) w.U[j].inn).length : Int) <= wv w.U[k].kind := by
   have h9 := ziy (q := fun u => u.inn == w.U[j].inn) (x := { w.U[i] with pos := p, inn := 0 }) (by
    show ((0 : Int) == w.U[j].inn) = false
    simpa using fun e => h0 e.symm) w.U i
   unfold inOf at g3 ⊢
   rw [List.length_map] at g3 ⊢
   omega
  by_cases e : k = i
  ·subst e
   exact ⟨{ w.U[k] with pos := p, inn := 0 }, List.mem_set hi _, g1, ⟨rfl, g2.2⟩, hle, g4⟩
  ·refine ⟨w.U[k], ?_, g1, g2, hle, g4⟩
   have : (w.U.set i { w.U[i] with pos := p, inn := 0 })[k]'(by omega) = w.U[k] := by rw [get k hk, if_neg (Ne.symm e)]
   rw [<- this]
   exact List.getElem_mem _
end Go.V
namespace Go.V
/-- What waits: a key, a value; the order of a queue. -/
def qlt (a b : Int × Int) : Prop := a.1 < b.1 \/ a.1 = b.1 /\ a.2 < b.2
instance (a b : Int × Int) : Decidable (qlt a b) := by unfold qlt; exact inferInstance
theorem zof (a : Int × Int) : ¬ qlt a a := by unfold qlt; omega
theorem zc2 {a b c : Int × Int} (h : ¬ qlt b a) (k : ¬ qlt c b) : ¬ qlt c a := by unfold qlt at *; omega
theorem ze8 {a b : Int × Int} (h : qlt a b) : ¬ qlt b a := by unfold qlt at *; omega
theorem yjp {a b : Int × Int} (h : ¬ qlt b a) : a.1 <= b.1 := by unfold qlt at *; omega
def par (j : Nat) : Nat := (j - 1) / 2
def zlh (f : Nat -> Int × Int) (i k : Nat) : Nat -> Int × Int := fun j => if j = k then f i else if j = i then f k else f j
def zpp (f : Nat -> Int × Int) (n : Nat) : Prop := ∀ j, 0 < j -> j < n -> ¬ qlt (f j) (f (par j))
/-- A heap, but maybe i is too little. -/
def UpF (f : Nat -> Int × Int) (n i : Nat) : Prop := (∀ j, 0 < j -> j < n -> j ≠ i -> ¬ qlt (f j) (f (par j))) /\ ∀ j, 0 < j -> j < n -> par j = i -> 0 < i -> ¬ qlt (f j) (f (par i))
/-- A heap, but maybe i is too great. -/
def zkz (f : Nat -> Int × Int) (n i : Nat) : Prop := (∀ j, 0 < j -> j < n -> par j ≠ i -> ¬ qlt (f j) (f (par j))) /\ ∀ j, 0 < j -> j < n -> par j = i -> 0 < i -> ¬ qlt (f j) (f (par i))
theorem vp {j : Nat} (h : 0 < j) : par j < j := by unfold par; omega
theorem yj7 {f : Nat -> Int × Int} {n i : Nat} (h : UpF f n i) (hi : i = 0 \/ ¬ qlt (f i) (f (par i))) : zpp f n := by
 intro j h0 hj
 by_cases e : j = i
 ·subst e
  rcases hi with hi | hi
  ·omega
  ·exact hi
 ·exact h.1 j h0 hj e
theorem yj6 {f : Nat -> Int × Int} {n : Nat} (h : zpp f n) : UpF f (n + 1) n :=
 ⟨fun j h0 hj hn => h j h0 (by omega), fun j h0 hj hp h1 => by have := vp h0; omega⟩
theorem yj5 {f : Nat -> Int × Int} {n i : Nat} (h : UpF f n i) (h0 : 0 < i) (hi : i < n) (hl : qlt (f i) (f (par i))) : UpF (zlh f i (par i)) n (par i) := by
 have hp := vp h0
 refine ⟨fun j j0 jn jp => ?_, fun j j0 jn jp p0 => ?_⟩
 ·unfold zlh
  rw [if_neg jp]
  by_cases e : j = i
  ·subst e
   rw [if_pos rfl, if_pos rfl]
   exact ze8 hl
  ·rw [if_neg e]
   by_cases e2 : par j = par i
   ·rw [if_pos e2]
    have h1 := h.1 j j0 jn e
    rw [e2] at h1
    exact zc2 (ze8 hl) h1
   ·rw [if_neg e2]
    by_cases e3 : par j = i
    ·rw [if_pos e3]
     exact h.2 j j0 jn e3 h0
    ·rw [if_neg e3]
     exact h.1 j j0 jn e
 ·have hpp := vp p0
  unfold zlh
  rw [if_neg (show ¬ par (par i) = par i by omega), if_neg (show ¬ par (par i) = i by omega)]
  have h1 := h.1 (par i) p0 (by omega) (by omega)
  by_cases e : j = i
  ·subst e
   rw [if_neg (show ¬ j = par j by omega), if_pos rfl]
   exact h1
  ·have hjp : j ≠ par i := by have := vp j0; omega
   rw [if_neg hjp, if_neg e]
   have h2 := h.1 j j0 jn e
   rw [jp] at h2
   exact zc2 h1 h2
theorem zm2 {f : Nat -> Int × Int} {n i : Nat} (h : zkz f n i) (hc : ∀ j, 0 < j -> j < n -> par j = i -> ¬ qlt (f j) (f i)) : zpp f n := by
 intro j h0 hj
 by_cases e : par j = i
 ·rw [e]; exact hc j h0 hj e
 ·exact h.1 j h0 hj e
theorem zxq {f : Nat -> Int × Int} {n i k : Nat} (h : zkz f n i) (hk0 : 0 < k) (hk : k < n) (hki : par k = i) (hmin : ∀ j, 0 < j -> j < n -> par j = i -> ¬ qlt (f j) (f k)) (hl : qlt (f k) (f i)) : zkz (zlh f i k) n k := by
 have hik : i < k := hki ▸ vp hk0
 refine ⟨fun j j0 jn jp => ?_, fun j j0 jn jp _ => ?_⟩
 ·unfold zlh
  rw [if_neg jp]
  by_cases e : j = k
  ·subst e
   rw [if_pos rfl, if_pos hki]
   exact ze8 hl
  ·rw [if_neg e]
   by_cases e2 : j = i
   ·subst e2
    have hpj : par j ≠ j := by have := vp j0; omega
    rw [if_pos rfl, if_neg hpj]
    exact h.2 k hk0 hk hki j0
   ·rw [if_neg e2]
    by_cases e3 : par j = i
    ·rw [if_pos e3]
     exact hmin j j0 jn e3
    ·rw [if_neg e3]
     exact h.1 j j0 jn e3
 ·have hjk : k < j := jp ▸ vp j0
  unfold zlh
  rw [if_neg (show ¬ j = k by omega), if_neg (show ¬ j = i by omega), hki, if_neg (show ¬ i = k by omega), if_pos rfl]
  have h1 := h.1 j j0 jn (by omega)
  rw [jp] at h1
  exact h1
theorem yij {f : Nat -> Int × Int} {n : Nat} (h : zpp f n) : ∀ j, j < n -> ¬ qlt (f j) (f 0) := by
 intro j
 induction j using Nat.strongRecOn with
 | _ j ih =>
  intro hj
  by_cases e : j = 0
  ·subst e; exact zof _
  ·have hp := vp (Nat.pos_of_ne_zero e)
   exact zc2 (ih _ hp (by omega)) (h j (by omega) hj)
/-- The children. -/
theorem za4 {i j : Nat} (h : 0 < j) : par j = i ↔ j = 2 * i + 1 \/ j = 2 * i + 2 := by unfold par; omega
/-- Lists. -/
def qat (l : List (Int × Int)) (j : Nat) : Int × Int := l.getD j (0, 0)
def wx (l : List (Int × Int)) : Prop := zpp (qat l) l.length
def wk (l : List (Int × Int)) (i k : Nat) : List (Int × Int) := (l.set i (qat l k)).set k (qat l i)
theorem wj (l : List (Int × Int)) (i k : Nat) : (wk l i k).length = l.length := by simp [wk]
theorem zlz {l : List (Int × Int)} {j : Nat} (h : j < l.length) : qat l j = l[j] := by simp [qat, List.getD, List.getElem?_eq_getElem h]
theorem zvj {l : List (Int × Int)} {i : Nat} (h : i < l.length) (x : Int × Int) (j : Nat) : qat (l.set i x) j = if j = i then x else qat l j := by
 unfold qat
 simp only [List.getD, List.getElem?_set]
 by_cases e : i = j
 ·subst e; simp [h]
 ·simp [e, Ne.symm e]
theorem zqb {l : List (Int × Int)} {i k : Nat} (hi : i < l.length) (hk : k < l.length) : qat (wk l i k) = zlh (qat l) i k := by
 funext j
 unfold wk zlh
 rw [zvj (by simpa using hk), zvj hi]
theorem zh8 {l : List (Int × Int)} {i k : Nat} (hi : i < l.length) (hk : k < l.length) : (wk l i k).Perm l := by
 unfold wk
 rw [zlz hi, zlz hk]
 exact List.set_set_perm hi hk
theorem zii (l : List (Int × Int)) (x : Int × Int) (j : Nat) (h : j < l.length) : qat (l ++ [x]) j = qat l j := by
 unfold qat
 simp only [List.getD]
 rw [List.getElem?_append_left h]
end Go.V
namespace Go.V
/-- What each node costs: E t u c: a step from t to u costs c. -/
structure FarOK (E : Nat -> Nat -> Int -> Prop) (goal : Nat) (d : Nat -> Int) : Prop where
 lab : ∀ u, d u = -1 \/ 0 <= d u
 gl : d goal = 0
 pre : ∀ u, u ≠ goal -> 0 <= d u -> ∃ t c, 0 <= d t /\ E t u c /\ d t + c <= d u
 rel : ∀ t u c, 0 <= d t -> E t u c -> 0 <= d u /\ d u <= d t + c
theorem zqt {E : Nat -> Nat -> Int -> Prop} {goal : Nat} (hE : ∀ t u c, E t u c -> 0 < c) {d e : Nat -> Int} (h : FarOK E goal d) (k : FarOK E goal e) : ∀ (n : Nat) (u : Nat), 0 <= e u -> (e u).toNat = n -> 0 <= d u /\ d u <= e u := by
 intro n
 induction n using Nat.strongRecOn with
 | _ n ih =>
  intro u hu hn
  by_cases hg : u = goal
  ·subst hg
   have h1 := h.gl
   have h2 := k.gl
   omega
  ·obtain ⟨t, c, ht, hE1, hc⟩ := k.pre u hg hu
   have hp := hE _ _ _ hE1
   obtain ⟨h1, h2⟩ := ih (e t).toNat (by omega) t ht rfl
   obtain ⟨h3, h4⟩ := h.rel t u c h1 hE1
   exact ⟨h3, by omega⟩
/-- There is one answer. -/
theorem yob {E : Nat -> Nat -> Int -> Prop} {goal : Nat} (hE : ∀ t u c, E t u c -> 0 < c) {d e : Nat -> Int} (h : FarOK E goal d) (k : FarOK E goal e) : d = e := by
 funext u
 rcases h.lab u with h1 | h1
 ·rcases k.lab u with h2 | h2
  ·omega
  ·have := zqt hE h k _ u h2 rfl
   omega
 ·rcases k.lab u with h2 | h2
  ·have := zqt hE k h _ u h1 rfl
   omega
  ·have h3 := zqt hE h k _ u h2 rfl
   have h4 := zqt hE k h _ u h1 rfl
   omega
def updN {α : Type} (d : Nat -> α) (u : Nat) (x : α) : Nat -> α := fun j => if j = u then x else d j
theorem zx {α : Type} (d : Nat -> α) (u : Nat) (x : α) : updN d u x u = x := by simp [updN]
theorem z7 {α : Type} {d : Nat -> α} {u j : Nat} {x : α} (h : j ≠ u) : updN d u x j = d j := by simp [updN, h]
/-- The least one first: O: the steps of the one at hand that are not looked at yet. -/
structure DJ (E : Nat -> Nat -> Int -> Prop) (n goal : Nat) (d : Nat -> Int) (dn : Nat -> Bool) (q : List (Int × Int)) (cur : Int) (O : Nat -> Nat -> Int -> Prop) : Prop where
 lab : ∀ u, d u = -1 \/ 0 <= d u
 gl : d goal = 0
 pre : ∀ u, u ≠ goal -> 0 <= d u -> ∃ t c, dn t = true /\ 0 <= d t /\ E t u c /\ d t + c <= d u
 rel : ∀ t u c, dn t = true -> E t u c -> ¬ O t u c -> 0 <= d u /\ d u <= d t + c
 mono : ∀ t, dn t = true -> 0 <= d t /\ d t <= cur
 ent : ∀ e ∈ q, ∃ u : Nat, e.2 = (u : Int) /\ u < n /\ 0 <= d u /\ d u <= e.1 /\ cur <= e.1
 wait : ∀ u, 0 <= d u -> dn u = false -> (d u, (u : Int)) ∈ q
def ze1 : Nat -> Nat -> Int -> Prop := fun _ _ _ => False
theorem yoe (E : Nat -> Nat -> Int -> Prop) {n goal : Nat} (hg : goal < n) {d : Nat -> Int} (hd : ∀ u, d u = if u = goal then 0 else -1) : DJ E n goal d (fun _ => false) [(0, (goal : Int))] 0 ze1 := by
 refine ⟨fun u => ?_, by simp [hd], fun u hu h => ?_, fun t u c h => ?_, fun t h => ?_, fun e he => ?_, fun u h _ => ?_⟩
 ·rw [hd]; split <;> simp
 ·rw [hd, if_neg hu] at h; omega
 ·cases h
 ·cases h
 ·simp only [List.mem_singleton] at he
  subst he
  exact ⟨goal, rfl, hg, by simp [hd], by simp [hd], by simp⟩
 ·rw [hd] at h
  split at h
  ·rename_i e; subst e; simp [hd]
  ·omega
/-- One that is done already is taken out. -/
theorem yod {E : Nat -> Nat -> Int -> Prop} {n goal : Nat} {d : Nat -> Int} {dn : Nat -> Bool} {q q' : List (Int × Int)} {cur : Int} (h : DJ E n goal d dn q cur ze1) {x : Int × Int} {t : Nat} (ht : x.2 = (t : Int)) (hp : q.Perm (x :: q')) (hd : dn t = true) : DJ E n goal d dn q' cur ze1 := by
 refine ⟨h.lab, h.gl, h.pre, h.rel, h.mono, fun e he => h.ent e (hp.mem_iff.2 (List.mem_cons_of_mem _ he)), fun u hu hn => ?_⟩
 rcases List.mem_cons.1 (hp.mem_iff.1 (h.wait u hu hn)) with he | he
 ·have : (u : Int) = t := by rw [<- ht, <- he]
  have : u = t := by omega
  subst this
  rw [hd] at hn; cases hn
 ·exact he
/-- One is taken out that is not done: its key is its cost. -/
theorem yoc {E : Nat -> Nat -> Int -> Prop} {n goal : Nat} {d : Nat -> Int} {dn : Nat -> Bool} {q q' : List (Int × Int)} {cur : Int} (h : DJ E n goal d dn q cur ze1) {x : Int × Int} {t : Nat} (ht : x.2 = (t : Int)) (hp : q.Perm (x :: q')) (hm : ∀ e ∈ q, ¬ qlt e x) (hd : dn t = false) :
  x.1 = d t /\ DJ E n goal d (updN dn t true) q' x.1 (fun a _ _ => a = t) := by
 have hx : x ∈ q := hp.mem_iff.2 List.mem_cons_self
 obtain ⟨u, hu, hun, hu0, hux, huc⟩ := h.ent x hx
 have : u = t := by omega
 subst this
 have hk : x.1 = d u := by
  have := yjp (hm _ (h.wait u hu0 hd))
  simp only at this
  omega
 refine ⟨hk, h.lab, h.gl, fun v hv hl => ?_, fun a b c ha hE hO => ?_, fun a ha => ?_, fun e he => ?_, fun v hv hn => ?_⟩
 ·obtain ⟨a, c, h1, h2, h3, h4⟩ := h.pre v hv hl
  exact ⟨a, c, by unfold updN; split <;> simp_all, h2, h3, h4⟩
 ·rw [z7 hO] at ha
  exact h.rel a b c ha hE (fun h => h)
 ·unfold updN at ha
  split at ha
  ·rename_i e; subst e; omega
  ·have := h.mono a ha
   omega
 ·have he2 := hp.mem_iff.2 (List.mem_cons_of_mem x he)
  obtain ⟨v, h1, h2, h3, h4, h5⟩ := h.ent e he2
  exact ⟨v, h1, h2, h3, h4, yjp (hm e he2)⟩
 ·unfold updN at hn
  split at hn
  ·cases hn
  ·rename_i hne
   rcases List.mem_cons.1 (hp.mem_iff.1 (h.wait v hv hn)) with he | he
   ·have : (v : Int) = u := by rw [<- ht, <- he]
    omega
   ·exact he
/-- A step that need not be noted. -/
theorem zo8 {E : Nat -> Nat -> Int -> Prop} {n goal : Nat} {d : Nat -> Int} {dn : Nat -> Bool} {q : List (Int × Int)} {cur : Int} {O O' : Nat -> Nat -> Int -> Prop} (h : DJ E n goal d dn q cur O)
  (ho : ∀ t u c, O t u c -> ¬ O' t u c -> E t u c -> 0 <= d u /\ d u <= d t + c) : DJ E n goal d dn q cur O' :=
 ⟨h.lab, h.gl, h.pre, fun t u c ht hE hO => by
  by_cases e : O t u c
  ·exact ho t u c e hO hE
  ·exact h.rel t u c ht hE e, h.mono, h.ent, h.wait⟩
/-- A step that is noted. -/
theorem zxr {E : Nat -> Nat -> Int -> Prop} (hE : ∀ t u c, E t u c -> 0 < c) {n goal : Nat} {d : Nat -> Int} {dn : Nat -> Bool} {q q' : List (Int × Int)} {cur : Int} {O : Nat -> Nat -> Int -> Prop} (h : DJ E n goal d dn q cur O) {t u : Nat} {c : Int} (ht : dn t = true) (htc : d t = cur) (hu : u < n) (hEu : E t u c) (hd : dn u = false) (hl : d u < 0 \/ cur + c < d u)
  (hq : q'.Perm ((cur + c, (u : Int)) :: q)) : DJ E n goal (updN d u (cur + c)) dn q' cur O := by
 have hc := hE _ _ _ hEu
 have hcur : 0 <= cur := by have := h.mono t ht; omega
 have htu : t ≠ u := fun e => by subst e; rw [ht] at hd; cases hd
 have hdn : ∀ a, dn a = true -> a ≠ u := fun a ha e => by subst e; rw [ha] at hd; cases hd
 have hgu : goal ≠ u := fun e => by subst e; have := h.gl; omega
 refine ⟨fun v => ?_, by rw [z7 hgu]; exact h.gl, fun v hv hl2 => ?_, fun a b k ha hE2 hO => ?_, fun a ha => ?_, fun e he => ?_, fun v hv hn => ?_⟩
 ·unfold updN; split
  ·right; omega
  ·exact h.lab v
 ·by_cases e : v = u
  ·subst e
   exact ⟨t, c, ht, by rw [z7 htu]; omega, hEu, by rw [z7 htu, zx]; omega⟩
  ·rw [z7 e] at hl2 ⊢
   obtain ⟨a, k, h1, h2, h3, h4⟩ := h.pre v hv hl2
   exact ⟨a, k, h1, by rw [z7 (hdn a h1)]; exact h2, h3, by rw [z7 (hdn a h1)]; exact h4⟩
 ·rw [z7 (hdn a ha)]
  obtain ⟨h1, h2⟩ := h.rel a b k ha hE2 hO
  by_cases e : b = u
  ·subst e; rw [zx]; omega
  ·rw [z7 e]; exact ⟨h1, h2⟩
 ·rw [z7 (hdn a ha)]; exact h.mono a ha
 ·rcases List.mem_cons.1 (hq.mem_iff.1 he) with e1 | e1
  ·subst e1
   exact ⟨u, rfl, hu, by rw [zx]; omega, by rw [zx]; exact Int.le_refl _, by omega⟩
  ·obtain ⟨v, h1, h2, h3, h4, h5⟩ := h.ent e e1
   refine ⟨v, h1, h2, ?_⟩
   by_cases ev : v = u
   ·subst ev; rw [zx]; omega
   ·rw [z7 ev]; exact ⟨h3, h4, h5⟩
 ·by_cases e : v = u
  ·subst e; rw [zx]; exact hq.mem_iff.2 List.mem_cons_self
  ·rw [z7 e] at hv ⊢
   exact hq.mem_iff.2 (List.mem_cons_of_mem _ (h.wait v hv hn))
/-- Nobody waits: that is the answer. -/
theorem ypy {E : Nat -> Nat -> Int -> Prop} {n goal : Nat} {d : Nat -> Int} {dn : Nat -> Bool} {cur : Int} (h : DJ E n goal d dn [] cur ze1) : FarOK E goal d := by
 have hdn : ∀ u, 0 <= d u -> dn u = true := fun u hu => by
  cases hb : dn u with
  | true => rfl
  | false => exact absurd (h.wait u hu hb) (by simp)
 exact ⟨h.lab, h.gl, fun u hu hl => by obtain ⟨t, c, _, h2, h3, h4⟩ := h.pre u hu hl; exact ⟨t, c, h2, h3, h4⟩, fun t u c ht hE => h.rel t u c (hdn t ht) hE (fun h => h)⟩
/-- One behind the other: W: who waits. -/
structure SP (E : Nat -> Nat -> Int -> Prop) (goal : Nat) (d : Nat -> Int) (W : Nat -> Bool) (O : Nat -> Nat -> Int -> Prop) : Prop where
 lab : ∀ u, d u = -1 \/ 0 <= d u
 gl : d goal = 0
 pre : ∀ u, u ≠ goal -> 0 <= d u -> ∃ t c, 0 <= d t /\ E t u c /\ d t + c <= d u
 rel : ∀ t u c, 0 <= d t -> W t = false -> E t u c -> ¬ O t u c -> 0 <= d u /\ d u <= d t + c
 wl : ∀ t, W t = true -> 0 <= d t
theorem ymt (E : Nat -> Nat -> Int -> Prop) {goal : Nat} {d : Nat -> Int} (hd : ∀ u, d u = if u = goal then 0 else -1) {W : Nat -> Bool} (hW : ∀ u, W u = decide (u = goal)) : SP E goal d W ze1 := by
 refine ⟨fun u => ?_, by simp [hd], fun u hu h => ?_, fun t u c h hw => ?_, fun t h => ?_⟩
 ·rw [hd]; split <;> simp
 ·rw [hd, if_neg hu] at h; omega
 ·rw [hW] at hw
  rw [hd] at h
  split at h
  ·rename_i e; simp [e] at hw
  ·omega
 ·rw [hW] at h
  simp only [decide_eq_true_eq] at h
  simp [hd, h]
/-- One is taken. -/
theorem ymr {E : Nat -> Nat -> Int -> Prop} {goal : Nat} {d : Nat -> Int} {W : Nat -> Bool} (h : SP E goal d W ze1) (t : Nat) : SP E goal d (updN W t false) (fun a _ _ => a = t) :=
 ⟨h.lab, h.gl, h.pre, fun a u c ha hw hE hO => by
  rw [z7 hO] at hw
  exact h.rel a u c ha hw hE (fun h => h), fun a ha => by
  unfold updN at ha
  split at ha
  ·cases ha
  ·exact h.wl a ha⟩
theorem zn5 {E : Nat -> Nat -> Int -> Prop} {goal : Nat} {d : Nat -> Int} {W : Nat -> Bool} {O O' : Nat -> Nat -> Int -> Prop} (h : SP E goal d W O) (ho : ∀ t u c, O t u c -> ¬ O' t u c -> E t u c -> 0 <= d u /\ d u <= d t + c) : SP E goal d W O' :=
 ⟨h.lab, h.gl, h.pre, fun t u c ht hw hE hO => by
  by_cases e : O t u c
  ·exact ho t u c e hO hE
  ·exact h.rel t u c ht hw hE e, h.wl⟩
theorem yms {E : Nat -> Nat -> Int -> Prop} (hE : ∀ t u c, E t u c -> 0 < c) {goal : Nat} {d : Nat -> Int} {W : Nat -> Bool} {O : Nat -> Nat -> Int -> Prop} (h : SP E goal d W O) {t u : Nat} {c : Int} (ht : 0 <= d t) (htu : t ≠ u) (hEu : E t u c) (hl : d u < 0 \/ d t + c < d u) : SP E goal (updN d u (d t + c)) (updN W u true) O := by
 have hc := hE _ _ _ hEu
 have hgu : goal ≠ u := fun e => by subst e; have := h.gl; omega
 have low : ∀ v, 0 <= d v -> 0 <= updN d u (d t + c) v /\ updN d u (d t + c) v <= d v := fun v hv => by
  unfold updN; split
  ·rename_i e; subst e; omega
  ·omega
 refine ⟨fun v => ?_, by rw [z7 hgu]; exact h.gl, fun v hv hl2 => ?_, fun a b k ha hw hE2 hO => ?_, fun a ha => ?_⟩
 ·unfold updN; split
  ·right; omega
  ·exact h.lab v
 ·by_cases e : v = u
  ·subst e
   exact ⟨t, c, by rw [z7 htu]; exact ht, hEu, by rw [z7 htu, zx]; exact Int.le_refl _⟩
  ·rw [z7 e] at hl2 ⊢
   obtain ⟨a, k, h2, h3, h4⟩ := h.pre v hv hl2
   have := low a h2
   exact ⟨a, k, this.1, h3, by omega⟩
 ·by_cases e : a = u
  ·subst e; rw [zx] at hw; cases hw
  ·rw [z7 e] at ha hw ⊢
   obtain ⟨h1, h2⟩ := h.rel a b k ha hw hE2 hO
   have := low b h1
   omega
 ·by_cases e : a = u
  ·subst e; rw [zx]; omega
  ·rw [z7 e] at ha ⊢; exact h.wl a ha
theorem yo8 {E : Nat -> Nat -> Int -> Prop} {goal : Nat} {d : Nat -> Int} {W : Nat -> Bool} (h : SP E goal d W ze1) (hw : ∀ u, W u = false) : FarOK E goal d :=
 ⟨h.lab, h.gl, h.pre, fun t u c ht hE => h.rel t u c ht (hw t) hE (fun h => h)⟩
end Go.V
namespace Go.V
/-- The tile beside by a way. -/
def besN (g : Gnd) (t way : Nat) : Int := (jq g t).getD way (-1)
def zg3 (g : Gnd) (c : Int) (t : Nat) : Int := zar c (g.T.getD t 5).toNat
/-- May it be gone to? -/
def vd (ok : Nat -> Bool) (u : Int) : Bool := decide (0 <= u) && ok u.toNat
def zjr (way : Nat) : Nat := way - 4
def zjq (way : Nat) : Nat := (way - 3) % 4
/-- What a step costs; 0: there is none. -/
def yr (g : Gnd) (ok : Nat -> Bool) (c : Int) (t way : Nat) : Int :=
 if vd ok (besN g t way) then
  (if way < 4 then 5 * (zg3 g c t + zg3 g c (besN g t way).toNat)
   else if vd ok (besN g t (zjr way)) /\ vd ok (besN g t (zjq way)) then 7 * (zg3 g c t + zg3 g c (besN g t way).toNat) else 0)
 else 0
def x7 (g : Gnd) (ok : Nat -> Bool) (c : Int) (t u : Nat) (k : Int) : Prop := ok t = true /\ t < g.T.length /\ ∃ way, way < 8 /\ besN g t way = (u : Int) /\ ok u = true /\ k = yr g ok c t way /\ 0 < k
theorem zbx {g : Gnd} {ok : Nat -> Bool} {c : Int} : ∀ t u k, x7 g ok c t u k -> 0 < k := fun t u k h => by
 obtain ⟨_, _, w, _, _, _, _, h⟩ := h
 exact h
theorem zqy {g : Gnd} (hg : gndP g) {t way : Nat} (hw : way < 8) : besN g t way = -1 \/ ∃ u : Nat, besN g t way = u /\ u < g.T.length := by
 unfold besN
 have h8 : way < (jq g t).length := by rw [k7]; exact hw
 rw [List.getD_eq_getElem?_getD, List.getElem?_eq_getElem h8]
 exact zl7 hg (List.getElem_mem h8)
theorem zkc {ok : Nat -> Bool} {u : Int} (h : vd ok u = true) : 0 <= u /\ ok u.toNat = true := by
 unfold vd at h
 simpa using h
theorem zdr {g : Gnd} {ok : Nat -> Bool} {c : Int} {t way : Nat} (h : yr g ok c t way ≠ 0) : vd ok (besN g t way) = true := by
 unfold yr at h
 split at h
 ·assumption
 ·exact absurd rfl h
/-- A step by a way, told by its cost. -/
theorem zqv {g : Gnd} {ok : Nat -> Bool} {c : Int} {t way : Nat} (ht : ok t = true) (htl : t < g.T.length) (hw : way < 8) (h : 0 < yr g ok c t way) : x7 g ok c t (besN g t way).toNat (yr g ok c t way) := by
 obtain ⟨h1, h2⟩ := zkc (zdr (g := g) (ok := ok) (c := c) (t := t) (way := way) (by omega))
 exact ⟨ht, htl, way, hw, by omega, h2, rfl, h⟩
theorem xw (c : Int) (t : Nat) : 0 <= zar c t /\ zar c t <= 6 := by
 have h : ∀ l ∈ [[2, 1, 3, 5, 0, 0], [2, 1, 6, 0, 0, 0], [2, 1, 0, 3, 2, 0]], ∀ t : Nat, 0 <= (l : List Int).getD t 0 /\ (l : List Int).getD t 0 <= 6 := by
  intro l hl t
  simp only [List.mem_cons, List.not_mem_nil, or_false] at hl
  by_cases h6 : t < 6
  ·have : t = 0 \/ t = 1 \/ t = 2 \/ t = 3 \/ t = 4 \/ t = 5 := by omega
   rcases hl with rfl | rfl | rfl <;> rcases this with rfl | rfl | rfl | rfl | rfl | rfl <;> decide
  ·rcases hl with rfl | rfl | rfl <;> (rw [List.getD_eq_getElem?_getD, List.getElem?_eq_none (by simp; omega)]; decide)
 unfold zar
 split
 ·exact h _ (by simp) t
 ·split
  ·exact h _ (by simp) t
  ·exact h _ (by simp) t
theorem zjm (g : Gnd) (ok : Nat -> Bool) (c : Int) (t way : Nat) : 0 <= yr g ok c t way /\ yr g ok c t way <= 84 := by
 have h1 := xw c (g.T.getD t 5).toNat
 have h2 := xw c (g.T.getD (besN g t way).toNat 5).toNat
 unfold yr zg3
 split
 ·split
  ·omega
  ·split <;> omega
 ·omega
open Classical in
/-- What each tile costs to a goal. -/
noncomputable def farF (g : Gnd) (ok : Nat -> Bool) (c : Int) (goal : Nat) : Nat -> Int :=
 if ok goal = true then (if h : ∃ d, FarOK (x7 g ok c) goal d then h.choose else fun _ => -1) else fun _ => -1
theorem zo2 {g : Gnd} {ok : Nat -> Bool} {c : Int} {goal : Nat} (hok : ok goal = true) {d : Nat -> Int} (h : FarOK (x7 g ok c) goal d) : farF g ok c goal = d := by
 unfold farF
 rw [if_pos hok]
 have hx : ∃ d, FarOK (x7 g ok c) goal d := ⟨d, h⟩
 rw [dif_pos hx]
 exact yob zbx hx.choose_spec h
theorem zxj {g : Gnd} {ok : Nat -> Bool} {c : Int} {goal : Nat} (hok : ok goal = false) : farF g ok c goal = fun _ => -1 := by
 unfold farF
 rw [if_neg (by simp [hok])]
/-- The way to take: the first that goes on as it costs. -/
noncomputable def wayF (g : Gnd) (ok : Nat -> Bool) (c : Int) (d : Nat -> Int) (t : Nat) : Int :=
 if d t <= 0 then -1 else match (List.range 8).find? fun way => decide (0 < yr g ok c t way /\ 0 <= d (besN g t way).toNat /\ yr g ok c t way + d (besN g t way).toNat = d t) with
  | some way => (way : Int)
  | none => -1
end Go.V
