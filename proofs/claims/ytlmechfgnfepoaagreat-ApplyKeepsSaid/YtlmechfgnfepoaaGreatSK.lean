/- The ground on which laws of thronglaw23 are proved: contracts of functions and plain lemmas; no condition beyond the row's own. -/
import Derived.Test.YtlmechfgnfepoaaGreatVG
import Derived.Test.YtlmechfgnfepoaaGreatVH
import Derived.Test.YtlmechfgnfepoaaGreatVE
set_option linter.unusedSimpArgs false
set_option linter.unusedVariables false
namespace Go.V
def onG (g : Gnd) (x y : Int) : Prop := (0 ≤ x ∧ x < g.W) ∧ (0 ≤ y ∧ y < g.H)
instance (g : Gnd) (x y : Int) : Decidable (onG g x y) := inferInstanceAs (Decidable (_ ∧ _))
def tl (g : Gnd) (x y : Int) : Nat := (x + g.W * y).toNat
theorem jb {g : Gnd} (hg : gndP g) {x y : Int} (h : onG g x y) : ((tl g x y : Nat) : Int) = x + g.W * y ∧ tl g x y < g.T.length ∧ (tl g x y : Int) % g.W = x ∧ (tl g x y : Int) / g.W = y := by
 obtain ⟨h1, h2, h3⟩ := zq hg
 obtain ⟨⟨hx, hx2⟩, hy, hy2⟩ := h
 have hW : 1 ≤ g.W := hg.1.1
 have e0 : 0 ≤ g.W * y := Int.mul_nonneg (by omega) hy
 have e : ((tl g x y : Nat) : Int) = x + g.W * y := by unfold tl; omega
 have e1 : g.W * y ≤ g.W * (g.H - 1) := Int.mul_le_mul (Int.le_refl _) (by omega) hy (by omega)
 rw [Int.mul_sub, Int.mul_one] at e1
 refine ⟨e, by omega, ?_, ?_⟩
 ·rw [e, Int.add_mul_emod_self_left, Int.emod_eq_of_lt hx hx2]
 ·rw [e, Int.add_mul_ediv_left _ _ (by omega), Int.ediv_eq_zero_of_lt hx hx2, Int.zero_add]
theorem zgo {g : Gnd} (hg : gndP g) {t : Nat} (ht : t < g.T.length) : onG g ((t : Int) % g.W) ((t : Int) / g.W) ∧ tl g ((t : Int) % g.W) ((t : Int) / g.W) = t := by
 obtain ⟨h1, h2, h3⟩ := zq hg
 have hW : 1 ≤ g.W := hg.1.1
 have a := Int.emod_nonneg (t : Int) (show g.W ≠ 0 by omega)
 have b := Int.emod_lt_of_pos (t : Int) (show 0 < g.W by omega)
 have c := Int.ediv_nonneg (show 0 ≤ (t : Int) by omega) (show 0 ≤ g.W by omega)
 have d : (t : Int) / g.W < g.H := Int.ediv_lt_of_lt_mul (by omega) (by rw [Int.mul_comm]; omega)
 refine ⟨⟨⟨a, b⟩, c, d⟩, ?_⟩
 unfold tl
 rw [Int.emod_add_mul_ediv]
 omega
/-- All tiles of a square are good. -/
def sqP (g : Gnd) (f : Nat → Bool) (s : Nat) (x y : Int) : Prop := ∀ a b : Int, -(s : Int) ≤ a → a ≤ s → -(s : Int) ≤ b → b ≤ s → onG g (x + a) (y + b) ∧ f (tl g (x + a) (y + b)) = true
theorem sq_zero {g : Gnd} {f : Nat → Bool} {x y : Int} : sqP g f 0 x y ↔ onG g x y ∧ f (tl g x y) = true := by
 constructor
 ·intro h
  have := h 0 0 (by decide) (by decide) (by decide) (by decide)
  simpa using this
 ·intro h a b h1 h2 h3 h4
  have ea : a = 0 := by omega
  have eb : b = 0 := by omega
  subst ea eb
  simpa using h
theorem sq_succ {g : Gnd} {f : Nat → Bool} {s : Nat} {x y : Int} : sqP g f (s + 1) x y ↔ ∀ a b : Int, -1 ≤ a → a ≤ 1 → -1 ≤ b → b ≤ 1 → onG g (x + a) (y + b) ∧ sqP g f s (x + a) (y + b) := by
 constructor
 ·intro h a b h1 h2 h3 h4
  refine ⟨(h a b (by omega) (by omega) (by omega) (by omega)).1, fun a' b' k1 k2 k3 k4 => ?_⟩
  have := h (a + a') (b + b') (by omega) (by omega) (by omega) (by omega)
  rw [← Int.add_assoc, ← Int.add_assoc] at this
  exact this
 ·intro h a b h1 h2 h3 h4
  obtain ⟨a1, ha1, ha2, ha3, ha4⟩ : ∃ a1 : Int, -1 ≤ a1 ∧ a1 ≤ 1 ∧ -(s : Int) ≤ a - a1 ∧ a - a1 ≤ s := by
   by_cases c1 : a > s
   ·exact ⟨1, by omega, by omega, by omega, by omega⟩
   ·by_cases c2 : a < -s
    ·exact ⟨-1, by omega, by omega, by omega, by omega⟩
    ·exact ⟨0, by omega, by omega, by omega, by omega⟩
  obtain ⟨b1, hb1, hb2, hb3, hb4⟩ : ∃ b1 : Int, -1 ≤ b1 ∧ b1 ≤ 1 ∧ -(s : Int) ≤ b - b1 ∧ b - b1 ≤ s := by
   by_cases c1 : b > s
   ·exact ⟨1, by omega, by omega, by omega, by omega⟩
   ·by_cases c2 : b < -s
    ·exact ⟨-1, by omega, by omega, by omega, by omega⟩
    ·exact ⟨0, by omega, by omega, by omega, by omega⟩
  have := (h a1 b1 ha1 ha2 hb1 hb2).2 (a - a1) (b - b1) ha3 ha4 hb3 hb4
  rw [show x + a1 + (a - a1) = x + a by omega, show y + b1 + (b - b1) = y + b by omega] at this
  exact this
theorem zoy {g : Gnd} {f : Nat → Bool} {s s' : Nat} (hs : s' ≤ s) {x y : Int} (h : sqP g f s x y) : sqP g f s' x y := fun a b h1 h2 h3 h4 => h a b (by omega) (by omega) (by omega) (by omega)
def m5 (a b c d e : Int) : Int := min (min (min (min a (b + 1)) (c + 1)) (d + 1)) (e + 1)
/-- Two sweeps tell how far it is to what is not good. -/
theorem cham {g : Gnd} {f : Nat → Bool} {A B : Int → Int → Int} (oA : ∀ x y, ¬ onG g x y → A x y = 0) (oB : ∀ x y, ¬ onG g x y → B x y = 0)
  (hA : ∀ x y, onG g x y → A x y = m5 (if f (tl g x y) then 128 else 0) (A (x - 1) y) (A (x - 1) (y - 1)) (A x (y - 1)) (A (x + 1) (y - 1)))
  (hB : ∀ x y, onG g x y → B x y = m5 (A x y) (B (x + 1) y) (B (x + 1) (y + 1)) (B x (y + 1)) (B (x - 1) (y + 1))) {x y : Int} (hxy : onG g x y) (s : Nat) (hs : s ≤ 127) : (s : Int) < B x y ↔ sqP g f s x y := by
 -- not below 0
 have nA : ∀ n : Nat, ∀ x y, onG g x y → y * 200 + x < n → 0 ≤ A x y := by
  intro n
  induction n with
  | zero => intro x y h hn; obtain ⟨⟨h1, h2⟩, h3, h4⟩ := h; omega
  | succ n ih =>
   intro x y h hn
   have any : ∀ x' y', y' * 200 + x' < y * 200 + x → 0 ≤ A x' y' := fun x' y' hl => by
    by_cases ho : onG g x' y'
    ·exact ih x' y' ho (by omega)
    ·rw [oA x' y' ho]; decide
   rw [hA x y h]
   have a1 := any (x - 1) y (by omega)
   have a2 := any (x - 1) (y - 1) (by omega)
   have a3 := any x (y - 1) (by omega)
   have a4 := any (x + 1) (y - 1) (by omega)
   have a5 : (0 : Int) ≤ (if f (tl g x y) then 128 else 0) := by split <;> decide
   unfold m5
   omega
 have pA : ∀ x y, 0 ≤ A x y := fun x y => by
  by_cases ho : onG g x y
  ·exact nA (y * 200 + x + 1).toNat x y ho (by obtain ⟨⟨h1, h2⟩, h3, h4⟩ := ho; omega)
  ·rw [oA x y ho]; decide
 have nB : ∀ n : Nat, ∀ x y, onG g x y → (g.H - y) * 200 + (g.W - x) < n → 0 ≤ B x y := by
  intro n
  induction n with
  | zero => intro x y h hn; obtain ⟨⟨h1, h2⟩, h3, h4⟩ := h; omega
  | succ n ih =>
   intro x y h hn
   have any : ∀ x' y', (g.H - y') * 200 + (g.W - x') < (g.H - y) * 200 + (g.W - x) → 0 ≤ B x' y' := fun x' y' hl => by
    by_cases ho : onG g x' y'
    ·exact ih x' y' ho (by omega)
    ·rw [oB x' y' ho]; decide
   rw [hB x y h]
   have a1 := any (x + 1) y (by omega)
   have a2 := any (x + 1) (y + 1) (by omega)
   have a3 := any x (y + 1) (by omega)
   have a4 := any (x - 1) (y + 1) (by omega)
   have a5 := pA x y
   unfold m5
   omega
 have pB : ∀ x y, 0 ≤ B x y := fun x y => by
  by_cases ho : onG g x y
  ·exact nB ((g.H - y) * 200 + (g.W - x) + 1).toNat x y ho (by obtain ⟨⟨h1, h2⟩, h3, h4⟩ := ho; omega)
  ·rw [oB x y ho]; decide
 constructor
 ·-- what is bad is not farther than its steps
  have up1 : ∀ d : Nat, ∀ x y a b, onG g x y → -(d : Int) ≤ a → a ≤ d → -(d : Int) ≤ b → b ≤ 0 → a ≤ -b → ¬ (onG g (x + a) (y + b) ∧ f (tl g (x + a) (y + b)) = true) → A x y ≤ d := by
   intro d
   induction d with
   | zero =>
    intro x y a b h h1 h2 h3 h4 h5 hbad
    have ea : a = 0 := by omega
    have eb : b = 0 := by omega
    subst ea eb
    rw [Int.add_zero, Int.add_zero] at hbad
    have hf : ¬ f (tl g x y) = true := fun hf => hbad ⟨h, hf⟩
    rw [hA x y h, if_neg hf]
    unfold m5
    omega
   | succ d ih =>
    intro x y a b h h1 h2 h3 h4 h5 hbad
    have go : ∀ u v : Int, -(d : Int) ≤ a - u → a - u ≤ d → -(d : Int) ≤ b - v → b - v ≤ 0 → a - u ≤ -(b - v) → A (x + u) (y + v) ≤ d := fun u v g1 g2 g3 g4 g5 => by
     by_cases ho : onG g (x + u) (y + v)
     ·refine ih (x + u) (y + v) (a - u) (b - v) ho g1 g2 g3 g4 g5 ?_
      rw [show x + u + (a - u) = x + a by omega, show y + v + (b - v) = y + b by omega]
      exact hbad
     ·rw [oA _ _ ho]; omega
    have hk := hA x y h
    unfold m5 at hk
    by_cases cb : b = 0
    ·by_cases ca : a = 0
     ·subst ca cb
      rw [Int.add_zero, Int.add_zero] at hbad
      have hf : ¬ f (tl g x y) = true := fun hf => hbad ⟨h, hf⟩
      rw [if_neg hf] at hk
      omega
     ·have := go (-1) 0 (by omega) (by omega) (by omega) (by omega) (by omega)
      rw [show x + -1 = x - 1 by omega, Int.add_zero] at this
      omega
    ·by_cases ca : a = 0
     ·have := go 0 (-1) (by omega) (by omega) (by omega) (by omega) (by omega)
      rw [show y + -1 = y - 1 by omega, Int.add_zero] at this
      omega
     ·by_cases ca2 : a < 0
      ·have := go (-1) (-1) (by omega) (by omega) (by omega) (by omega) (by omega)
       rw [show y + -1 = y - 1 by omega, show x + -1 = x - 1 by omega] at this
       omega
      ·have := go 1 (-1) (by omega) (by omega) (by omega) (by omega) (by omega)
       rw [show y + -1 = y - 1 by omega] at this
       omega
  have up2 : ∀ d : Nat, ∀ x y a b, onG g x y → -(d : Int) ≤ a → a ≤ d → -(d : Int) ≤ b → b ≤ d → ¬ (onG g (x + a) (y + b) ∧ f (tl g (x + a) (y + b)) = true) → B x y ≤ d := by
   intro d
   induction d with
   | zero =>
    intro x y a b h h1 h2 h3 h4 hbad
    have := up1 0 x y a b h h1 h2 h3 (by omega) (by omega) hbad
    have hk := hB x y h
    unfold m5 at hk
    omega
   | succ d ih =>
    intro x y a b h h1 h2 h3 h4 hbad
    have hk := hB x y h
    unfold m5 at hk
    by_cases cone : b ≤ 0 ∧ a ≤ -b
    ·have := up1 (d + 1) x y a b h h1 h2 h3 cone.1 cone.2 hbad
     omega
    have go : ∀ u v : Int, -(d : Int) ≤ a - u → a - u ≤ d → -(d : Int) ≤ b - v → b - v ≤ d → B (x + u) (y + v) ≤ d := fun u v g1 g2 g3 g4 => by
     by_cases ho : onG g (x + u) (y + v)
     ·refine ih (x + u) (y + v) (a - u) (b - v) ho g1 g2 g3 g4 ?_
      rw [show x + u + (a - u) = x + a by omega, show y + v + (b - v) = y + b by omega]
      exact hbad
     ·rw [oB _ _ ho]; omega
    by_cases cb : b ≤ 0
    ·have := go 1 0 (by omega) (by omega) (by omega) (by omega)
     rw [Int.add_zero] at this
     omega
    ·by_cases ca : a = 0
     ·have := go 0 1 (by omega) (by omega) (by omega) (by omega)
      rw [Int.add_zero] at this
      omega
     ·by_cases ca2 : a < 0
      ·have := go (-1) 1 (by omega) (by omega) (by omega) (by omega)
       rw [show x + -1 = x - 1 by omega] at this
       omega
      ·have := go 1 1 (by omega) (by omega) (by omega) (by omega)
       omega
  intro hlt a b h1 h2 h3 h4
  refine Classical.byContradiction fun hbad => ?_
  have := up2 s x y a b hxy h1 h2 h3 h4 hbad
  omega
 ·-- what is good all about is far
  have loA : ∀ s : Nat, s ≤ 127 → ∀ x y, sqP g f s x y → (s : Int) < A x y := by
   intro s
   induction s with
   | zero =>
    intro _ x y h
    obtain ⟨ho, hf⟩ := sq_zero.1 h
    rw [hA x y ho, if_pos hf]
    have a1 := pA (x - 1) y
    have a2 := pA (x - 1) (y - 1)
    have a3 := pA x (y - 1)
    have a4 := pA (x + 1) (y - 1)
    unfold m5
    omega
   | succ s ih =>
    intro hs x y h
    have h2 := sq_succ.1 h
    have nb := fun (a b : Int) h3 h4 h5 h6 => ih (by omega) _ _ (h2 a b h3 h4 h5 h6).2
    obtain ⟨ho, hf⟩ := sq_zero.1 (zoy (Nat.zero_le _) h)
    have a1 := nb (-1) 0 (by decide) (by decide) (by decide) (by decide)
    have a2 := nb (-1) (-1) (by decide) (by decide) (by decide) (by decide)
    have a3 := nb 0 (-1) (by decide) (by decide) (by decide) (by decide)
    have a4 := nb 1 (-1) (by decide) (by decide) (by decide) (by decide)
    rw [show x + -1 = x - 1 by omega] at a1 a2
    rw [show y + -1 = y - 1 by omega] at a2 a3 a4
    rw [Int.add_zero] at a1 a3
    rw [hA x y ho, if_pos hf]
    unfold m5
    omega
  have loB : ∀ s : Nat, s ≤ 127 → ∀ x y, sqP g f s x y → (s : Int) < B x y := by
   intro s
   induction s with
   | zero =>
    intro hs x y h
    obtain ⟨ho, hf⟩ := sq_zero.1 h
    rw [hB x y ho]
    have a1 := pB (x + 1) y
    have a2 := pB (x + 1) (y + 1)
    have a3 := pB x (y + 1)
    have a4 := pB (x - 1) (y + 1)
    have a5 := loA 0 hs x y h
    unfold m5
    omega
   | succ s ih =>
    intro hs x y h
    have h2 := sq_succ.1 h
    have nb := fun (a b : Int) h3 h4 h5 h6 => ih (by omega) _ _ (h2 a b h3 h4 h5 h6).2
    obtain ⟨ho, hf⟩ := sq_zero.1 (zoy (Nat.zero_le _) h)
    have a1 := nb 1 0 (by decide) (by decide) (by decide) (by decide)
    have a2 := nb 1 1 (by decide) (by decide) (by decide) (by decide)
    have a3 := nb 0 1 (by decide) (by decide) (by decide) (by decide)
    have a4 := nb (-1) 1 (by decide) (by decide) (by decide) (by decide)
    rw [show x + -1 = x - 1 by omega] at a4
    rw [Int.add_zero] at a1 a3
    have a5 := loA (s + 1) hs x y h
    rw [hB x y ho]
    unfold m5
    omega
  exact loB s hs x y
end Go.V
namespace Go.V
theorem zeg {p q : Nat → Bool} {m : Nat} (hp : ∀ t, p t = true → t < m) : ∀ {N : Nat}, m < N → (∀ t, t < N → (q t = true ↔ p t = true ∨ t = m)) → (List.range N).filter q = (List.range N).filter p ++ [m]
 | 0, h, _ => absurd h (Nat.not_lt_zero m)
 | N + 1, h, hq => by
  rw [List.range_succ, List.filter_append, List.filter_append]
  have hpN : p N = false := Bool.eq_false_iff.2 fun hh => by have := hp N hh; omega
  by_cases e : m = N
  ·subst e
   have h1 : (List.range m).filter q = (List.range m).filter p := List.filter_congr fun t ht => by
    have ht := List.mem_range.1 ht
    have := hq t (by omega)
    rw [Bool.eq_iff_iff, this]
    exact ⟨fun h => h.resolve_right (by omega), .inl⟩
   have h2 : q m = true := (hq m (by omega)).2 (.inr rfl)
   rw [h1]
   simp [hpN, h2]
  ·have h2 : q N = false := Bool.eq_false_iff.2 fun hh => by
    rcases (hq N (by omega)).1 hh with h | h
    ·rw [hpN] at h; cases h
    ·omega
   rw [zeg hp (by omega) (fun t ht => hq t (by omega))]
   simp [hpN, h2]
theorem zap {p q : Nat → Bool} {N : Nat} (h : ∀ t, t < N → (q t = true ↔ p t = true)) : (List.range N).filter q = (List.range N).filter p :=
 List.filter_congr fun t ht => by rw [Bool.eq_iff_iff]; exact h t (List.mem_range.1 ht)
theorem zow {α : Type} (L : List α) (a : α) (n : Nat) : (L ++ [a]).take n = if L.length < n then L.take n ++ [a] else L.take n := by
 split
 ·rw [List.take_of_length_le (by simp; omega), List.take_of_length_le (by omega)]
 ·rw [List.take_append_of_le_length (by omega)]
theorem zfd {α : Type} (L : List α) (n : Nat) : (L.take n).length < n ↔ L.length < n := by rw [List.length_take]; omega
def natI (l : List Nat) : List Int := l.map fun (t : Nat) => (t : Int)
theorem zly (a b : List Nat) : natI (a ++ b) = natI a ++ natI b := List.map_append
/-- How far by rows and columns. -/
def absM (i j : Int) : Int := max (max i (-i)) (max j (-j))
/-- A tile at just this way from a place, by steps of k. -/
def zpq (g : Gnd) (x y k d : Int) (t : Nat) : Bool := decide (absM ((t : Int) % g.W - x) ((t : Int) / g.W - y) = d ∧ ((t : Int) % g.W - x).tmod k = 0 ∧ ((t : Int) / g.W - y).tmod k = 0)
def zez (g : Gnd) (x y k d : Int) : List Nat := (List.range g.T.length).filter (zpq g x y k d)
/-- Those ahead of a place, row by row. -/
def zr1 (g : Gnd) (x y j i : Int) (t : Nat) : Bool := decide ((t : Int) / g.W < y + j ∨ ((t : Int) / g.W = y + j ∧ (t : Int) % g.W < x + i))
def jn (g : Gnd) (x y k d j i : Int) : List Nat := (List.range g.T.length).filter fun t => zpq g x y k d t && zr1 g x y j i t
theorem zgl {g : Gnd} {x y k d : Int} {t : Nat} (h : zpq g x y k d t = true) : (x - d ≤ (t : Int) % g.W ∧ (t : Int) % g.W ≤ x + d) ∧ (y - d ≤ (t : Int) / g.W ∧ (t : Int) / g.W ≤ y + d) := by
 have := (of_decide_eq_true h).1
 unfold absM at this
 omega
theorem zh5 (g : Gnd) (x y k d : Int) : jn g x y k d (-d) (-d) = [] := by
 unfold jn
 rw [List.filter_eq_nil_iff]
 intro t _ hh
 obtain ⟨h1, h2⟩ := (Bool.and_eq_true_iff).1 hh
 have := zgl h1
 have := of_decide_eq_true h2
 omega
theorem zm5 (g : Gnd) (x y k d j : Int) : jn g x y k d j (d + 1) = jn g x y k d (j + 1) (-d) := zap fun t ht => by
 rw [Bool.and_eq_true_iff, Bool.and_eq_true_iff]
 refine ⟨fun ⟨h1, h2⟩ => ⟨h1, ?_⟩, fun ⟨h1, h2⟩ => ⟨h1, ?_⟩⟩
 ·have := zgl h1
  have := of_decide_eq_true h2
  exact decide_eq_true (by omega)
 ·have := zgl h1
  have := of_decide_eq_true h2
  exact decide_eq_true (by omega)
theorem zm7 (g : Gnd) (x y k d : Int) : jn g x y k d (d + 1) (-d) = zez g x y k d := zap fun t ht => by
 rw [Bool.and_eq_true_iff]
 refine ⟨fun h => h.1, fun h1 => ⟨h1, ?_⟩⟩
 have := zgl h1
 exact decide_eq_true (by omega)
theorem zm4 {g : Gnd} (hg : gndP g) {x y k d j i : Int} (ho : onG g (x + i) (y + j)) (hd : absM i j = d) (hi : i.tmod k = 0) (hj : j.tmod k = 0) : jn g x y k d j (i + 1) = jn g x y k d j i ++ [tl g (x + i) (y + j)] := by
 obtain ⟨e1, e2, e3, e4⟩ := jb hg ho
 have hW : 1 ≤ g.W := hg.1.1
 refine zeg (m := tl g (x + i) (y + j)) (fun t hh => ?_) e2 (fun t ht => ?_)
 ·obtain ⟨h1, h2⟩ := (Bool.and_eq_true_iff).1 hh
  have h2 := of_decide_eq_true h2
  have e5 := Int.emod_add_mul_ediv (t : Int) g.W
  rcases h2 with h2 | ⟨h2, h3⟩
  ·have b1 := Int.emod_lt_of_pos (t : Int) (show 0 < g.W by omega)
   have : g.W * ((t : Int) / g.W + 1) ≤ g.W * (y + j) := Int.mul_le_mul_of_nonneg_left (by omega) (by omega)
   rw [Int.mul_add, Int.mul_one] at this
   have := ho.1.1
   omega
  ·rw [h2] at e5
   omega
 ·rw [Bool.and_eq_true_iff, Bool.and_eq_true_iff]
  constructor
  ·rintro ⟨h1, h2⟩
   have h2 := of_decide_eq_true h2
   by_cases h3 : (t : Int) / g.W = y + j ∧ (t : Int) % g.W = x + i
   ·right
    have := (zgo hg ht).2
    rw [h3.1, h3.2] at this
    exact this.symm
   ·exact .inl ⟨h1, decide_eq_true (by omega)⟩
  ·rintro (⟨h1, h2⟩ | rfl)
   ·have h2 := of_decide_eq_true h2
    exact ⟨h1, decide_eq_true (by omega)⟩
   ·refine ⟨decide_eq_true ?_, decide_eq_true ?_⟩
    ·rw [e3, e4, show x + i - x = i by omega, show y + j - y = j by omega]
     exact ⟨hd, hi, hj⟩
    ·rw [e3, e4]; omega
theorem zpp {g : Gnd} (hg : gndP g) {x y k d j i : Int} (hn : ¬ (absM i j = d ∧ i.tmod k = 0 ∧ j.tmod k = 0 ∧ onG g (x + i) (y + j))) : jn g x y k d j (i + 1) = jn g x y k d j i := zap fun t ht => by
 rw [Bool.and_eq_true_iff, Bool.and_eq_true_iff]
 refine ⟨fun ⟨h1, h2⟩ => ⟨h1, ?_⟩, fun ⟨h1, h2⟩ => ⟨h1, ?_⟩⟩
 ·have h2 := of_decide_eq_true h2
  refine decide_eq_true ?_
  by_cases h3 : (t : Int) / g.W = y + j ∧ (t : Int) % g.W = x + i
  ·exfalso
   obtain ⟨q1, q2, q3⟩ := of_decide_eq_true h1
   rw [h3.1, h3.2, show x + i - x = i by omega, show y + j - y = j by omega] at q1
   rw [h3.2, show x + i - x = i by omega] at q2
   rw [h3.1, show y + j - y = j by omega] at q3
   have := (zgo hg ht).1
   rw [h3.1, h3.2] at this
   exact hn ⟨q1, q2, q3, this⟩
  ·omega
 ·have h2 := of_decide_eq_true h2
  exact decide_eq_true (by omega)
/-- Places about a goal: all that are less than d away, by ways. -/
def za0 (g : Gnd) (f : Nat → Bool) (x y k d : Int) : List Nat := (zez g x y k d).filter f
def y3 (g : Gnd) (f : Nat → Bool) (x y k : Int) : Nat → List Nat
 | 0 => []
 | d + 1 => y3 g f x y k d ++ za0 g f x y k d
/-- Places about a goal. -/
def zfi (g : Gnd) (f : Nat → Bool) (size goal : Int) (n : Nat) : List Nat := (y3 g f (goal % g.W) (goal / g.W) (2 * size + 1) (g.W + g.H + 1).toNat).take n
theorem zds (g : Gnd) (f : Nat → Bool) (x y k : Int) (d : Nat) : ∀ e : Nat, ∃ m, y3 g f x y k (d + e) = y3 g f x y k d ++ m
 | 0 => ⟨[], by simp⟩
 | e + 1 => by
  obtain ⟨m, hm⟩ := zds g f x y k d e
  exact ⟨m ++ za0 g f x y k ((d + e : Nat) : Int), by rw [← List.append_assoc, ← hm]; rfl⟩
theorem zo3 {g : Gnd} (hg : gndP g) {f : Nat → Bool} {x y k d : Int} (hx : 0 ≤ x ∧ x < g.W) (hy : 0 ≤ y ∧ y < g.H) (hd : max g.W g.H ≤ d) : za0 g f x y k d = [] := by
 unfold za0 zez
 rw [List.filter_filter, List.filter_eq_nil_iff]
 intro t ht hh
 obtain ⟨h1, h2⟩ := (Bool.and_eq_true_iff).1 hh
 have h3 := (of_decide_eq_true h2).1
 obtain ⟨⟨o1, o2⟩, o3, o4⟩ := (zgo hg (List.mem_range.1 ht)).1
 unfold absM at h3
 omega
theorem zo2 {g : Gnd} {f : Nat → Bool} {x y k d : Int} (hd : ¬ k ∣ d) : za0 g f x y k d = [] := by
 unfold za0 zez
 rw [List.filter_filter, List.filter_eq_nil_iff]
 intro t ht hh
 obtain ⟨h1, h2⟩ := (Bool.and_eq_true_iff).1 hh
 obtain ⟨h3, h4, h5⟩ := of_decide_eq_true h2
 have h4 := Int.dvd_of_tmod_eq_zero h4
 have h5 := Int.dvd_of_tmod_eq_zero h5
 refine hd ?_
 rw [← h3]
 unfold absM
 generalize (t : Int) % g.W - x = a at *
 generalize (t : Int) / g.W - y = b at *
 have ha := (Int.dvd_neg (a := k) (b := a)).2 h4
 have hb := (Int.dvd_neg (a := k) (b := b)).2 h5
 have mx : ∀ u v : Int, k ∣ u → k ∣ v → k ∣ max u v := fun u v h1 h2 => by
  by_cases h : u ≤ v
  ·rw [Int.max_eq_right h]; exact h2
  ·rw [Int.max_eq_left (by omega)]; exact h1
 exact mx _ _ (mx _ _ h4 ha) (mx _ _ h5 hb)
theorem zhu {g : Gnd} {f : Nat → Bool} {x y : Int} {k d : Nat} (hk : 0 < k) (hd : k ∣ d) : y3 g f x y k (d + k) = y3 g f x y k d ++ za0 g f x y k d := by
 have : ∀ e : Nat, e < k → y3 g f x y k (d + (e + 1)) = y3 g f x y k d ++ za0 g f x y k d := by
  intro e
  induction e with
  | zero => intro _; rfl
  | succ e ih =>
   intro he
   have h1 := ih (by omega)
   have h2 : za0 g f x y k ((d + (e + 1) : Nat) : Int) = [] := zo2 fun hh => by
    have hh : k ∣ d + (e + 1) := by exact_mod_cast hh
    have := (Nat.dvd_add_right hd).1 hh
    have := Nat.le_of_dvd (by omega) this
    omega
   show y3 g f x y k (d + (e + 1)) ++ za0 g f x y k ((d + (e + 1) : Nat) : Int) = _
   rw [h1, h2, List.append_nil]
 have := this (k - 1) (by omega)
 rw [show k - 1 + 1 = k by omega] at this
 exact this
theorem zmt {g : Gnd} (hg : gndP g) {f : Nat → Bool} {size goal : Int} (hgl : 0 ≤ goal ∧ goal < g.W * g.H) {d n : Nat} (h : n ≤ (y3 g f (goal % g.W) (goal / g.W) (2 * size + 1) d).length ∨ max g.W g.H ≤ (d : Int)) :
  (y3 g f (goal % g.W) (goal / g.W) (2 * size + 1) d).take n = zfi g f size goal n := by
 have hW : 1 ≤ g.W ∧ g.W ≤ 128 := hg.1
 have hH : 1 ≤ g.H ∧ g.H ≤ 128 := hg.2.1
 have hx : 0 ≤ goal % g.W ∧ goal % g.W < g.W := ⟨Int.emod_nonneg _ (by omega), Int.emod_lt_of_pos _ (by omega)⟩
 have hy : 0 ≤ goal / g.W ∧ goal / g.W < g.H := ⟨Int.ediv_nonneg hgl.1 (by omega), Int.ediv_lt_of_lt_mul (by omega) (by rw [Int.mul_comm]; exact hgl.2)⟩
 unfold zfi
 generalize goal % g.W = x at *
 generalize goal / g.W = y at *
 generalize 2 * size + 1 = k at *
 generalize hm : (g.W + g.H + 1).toNat = m at *
 have hmI : (m : Int) = g.W + g.H + 1 := by omega
 -- from where nothing comes any more
 have flat : ∀ c : Nat, max g.W g.H ≤ (c : Int) → ∀ e : Nat, y3 g f x y k (c + e) = y3 g f x y k c := fun c hc e => by
  induction e with
  | zero => rfl
  | succ e ih =>
   show y3 g f x y k (c + e) ++ za0 g f x y k ((c + e : Nat) : Int) = _
   rw [ih, zo3 hg hx hy (by omega), List.append_nil]
 rcases h with h | h
 ·by_cases hdm : d ≤ m
  ·obtain ⟨r, hr⟩ := zds g f x y k d (m - d)
   rw [show d + (m - d) = m by omega] at hr
   rw [hr, List.take_append_of_le_length h]
  ·have := flat m (by omega) (d - m)
   rw [show m + (d - m) = d by omega] at this
   rw [this]
 ·by_cases hdm : d ≤ m
  ·have := flat d h (m - d)
   rw [show d + (m - d) = m by omega] at this
   rw [this]
  ·have := flat m (by omega) (d - m)
   rw [show m + (d - m) = d by omega] at this
   rw [this]
end Go.V
namespace Go.V
/-- Cells of whole numbers. -/
def il (n : Nat) (f : Nat → Int) : List AV := (List.range n).map fun t => int (f t)
theorem w9 (n : Nat) (f : Nat → Int) : (il n f).length = n := by simp [il]
theorem zfp {n : Nat} {f : Nat → Int} {t : Nat} (h : t < n) : (il n f)[t]? = some (int (f t)) := by simp [il, h]
theorem zks {n : Nat} {f : Nat → Int} {t : Nat} (h : t < n) : ((il n f).drop (0 + t * 1)).head? = some (int (f t)) := by
 rw [List.head?_drop, show 0 + t * 1 = t by omega, zfp h]
theorem ydm (n : Nat) : List.replicate n (AV.s (.int .i64 0)) = il n fun _ => 0 := by
 unfold il
 rw [List.map_const', List.length_range]
 rfl
def setI (f : Nat → Int) (t : Nat) (v : Int) : Nat → Int := fun s => if s = t then v else f s
theorem vl (f : Nat → Int) (t : Nat) (v : Int) : setI f t v t = v := if_pos rfl
theorem zbq (f : Nat → Int) {t s : Nat} (v : Int) (h : s ≠ t) : setI f t v s = f s := if_neg h
theorem ycw (f : Nat → Int) (t : Nat) : setI f t (f t) = f := funext fun s => by
 unfold setI
 split
 ·rename_i h; rw [h]
 ·rfl
theorem zhx (f : Nat → Int) (t : Nat) (v u : Int) : setI (setI f t v) t u = setI f t u := funext fun s => by
 unfold setI
 split <;> simp_all
theorem zqz {n : Nat} {f : Nat → Int} {t : Nat} (h : t < n) (g : Nat → Int) (hg : ∀ s, s ≠ t → g s = f s) : zn (il n f) t [int (g t)] = il n g := by
 unfold zn
 apply List.ext_getElem?
 intro s
 by_cases h1 : s < t
 ·rw [List.append_assoc, List.getElem?_append_left (by rw [List.length_take, w9]; omega), List.getElem?_take_of_lt h1, zfp (by omega), zfp (by omega), hg s (by omega)]
 ·by_cases h2 : s = t
  ·subst h2
   rw [List.append_assoc, List.getElem?_append_right (by rw [List.length_take, w9]; omega), List.length_take, w9, show s - min s n = 0 by omega, zfp h]
   rfl
  ·rw [List.getElem?_append_right (by rw [List.length_append, List.length_take, w9]; simp; omega), List.length_append, List.length_take, w9, List.getElem?_drop]
   by_cases h3 : s < n
   ·have e : t + [int (g t)].length + (s - (min t n + [int (g t)].length)) = s := by simp; omega
    rw [e, zfp h3, zfp h3, hg s h2]
   ·rw [List.getElem?_eq_none (by rw [w9]; simp; omega), List.getElem?_eq_none (by rw [w9]; omega)]
theorem zz4 {n : Nat} {f : Nat → Int} {t : Nat} (h : t < n) (v : Int) : zn (il n f) t [int v] = il n (setI f t v) := by
 have := zqz h (setI f t v) (fun s hs => zbq f v hs)
 rw [vl] at this
 exact this
def ilL (n : Nat) (f : Nat → Int) : List Int := (List.range n).map f
theorem zgv (n : Nat) (f : Nat → Int) : (ilL n f).length = n := by simp [ilL]
theorem ydo {n : Nat} {f : Nat → Int} {t : Nat} (h : t < n) : (ilL n f)[t]'(by rw [zgv]; exact h) = f t := by simp [ilL]
theorem ydn (n : Nat) (f : Nat → Int) : (rws intC (ilL n f)).flatten = il n f := by
 unfold rws ilL il
 rw [List.map_map]
 generalize List.range n = l
 induction l with
 | nil => rfl
 | cons a l ih => simp only [List.map_cons, List.flatten_cons, ih]; rfl
theorem zy0 {n : Nat} {f g : Nat → Int} (h : ∀ t, t < n → f t = g t) : il n f = il n g := List.map_congr_left fun t ht => by rw [h t (List.mem_range.1 ht)]
theorem zzn {n : Nat} {f g : Nat → Bool} (h : ∀ t, t < n → f t = g t) : bl n f = bl n g := List.map_congr_left fun t ht => by rw [h t (List.mem_range.1 ht)]
/-- What a place reads as: nothing is there, or its number. -/
def gv (g : Gnd) (f : Nat → Int) (x y : Int) : Int := if onG g x y then f (tl g x y) else 0
def va (g : Gnd) (f : Nat → Int) (x y : Int) (v : Int) (ws : List (Int × Int)) : Int := ws.foldl (fun v d => min v (gv g f (x + d.1) (y + d.2) + 1)) v
theorem gv_b {g : Gnd} (hg : gndP g) {f : Nat → Int} (hf : ∀ t, t < g.T.length → 0 ≤ f t ∧ f t ≤ 128) (x y : Int) : 0 ≤ gv g f x y ∧ gv g f x y ≤ 128 := by
 unfold gv
 split
 ·rename_i h; exact hf _ (jb hg h).2.1
 ·omega
theorem zkj {g : Gnd} (hg : gndP g) {f : Nat → Int} (hf : ∀ t, t < g.T.length → 0 ≤ f t ∧ f t ≤ 128) (x y : Int) : ∀ (ws : List (Int × Int)) (v : Int), 0 ≤ v ∧ v ≤ 128 → 0 ≤ va g f x y v ws ∧ va g f x y v ws ≤ 128
 | [], v, hv => hv
 | d :: r, v, hv => by
  have := gv_b hg hf (x + d.1) (y + d.2)
  exact zkj hg hf x y r (min v (gv g f (x + d.1) (y + d.2) + 1)) (by omega)
theorem znh (g : Gnd) (f : Nat → Int) (x y v : Int) (ws : List (Int × Int)) {i : Nat} (hi : i < ws.length) : va g f x y v (ws.take (i + 1)) = min (va g f x y v (ws.take i)) (gv g f (x + ws[i].1) (y + ws[i].2) + 1) := by
 unfold va
 rw [List.take_succ_eq_append_getElem hi, List.foldl_append]
 rfl
theorem yec {n : Nat} {f : Nat → Int} (hf : ∀ t, t < n → 0 ≤ f t ∧ f t ≤ 128) {t : Nat} {v : Int} (hv : 0 ≤ v ∧ v ≤ 128) : ∀ s, s < n → 0 ≤ setI f t v s ∧ setI f t v s ≤ 128 := fun s hs => by
 unfold setI
 split
 ·exact hv
 ·exact hf s hs
/-- Another place is not touched. -/
theorem ydq {g : Gnd} (hg : gndP g) (f : Nat → Int) {t : Nat} (v : Int) {dx dy : Int} (hd : dx ≠ 0 ∨ dy ≠ 0) : gv g (setI f t v) ((t : Int) % g.W + dx) ((t : Int) / g.W + dy) = gv g f ((t : Int) % g.W + dx) ((t : Int) / g.W + dy) := by
 unfold gv
 split
 ·rename_i h
  obtain ⟨_, _, h3, h4⟩ := jb hg h
  refine zbq f v fun e => ?_
  rw [e] at h3 h4
  omega
 ·rfl
def fwdW : List (Int × Int) := [(-1, 0), (-1, -1), (0, -1), (1, -1)]
def bwdW : List (Int × Int) := [(1, 0), (1, 1), (0, 1), (-1, 1)]
def wayC (d : Int × Int) : List AV := [int d.1, int d.2]
def zfe (g : Gnd) (f : Nat → Int) (ws : List (Int × Int)) (t : Nat) : Nat → Int := setI f t (va g f ((t : Int) % g.W) ((t : Int) / g.W) (f t) ws)
def xj (g : Gnd) (f : Nat → Int) : Nat → Nat → Int
 | 0 => f
 | i + 1 => zfe g (xj g f i) fwdW i
def jz (g : Gnd) (f : Nat → Int) (n : Nat) : Nat → Nat → Int
 | 0 => f
 | j + 1 => zfe g (jz g f n j) bwdW (n - 1 - j)
theorem zll {g : Gnd} (hg : gndP g) {f : Nat → Int} (hf : ∀ t, t < g.T.length → 0 ≤ f t ∧ f t ≤ 128) {ws : List (Int × Int)} {t : Nat} (ht : t < g.T.length) : ∀ s, s < g.T.length → 0 ≤ zfe g f ws t s ∧ zfe g f ws t s ≤ 128 :=
 yec hf (zkj hg hf _ _ _ _ (hf t ht))
theorem zgg {g : Gnd} (hg : gndP g) {f : Nat → Int} (hf : ∀ t, t < g.T.length → 0 ≤ f t ∧ f t ≤ 128) : ∀ i, i ≤ g.T.length → ∀ s, s < g.T.length → 0 ≤ xj g f i s ∧ xj g f i s ≤ 128
 | 0, _ => hf
 | i + 1, hi => zll hg (zgg hg hf i (by omega)) (by omega)
theorem zlm {g : Gnd} (hg : gndP g) {f : Nat → Int} (hf : ∀ t, t < g.T.length → 0 ≤ f t ∧ f t ≤ 128) : ∀ i, i ≤ g.T.length → ∀ s, s < g.T.length → 0 ≤ jz g f g.T.length i s ∧ jz g f g.T.length i s ≤ 128
 | 0, _ => hf
 | i + 1, hi => zll hg (zlm hg hf i (by omega)) (by omega)
theorem zfg (g : Gnd) (f : Nat → Int) : ∀ i s, i ≤ s → xj g f i s = f s
 | 0, _, _ => rfl
 | i + 1, s, h => by
  show setI _ i _ s = _
  rw [zbq _ _ (by omega), zfg g f i s (by omega)]
theorem zay (g : Gnd) (f : Nat → Int) : ∀ i s, s < i → xj g f i s = xj g f (s + 1) s
 | 0, _, h => absurd h (Nat.not_lt_zero _)
 | i + 1, s, h => by
  by_cases e : s = i
  ·subst e; rfl
  ·show setI _ i _ s = _
   rw [zbq _ _ e, zay g f i s (by omega)]
theorem zff (g : Gnd) (f : Nat → Int) (n : Nat) : ∀ j s, s + j < n → jz g f n j s = f s
 | 0, _, _ => rfl
 | j + 1, s, h => by
  show setI _ (n - 1 - j) _ s = _
  rw [zbq _ _ (by omega), zff g f n j s (by omega)]
theorem zax (g : Gnd) (f : Nat → Int) (n : Nat) : ∀ j s, s < n → j ≤ n → n ≤ s + j → jz g f n j s = jz g f n (n - 1 - s + 1) s
 | 0, s, h, _, h2 => absurd h2 (by omega)
 | j + 1, s, h, h1, h2 => by
  by_cases e : s = n - 1 - j
  ·have : j + 1 = n - 1 - s + 1 := by omega
   rw [this]
  ·show setI _ (n - 1 - j) _ s = _
   rw [zbq _ _ e, zax g f n j s h (by omega) (by omega)]
theorem ydd (g : Gnd) (f : Nat → Int) (x y v : Int) : va g f x y v fwdW = m5 v (gv g f (x - 1) y) (gv g f (x - 1) (y - 1)) (gv g f x (y - 1)) (gv g f (x + 1) (y - 1)) := by
 unfold va fwdW m5
 simp only [List.foldl_cons, List.foldl_nil, Int.add_zero, ← Int.sub_eq_add_neg]
theorem ydc (g : Gnd) (f : Nat → Int) (x y v : Int) : va g f x y v bwdW = m5 v (gv g f (x + 1) y) (gv g f (x + 1) (y + 1)) (gv g f x (y + 1)) (gv g f (x - 1) (y + 1)) := by
 unfold va bwdW m5
 simp only [List.foldl_cons, List.foldl_nil, Int.add_zero, ← Int.sub_eq_add_neg]
/-- How much room there is. -/
def zdw (g : Gnd) (o : Nat → Bool) : Nat → Int := jz g (xj g (fun t => if o t then 128 else 0) g.T.length) g.T.length g.T.length
theorem yc9 {g : Gnd} (hg : gndP g) (o : Nat → Bool) {t : Nat} (ht : t < g.T.length) (s : Nat) (hs : s ≤ 127) : (s : Int) < zdw g o t ↔ sqP g o s ((t : Int) % g.W) ((t : Int) / g.W) := by
 have hW : 1 ≤ g.W := hg.1.1
 obtain ⟨ho, he⟩ := zgo hg ht
 have key := cham (g := g) (f := o) (A := gv g (xj g (fun t => if o t then 128 else 0) g.T.length)) (B := gv g (zdw g o))
  (fun x y h => if_neg h) (fun x y h => if_neg h) (fun x y h => ?_) (fun x y h => ?_) ho s hs
 ·rw [← key]
  unfold gv
  rw [if_pos ho, he]
 ·obtain ⟨e1, e2, e3, e4⟩ := jb hg h
  have nb : ∀ dx dy : Int, (dy = -1 ∨ dy = 0 ∧ dx = -1) → dx ≤ 1 → gv g (xj g (fun t => if o t then 128 else 0) (tl g x y)) (x + dx) (y + dy) = gv g (xj g (fun t => if o t then 128 else 0) g.T.length) (x + dx) (y + dy) := fun dx dy hd hx => by
   unfold gv
   split
   ·rename_i h2
    obtain ⟨f1, f2, f3, f4⟩ := jb hg h2
    have hlt : tl g (x + dx) (y + dy) < tl g x y := by
     have hb := h.1
     have hb2 := h2.1
     rcases hd with rfl | ⟨rfl, rfl⟩
     ·have : g.W * (y + -1) = g.W * y - g.W := by rw [Int.mul_add]; omega
      rw [this] at f1
      have hne : (tl g (x + dx) (y + -1) : Int) ≠ tl g x y := fun e => by
       rw [e, e4] at f4
       omega
      omega
     ·rw [Int.add_zero] at f1 ⊢
      omega
    rw [zay g _ _ _ hlt, zay g _ _ _ f2]
   ·rfl
  have h1 : gv g (xj g (fun t => if o t then 128 else 0) g.T.length) x y = va g (xj g (fun t => if o t then 128 else 0) (tl g x y)) x y (if o (tl g x y) then 128 else 0) fwdW := by
   unfold gv
   rw [if_pos h, zay g _ _ _ e2]
   show setI _ _ _ _ = _
   rw [vl, e3, e4, zfg g _ _ _ (Nat.le_refl _)]
  rw [h1, ydd]
  have n1 := nb (-1) 0 (by omega) (by decide)
  have n2 := nb (-1) (-1) (by omega) (by decide)
  have n3 := nb 0 (-1) (by omega) (by decide)
  have n4 := nb 1 (-1) (by omega) (by decide)
  rw [Int.add_zero] at n1 n3
  rw [← Int.sub_eq_add_neg] at n1 n2 n3 n4
  rw [← Int.sub_eq_add_neg] at n2
  rw [n1, n2, n3, n4]
 ·obtain ⟨e1, e2, e3, e4⟩ := jb hg h
  have hj : g.T.length - 1 - (g.T.length - 1 - tl g x y) = tl g x y := by omega
  unfold zdw
  generalize hF : xj g (fun t => if o t then 128 else 0) g.T.length = F
  have nb : ∀ dx dy : Int, (dy = 1 ∨ dy = 0 ∧ dx = 1) → -1 ≤ dx → gv g (jz g F g.T.length (g.T.length - 1 - tl g x y)) (x + dx) (y + dy) = gv g (jz g F g.T.length g.T.length) (x + dx) (y + dy) := fun dx dy hd hx => by
   unfold gv
   split
   ·rename_i h2
    obtain ⟨f1, f2, f3, f4⟩ := jb hg h2
    have hlt : tl g x y < tl g (x + dx) (y + dy) := by
     have hb := h.1
     have hb2 := h2.1
     rcases hd with rfl | ⟨rfl, rfl⟩
     ·have : g.W * (y + 1) = g.W * y + g.W := by rw [Int.mul_add]; omega
      rw [this] at f1
      have hne : (tl g (x + dx) (y + 1) : Int) ≠ tl g x y := fun e => by
       rw [e, e4] at f4
       omega
      omega
     ·rw [Int.add_zero] at f1 ⊢
      omega
    rw [zax g _ _ _ _ f2 (by omega) (by omega), zax g _ _ _ _ f2 (Nat.le_refl _) (by omega)]
   ·rfl
  have h1 : gv g (jz g F g.T.length g.T.length) x y = va g (jz g F g.T.length (g.T.length - 1 - tl g x y)) x y (gv g F x y) bwdW := by
   unfold gv
   rw [if_pos h, if_pos h, zax g _ _ _ _ e2 (Nat.le_refl _) (by omega)]
   show setI _ _ _ _ = _
   rw [hj, vl, e3, e4, zff g _ _ _ _ (by omega)]
  rw [h1, ydc]
  have n1 := nb 1 0 (by omega) (by decide)
  have n2 := nb 1 1 (by omega) (by decide)
  have n3 := nb 0 1 (by omega) (by decide)
  have n4 := nb (-1) 1 (by omega) (by decide)
  rw [Int.add_zero] at n1 n3
  rw [← Int.sub_eq_add_neg] at n4
  rw [n1, n2, n3, n4]
def sqB (g : Gnd) (f : Nat → Bool) (s : Nat) (x y : Int) : Bool := (List.range (2 * s + 1)).all fun a => (List.range (2 * s + 1)).all fun b => decide (onG g (x - s + a) (y - s + b)) && f (tl g (x - s + a) (y - s + b))
theorem ycu {g : Gnd} {f : Nat → Bool} {s : Nat} {x y : Int} : sqB g f s x y = true ↔ sqP g f s x y := by
 unfold sqB
 rw [List.all_eq_true]
 constructor
 ·intro h a b h1 h2 h3 h4
  have h5 := h (a + s).toNat (List.mem_range.2 (by omega))
  rw [List.all_eq_true] at h5
  have h6 := h5 (b + s).toNat (List.mem_range.2 (by omega))
  rw [show x - s + ((a + s).toNat : Int) = x + a by omega, show y - s + ((b + s).toNat : Int) = y + b by omega, Bool.and_eq_true_iff] at h6
  exact ⟨of_decide_eq_true h6.1, h6.2⟩
 ·intro h a ha
  have ha := List.mem_range.1 ha
  rw [List.all_eq_true]
  intro b hb
  have hb := List.mem_range.1 hb
  have := h (a - s) (b - s) (by omega) (by omega) (by omega) (by omega)
  rw [show x - s + (a : Int) = x + (a - s) by omega, show y - s + (b : Int) = y + (b - s) by omega, Bool.and_eq_true_iff]
  exact ⟨decide_eq_true this.1, this.2⟩
/-- Is a tile good for a size? -/
def zcw (g : Gnd) (l : List Bld) (c s : Int) (t : Nat) : Bool := sqB g (yc g l c) s.toNat ((t : Int) % g.W) ((t : Int) / g.W)
theorem zq6 {g : Gnd} (hg : gndP g) (l : List Bld) (c : Int) {s : Int} (hs : 0 ≤ s ∧ s ≤ 3) {t : Nat} (ht : t < g.T.length) : decide (s < zdw g (yc g l c) t) = zcw g l c s t := by
 rw [Bool.eq_iff_iff, decide_eq_true_iff]
 unfold zcw
 rw [ycu, ← yc9 hg _ ht _ (by omega)]
 omega
def yen (g : Gnd) (l : List Bld) (c s : Int) : AV := lst 1 kf (blL g.T.length (zcw g l c s))
end Go.V
namespace Go.V
end Go.V
namespace Go.V
/-- The first thing that is not right of several ones. -/
def allE (f : Int → Int) : List Int → Int
 | [] => 0
 | a :: l => if f a = 0 then allE f l else f a
theorem zet {f : Int → Int} : ∀ {l : List Int}, (∀ j, (h : j < l.length) → f l[j] = 0) → allE f l = 0
 | [], _ => rfl
 | a :: l, h => by
  have h0 := h 0 (by simp)
  simp only [List.getElem_cons_zero] at h0
  unfold allE
  rw [if_pos h0]
  exact zet fun j hj => by
   have := h (j + 1) (by simp; omega)
   simpa using this
theorem zes {f : Int → Int} : ∀ {l : List Int} {i : Nat} (hi : i < l.length), (∀ j, (h : j < l.length) → j < i → f l[j] = 0) → f l[i] ≠ 0 → allE f l = f l[i]
 | [], i, hi, _, _ => absurd hi (Nat.not_lt_zero i)
 | a :: l, 0, hi, _, h => by
  simp only [List.getElem_cons_zero] at h ⊢
  unfold allE
  rw [if_neg h]
 | a :: l, i + 1, hi, h, h2 => by
  have h0 := h 0 (by simp) (by omega)
  simp only [List.getElem_cons_zero] at h0
  simp only [List.getElem_cons_succ] at h2 ⊢
  unfold allE
  rw [if_pos h0]
  exact zes (by simpa using hi) (fun j hj hji => by
   have := h (j + 1) (by simp; omega) (by omega)
   simpa using this) h2
theorem jv {f : Int → Int} : ∀ {l : List Int}, allE f l = 0 → ∀ a ∈ l, f a = 0
 | [], _, a, ha => by cases ha
 | b :: l, h, a, ha => by
  unfold allE at h
  by_cases hb : f b = 0
  ·rw [if_pos hb] at h
   rcases List.mem_cons.1 ha with rfl | ha
   ·exact hb
   ·exact jv h a ha
  ·rw [if_neg hb] at h
   exact absurd h hb
def yz (l : List Unt) (id : Int) : Option Nat := l.findIdx? fun u => decide (u.id = id)
def unt0 : Unt := ⟨0, 0, 0, (0, 0), 0, 0, 0, 0, 0⟩
theorem xc {l : List Unt} {id : Int} {i : Nat} (h : yz l id = some i) : ∃ hi : i < l.length, l[i].id = id := by
 unfold yz at h
 rw [List.findIdx?_eq_some_iff_getElem] at h
 obtain ⟨h1, h2, _⟩ := h
 exact ⟨h1, of_decide_eq_true h2⟩
theorem zfu {l : List Unt} {id : Int} (h : yz l id = none) : ∀ u ∈ l, u.id ≠ id := by
 unfold yz at h
 rw [List.findIdx?_eq_none_iff] at h
 exact fun u hu => of_decide_eq_false (h u hu)
theorem zbe {l : List Unt} (hr : zx l) {id : Int} {i : Nat} (hi : i < l.length) (e : l[i].id = id) : yz l id = some i := by
 cases h : yz l id with
 | none => exact absurd e (zfu h _ (List.getElem_mem hi))
 | some k =>
  obtain ⟨hk, e2⟩ := xc h
  by_cases h1 : k < i
  ·have := jh hr h1 hi; omega
  ·by_cases h2 : i < k
   ·have := jh hr h2 hk; omega
   ·rw [show k = i by omega]
/-- The unit of an ID. -/
def uAt (w : Wld) (id : Int) : Unt := match yz w.U id with | none => unt0 | some i => w.U.getD i unt0
/-- What a player is told who asks for a unit. -/
def askE (w : Wld) (P id : Int) : Int := match yz w.U id with | none => 3 | some i => if (w.U.getD i unt0).owner = P then (if (w.U.getD i unt0).inn = 0 then 0 else 9) else 6
theorem zcy {w : Wld} {id : Int} {i : Nat} (h : yz w.U id = some i) : ∃ hi : i < w.U.length, w.U[i].id = id ∧ uAt w id = w.U[i] := by
 obtain ⟨hi, e⟩ := xc h
 refine ⟨hi, e, ?_⟩
 unfold uAt
 rw [h]
 simp [List.getD_eq_getElem?_getD, hi]
theorem zeq {w : Wld} {P id : Int} (h : yz w.U id = none) : askE w P id = 3 ∧ uAt w id = unt0 := by
 unfold askE uAt
 rw [h]
 exact ⟨rfl, rfl⟩
theorem zjq {w : Wld} {P id : Int} {i : Nat} (h : yz w.U id = some i) (hi : i < w.U.length) : askE w P id = if w.U[i].owner = P then (if w.U[i].inn = 0 then 0 else 9) else 6 := by
 unfold askE
 rw [h]
 simp [List.getD_eq_getElem?_getD, hi]
theorem x4 {w : Wld} {P id : Int} (h : askE w P id = 0) : ∃ i, ∃ hi : i < w.U.length, yz w.U id = some i ∧ w.U[i].id = id ∧ uAt w id = w.U[i] ∧ w.U[i].owner = P ∧ w.U[i].inn = 0 := by
 cases hf : yz w.U id with
 | none => rw [(zeq (P := P) hf).1] at h; cases h
 | some i =>
  obtain ⟨hi, e, e2⟩ := zcy hf
  rw [zjq hf hi] at h
  refine ⟨i, hi, rfl, e, e2, ?_⟩
  split at h
  ·split at h
   ·exact ⟨‹_›, ‹_›⟩
   ·cases h
  ·cases h
theorem zzw {w : Wld} (hn : ∀ u ∈ w.U, u.pos.ok) (id : Int) : (uAt w id).pos.ok := by
 cases hf : yz w.U id with
 | none => rw [(zeq (P := 0) hf).2]; unfold unt0 Vc.ok ye; decide
 | some i =>
  obtain ⟨hi, e, e2⟩ := zcy hf
  rw [e2]
  exact hn _ (List.getElem_mem hi)
def rstU (u : Unt) : Unt := { u with goal := -1, next := -1, stuck := 0, state := 0 }
/-- Some units are changed. -/
def setU (l : List Int) (g : Unt → Unt) (U : List Unt) : List Unt := U.map fun u => if u.id ∈ l then g u else u
theorem zc0 (g : Unt → Unt) (U : List Unt) : setU [] g U = U := by
 unfold setU
 simp
theorem yj (l : List Int) (g : Unt → Unt) (U : List Unt) : (setU l g U).length = U.length := by unfold setU; rw [List.length_map]
theorem zc1 {l : List Int} {g : Unt → Unt} {U : List Unt} {i : Nat} (hi : i < U.length) : (setU l g U)[i]'(by rw [yj]; exact hi) = if U[i].id ∈ l then g U[i] else U[i] := by unfold setU; rw [List.getElem_map]
theorem zgi {l : List Int} {g : Unt → Unt} (hg : ∀ u, (g u).id = u.id) {U : List Unt} {i : Nat} (hi : i < U.length) : ((setU l g U)[i]'(by rw [yj]; exact hi)).id = U[i].id := by
 rw [zc1 hi]
 split
 ·exact hg _
 ·rfl
theorem zbo {l : List Int} {g : Unt → Unt} (hg : ∀ u, (g u).id = u.id) {U : List Unt} (hr : zx U) : zx (setU l g U) := by
 intro i hi h0
 have hi2 : i < U.length := by rw [yj] at hi; exact hi
 rw [zgi hg hi2, zgi hg (show i - 1 < U.length by omega)]
 exact hr i hi2 h0
theorem zlp {l : List Int} {g : Unt → Unt} {U : List Unt} (hr : zx U) {i : Nat} (hi : i < U.length) : (setU l g U).set i (g U[i]) = setU (l ++ [U[i].id]) g U := by
 apply List.ext_getElem
 ·rw [List.length_set, yj, yj]
 intro j h1 h2
 have hj : j < U.length := by rw [yj] at h2; exact h2
 rw [zc1 hj, List.getElem_set]
 by_cases e : i = j
 ·subst e
  rw [if_pos rfl, if_pos (by simp)]
 ·rw [if_neg e, zc1 hj]
  have hne : U[j].id ≠ U[i].id := by
   by_cases h : i < j
   ·have := jh hr h hj; omega
   ·have := jh hr (show j < i by omega) hi; omega
  have : (U[j].id ∈ l ++ [U[i].id]) ↔ U[j].id ∈ l := by simp [hne]
  simp only [this]
/-- Units that are stopped. -/
def stW (w : Wld) (c : Cmd) : Wld := { w with U := setU c.U rstU w.U }
def stE (w : Wld) (c : Cmd) : Int := allE (askE w c.P) c.U
theorem zyh {α : Type} {f : α → List AV} {k : Nat} (hf : ∀ x, (f x).length = k) {U : List α} {i : Nat} (hi : i < U.length) (x : α) (J : List AV) : zn ((rws f U).flatten ++ J) (i * k) (f x) = (rws f (U.set i x)).flatten ++ J := by
 have := zj8 (j := 0) (ys := f x) (L := J) (x' := x) hf hi (by rw [hf]; omega) (by
  unfold zn
  rw [hf x, List.take_zero, List.nil_append, Nat.zero_add, List.drop_of_length_le (by rw [hf]; exact Nat.le_refl _), List.append_nil])
 rw [Nat.add_zero] at this
 exact this
end Go.V
namespace Go.V
section
variable {P : Program} {c : Cfg} {st : Store}
/-- What an append's source reads as. -/
structure SrcOK (P : Program) (st : Store) (k m : Nat) (x : AV) (xs : List AV) : Prop where
  out : ∀ (Oth M : Nat → Nat → Prop) (w : World) (xv : Value), StoreOK st Oth M w → VRel w (fun b o => M b o ∨ Oth b o) x xv →
    (Builtin.lenOf xv).run P w = .ok m w ∧ ∃ new : Array Value, Reads w (fun b o => M b o ∨ Oth b o) xs new.toList ∧ (∀ v ∈ new.toList, yd v = true) ∧ new.size = m * k ∧ ∀ w', w'.heap = w.heap → (Builtin.firstCells k m xv).run P w' = .ok new w'
/-- A slice over an object, anywhere in it. -/
theorem SrcOK.obj {k m o b cp : Nat} {l : List AV} (ho : st.obj b = some (.cells l)) (hl : o + m * k ≤ l.length) (h1 : ∀ y ∈ (l.drop o).take (m * k), y.one = true) : SrcOK P st k m (.s (.slice (some ⟨b, o, none⟩) m cp)) ((l.drop o).take (m * k)) := by
  refine ⟨fun Oth M w xv sto hxv => ?_⟩
  have hxv := VRel.eq_s hxv
  subst hxv
  obtain ⟨cs, e, fr, hb, _, hlen, hrel⟩ := (sto.obj b _ ho).1
  have hreads : Reads w (fun b o => M b o ∨ Oth b o) ((l.drop o).take (m * k)) ((List.range' 0 (m * k)).map fun i => cs.getD (o + i) undef) := by
    refine ⟨by simp; omega, fun i x y hx hy => ?_⟩
    have hi : i < m * k := by
      have := (List.getElem?_eq_some_iff.1 hx).1
      simp at this; omega
    rw [List.getElem?_take_of_lt hi, List.getElem?_drop] at hx
    simp [hi] at hy
    subst hy
    refine hrel (o + i) x _ hx ?_
    rw [Array.getElem?_eq_getElem (by omega)]
    simp [show o + i < cs.size by omega]
  refine ⟨by simp [Builtin.lenOf], ((List.range' 0 (m * k)).map fun i => cs.getD (o + i) undef).toArray, by simpa using hreads, by simpa using znk hreads h1, by simp, fun w' hw => ?_⟩
  have := y4 (P := P) ⟨b, o, none⟩ w' (fun i => cs.getD (o + i) undef) (m * k) 0 #[] (fun p hp0 hp => by
    rw [xl, zd9 hw]
    simp only [World.cell?, hb]
    have : o + p < cs.size := by omega
    simp [this])
  simp only [Builtin.firstCells, loadCells]
  simpa using this
/-- An append to a slice over an object, of what a source reads as. -/
theorem zjr {e : TypeId} {ie : TI} (hie : c.I e = some ie) {b n cap : Nat} {l : List AV} {x : AV} {m : Nat} {xs : List AV} (ho : st.obj b = some (.cells l)) (hcap : cap * ie.size ≤ l.length) (hn : n ≤ cap)
    (hx : SrcOK P st ie.size m x xs) (hroom : room (n + m) ie.bytes) {K : AV → Store → Prop}
    (h1 : n + m ≤ cap → K (.s (.slice (some ⟨b, 0, none⟩) (n + m) cap)) (st.setObj b (.cells (zn l (n * ie.size) xs))))
    (h2 : cap < n + m → ∀ b' cap', Fresh st b' → n + m ≤ cap' → cap' ≤ 9223372036854775807 → K (.s (.slice (some ⟨b', 0, none⟩) (n + m) cap')) (st.setObj b' (.cells (l.take (n * ie.size) ++ xs ++ List.replicate ((cap' - (n + m)) * ie.size) .any)))) :
    AppX P c st e (.s (.slice (some ⟨b, 0, none⟩) n cap)) x K := by
  refine ⟨⟨ie, hie⟩, fun ie' hie' Oth M w sv xv argTypes ty args t sto hs hxv hat ht1 hu hti h0 h1' => ?_⟩
  rw [hie] at hie'
  cases hie'
  have hs := VRel.eq_s hs
  subst hs
  have A : AppArgs P c argTypes args t e ie (some ⟨b, 0, none⟩) n cap xv := ⟨hat, ht1, hu, hti, h0, h1'⟩
  obtain ⟨hl1, new, hnew, hone, hnsz, hfc⟩ := hx.out Oth M w xv sto hxv
  have hnn : n * ie.size ≤ l.length := Nat.le_trans (Nat.mul_le_mul_right _ hn) hcap
  by_cases hc : n + m ≤ cap
  · obtain ⟨⟨cs, e0, fr, hb0, huf, hlen, hrel⟩, hM⟩ := sto.obj b _ ho
    have hfit : n * ie.size + new.toList.length ≤ cs.size := by
      rw [Array.length_toList, hnsz, ← Nat.add_mul, ← hlen]
      exact Nat.le_trans (Nat.mul_le_mul_right _ hc) hcap
    obtain ⟨w', hw1, hw2⟩ := y8 (P := P) w b (n * ie.size) new.toList 0 w cs e0 fr hb0 (.inl huf) hfit hone
    have hrun := ju (w' := w') ty A hl1 (hfc w rfl) hc (fun a ha => by
      cases ha
      rw [xl, Nat.zero_add]; exact hw1) (fun h => by cases h)
    obtain ⟨k1, k2⟩ := xt sto ho hnew hw2
    exact ⟨_, _, hrun, _, _, M, h1 hc, .s _, k1, k2⟩
  · have hc : cap < n + m := by omega
    obtain ⟨old, hold1, hold2, hold3⟩ := zab (P := P) (cap := cap) (sto.obj b _ ho).1 hnn
    obtain ⟨newCap, rest, g1, g0, g2, g3⟩ := xr ty A hl1 (hfc w.drew rfl) (hold3 w.drew rfl) hc hroom
    have gd : Grow w w.drew := Grow.drew w
    have sto1 := sto.grow gd
    obtain ⟨f1, f2, f3⟩ := qf sto1 (old ++ new ++ rest) e (l := l.take (n * ie.size) ++ xs ++ List.replicate rest.size .any) (by
      rw [Array.toList_append, Array.toList_append]
      refine ((hold1.append hnew).append ⟨by simp, fun i x y hx hy => ?_⟩).keep (gd.keeps _)
      rw [List.getElem?_replicate] at hx
      split at hx
      · cases hx; exact .any _
      · cases hx)
    have e1 : w.drew.heap.size = w.heap.size := rfl
    rw [g2] at f2
    exact ⟨_, _, g3, _, _, _, h2 hc _ newCap f1 g1 g0, .s _, f2, (gd.chg M).trans f3⟩
end
section
variable {P : Program} {c : Cfg} {st : Store}
/-- 'clear' of one element. -/
theorem zeu {o : Oper} {cl : Call} {t e : TypeId} {x : Operand} (ho : o.op = .call cl) (hcl : cl.callee = .builtin .clear) (hargs : cl.args = #[x]) (hat : cl.argTypes[0]? = some t)
    {it ie : TI} (hit : c.I t = some it) (hty : it.ty = .slice e) (hie : c.I e = some ie) {b off m cap : Nat} {l : List AV} (hm : m = 1) (hb : st.obj b = some (.cells l)) (hn : off + ie.size ≤ l.length) (hone : ∀ v ∈ ie.zero, yd v = true)
    {R : AV → Store → Prop} (h : R (.tup []) (st.setObj b (.cells (zn l off (ie.zero.map AV.s))))) : AEff P c o [.s (.slice (some ⟨b, off, none⟩) m cap)] st R := by
  subst hm
  refine ⟨fun Oth M w ρ hI sto hr => ?_⟩
  have hops : o.op.operands = #[x] := by rw [ho]; simp [Op.operands, Call.operands, hcl, hargs]
  rw [hops] at hr
  have hr : Reads w (fun b o => M b o ∨ Oth b o) [.s (.slice (some ⟨b, off, none⟩) 1 cap)] [ρ x] := by simpa using hr
  obtain ⟨u, he, h1⟩ := zh8 hr
  simp only [List.cons.injEq, and_true] at he
  rw [← he] at h1
  have h1 := VRel.eq_s h1
  have ht := z6 (hI _ _ hit) hty
  have hie := hI _ _ hie
  obtain ⟨⟨cs, e0, fr, hb0, huf, hlen, hrel⟩, hM⟩ := sto.obj b _ hb
  obtain ⟨z, hz1, hz2⟩ := wg (P := P) hie w
  have hzs : z.cells.size = ie.size := by rw [← hie.zsz, ← hz2]; simp
  have hzc : (Builtin.zeroCells z.cells 1).toList = ie.zero := by
    rw [← hz2]
    unfold Builtin.zeroCells
    apply List.ext_getElem
    · simp
    · intro i h1 h2
      simp at h1 h2 ⊢
      rw [Nat.mod_eq_of_lt h1, getElem!_pos z.cells i h1]
  obtain ⟨w', hw1, hw2⟩ := y8 (P := P) w b off ie.zero 0 w cs e0 fr hb0 (.inl huf) (by rw [hie.zsz, ← hlen]; omega) hone
  have hund := zl (P := P) ht
  have hrun : (execOp ρ o).run P w = .ok (.value (.tuple #[])) w' := by
    simp [execOp, ho, resolve, hcl, invoke, builtin, hargs, Builtin.clear_, hat, hund, h1, hz1, hzc, hw1]
  rw [hrun]
  obtain ⟨k1, k2⟩ := xt sto hb (Reads.map_s (w := w) (T := fun b o => M b o ∨ Oth b o) ie.zero) (by rw [Nat.add_zero] at hw2; exact hw2)
  exact ⟨_, _, M, h, ya Reads.nil, k1, k2⟩
/-- A slice with three bounds. -/
theorem zlh {o : Oper} {t e : TypeId} {x lo hi mx : Operand} (ho : o.op = .slice t x (some lo) (some hi) (some mx)) {it ie : TI} (hit : c.I t = some it) (hty : it.ty = .slice e) (hie : c.I e = some ie)
    {b off len cap i j m : Nat} {k k' k'' : IntKind} (h1 : i ≤ j) (h2 : j ≤ m) (h3 : m ≤ cap) (h4 : i < m) {R : AV → Store → Prop} (h : R (.s (.slice (some ⟨b, off + i * ie.size, none⟩) (j - i) (m - i))) st) :
    AEff P c o [.s (.slice (some ⟨b, off, none⟩) len cap), .s (.int k (i : Int)), .s (.int k' (j : Int)), .s (.int k'' (m : Int))] st R := by
  refine ⟨fun Oth M w ρ hI sto hr => ?_⟩
  have hops : o.op.operands = #[x, lo, hi, mx] := by rw [ho]; simp [Op.operands]
  rw [hops] at hr
  have hr : Reads w (fun b o => M b o ∨ Oth b o) [.s (.slice (some ⟨b, off, none⟩) len cap), .s (.int k (i : Int)), .s (.int k' (j : Int)), .s (.int k'' (m : Int))] [ρ x, ρ lo, ρ hi, ρ mx] := by simpa using hr
  have e1 := VRel.eq_s (hr.2 0 _ (ρ x) rfl rfl)
  have e2 := VRel.eq_s (hr.2 1 _ (ρ lo) rfl rfl)
  have e3 := VRel.eq_s (hr.2 2 _ (ρ hi) rfl rfl)
  have e4 := VRel.eq_s (hr.2 3 _ (ρ mx) rfl rfl)
  have ht := z6 (hI _ _ hit) hty
  have hie := hI _ _ hie
  have hm : ¬ m = i := by omega
  have hund := zl (P := P) ht
  have hrun : (execOp ρ o).run P w = .ok (.value (.slice (some ⟨b, off + i * ie.size, none⟩) (j - i) (m - i))) w := by
    simp [execOp, ho, e1, e2, e3, e4, Instr.sliceAt, Instr.slice, hund, Instr.sliceBounds, Instr.sliceBound, asIntOf, h1, h2, h3, zt hie, hm, xl]
  rw [hrun]
  exact ⟨_, st, M, h, .s _, sto, Chg.refl _ _⟩
end
end Go.V
namespace Go.V
section
variable {α : Type} {f : α → List AV} {k : Nat}
end
theorem ydp {g : Gnd} (hg : gndP g) {t : Nat} (ht : (t : Int) < g.W * g.H) {p : Vc} (hp : yi p.1 p.2) {r : Int} (hr : 0 < r ∧ r ≤ 81920) (h : hitP g t p r) : near (tx g t + 32768, ty g t + 32768) p 147456 = true := by
 have hb := txty hg ht
 obtain ⟨h3, h4⟩ := hp
 rw [wn (by dsimp only; omega) (by dsimp only; omega) (by omega) (by omega) (by decide)]
 dsimp only
 unfold hitP at h
 have o1 : 0 ≤ off p.1 (tx g t) := by unfold off; split <;> (try split) <;> omega
 have o2 : 0 ≤ off p.2 (ty g t) := by unfold off; split <;> (try split) <;> omega
 have d1 : -(32768 + off p.1 (tx g t)) ≤ tx g t + 32768 - p.1 ∧ tx g t + 32768 - p.1 ≤ 32768 + off p.1 (tx g t) := by unfold off; split <;> (try split) <;> omega
 have d2 : -(32768 + off p.2 (ty g t)) ≤ ty g t + 32768 - p.2 ∧ ty g t + 32768 - p.2 ≤ 32768 + off p.2 (ty g t) := by unfold off; split <;> (try split) <;> omega
 generalize off p.1 (tx g t) = ex at *
 generalize off p.2 (ty g t) = ey at *
 generalize tx g t + 32768 - p.1 = dx at *
 generalize ty g t + 32768 - p.2 = dy at *
 have hrr : r * r ≤ 81920 * 81920 := Int.mul_le_mul hr.2 hr.2 (by omega) (by decide)
 have ex2 := Int.mul_nonneg o1 o1
 have ey2 := Int.mul_nonneg o2 o2
 have bx : ex < 81920 := zmq o1 (by decide) (by omega)
 have by' : ey < 81920 := zmq o2 (by decide) (by omega)
 have sq : ∀ d m : Int, 0 ≤ m → -m ≤ d → d ≤ m → d * d ≤ m * m := fun d m hm h1 h2 => by
  by_cases hd : 0 ≤ d
  ·exact Int.mul_le_mul h2 h2 hd hm
  ·have : (-d) * (-d) ≤ m * m := Int.mul_le_mul (by omega) (by omega) (by omega) hm
   rwa [Int.neg_mul_neg] at this
 have s1 := sq dx (32768 + ex) (by omega) d1.1 d1.2
 have s2 := sq dy (32768 + ey) (by omega) d2.1 d2.2
 have e1 : (32768 + ex) * (32768 + ex) = 1073741824 + 65536 * ex + ex * ex := by
  rw [Int.add_mul, Int.mul_add, Int.mul_add, Int.mul_comm ex 32768]; omega
 have e2 : (32768 + ey) * (32768 + ey) = 1073741824 + 65536 * ey + ey * ey := by
  rw [Int.add_mul, Int.mul_add, Int.mul_add, Int.mul_comm ey 32768]; omega
 rw [e1] at s1
 rw [e2] at s2
 refine decide_eq_true ?_
 omega
instance (a b : Bld) : Decidable (j5 a b) := inferInstanceAs (Decidable (_ ∧ _))
/-- The building that is to come. -/
def bdB (w : Wld) (c : Cmd) : Bld := ⟨w.next, c.P, c.T.tmod w.G.W, c.T.tdiv w.G.W, c.W, c.H⟩
open Classical in
noncomputable def putE (g : Gnd) (l : List Bld) (b : Bld) : Int := if ¬ onP g b then 3 else if ∃ x ∈ l, j5 x b then 12 else if ¬ ze5 g b then 5 else if 256 ≤ l.length then 4 else 0
def zd4 (w : Wld) (b : Bld) : Prop := ∃ t : Nat, ((t : Int) < w.G.W * w.G.H ∧ hasP w.G b t) ∧ ∃ u ∈ w.U, u.inn = 0 ∧ hitP w.G t u.pos (kRad u.kind)
open Classical in
noncomputable def bdE (w : Wld) (c : Cmd) : Int := if ¬ (0 ≤ c.T ∧ c.T < w.G.W * w.G.H) then 3 else if 1099511627776 ≤ w.next then 4 else if putE w.G w.B (bdB w c) = 0 then (if zd4 w (bdB w c) then 5 else 0) else putE w.G w.B (bdB w c)
def bdW (w : Wld) (c : Cmd) : Wld := { w with B := w.B ++ [bdB w c], next := w.next + 1 }
def bld0 : Bld := ⟨0, 0, 0, 0, 0, 0⟩
def zcx (l : List Bld) (id : Int) : Option Nat := l.findIdx? fun b => decide (b.id = id)
/-- A building less. -/
def drE (w : Wld) (c : Cmd) : Int := match zcx w.B c.N with | none => 3 | some i => if (w.B.getD i bld0).owner = c.P then 0 else 6
def drW (w : Wld) (c : Cmd) : Wld := match zcx w.B c.N with | none => w | some i => { w with B := w.B.eraseIdx i }
end Go.V
namespace Go.V
/-- What an element less makes of rows. -/
theorem zcl {α : Type} {f : α → List AV} {k : Nat} (hf : ∀ x, (f x).length = k) {l : List α} {i : Nat} (hi : i < l.length) (L : List AV) :
  zn ((rws f l).flatten ++ L) (i * k) (rws f (l.drop (i + 1))).flatten = (rws f (l.eraseIdx i)).flatten ++ (f l[l.length - 1] ++ L) := by
 have e1 : (rws f l).flatten ++ L = (rws f (l.take i)).flatten ++ ((rws f (l.drop i)).flatten ++ L) := by
  rw [← List.append_assoc, ← q9, List.take_append_drop]
 have h1 : (rws f (l.take i)).flatten.length = i * k := by rw [zu hf, List.length_take, Nat.min_eq_left (by omega)]
 rw [e1, qr h1, List.eraseIdx_eq_take_drop_succ, q9]
 simp only [List.append_assoc]
 congr 1
 congr 1
 have h2 : (rws f (l.drop (i + 1))).flatten.length = (l.length - (i + 1)) * k := by rw [zu hf, List.length_drop]
 have e2 : l.drop i = (l.drop i).dropLast ++ [l[l.length - 1]] := by
  have hne : l.drop i ≠ [] := by
   intro h
   have := congrArg List.length h
   rw [List.length_drop] at this
   simp at this; omega
  have h := (List.dropLast_concat_getLast hne).symm
  have e : (l.drop i).getLast hne = l[l.length - 1] := by
   have e4 : i + ((l.drop i).length - 1) = l.length - 1 := by rw [List.length_drop]; omega
   rw [List.getLast_eq_getElem, List.getElem_drop]
   simp only [e4]
  rw [e] at h
  exact h
 have e3 : (rws f (l.drop i)).flatten = (rws f (l.drop i).dropLast).flatten ++ f l[l.length - 1] := by
  conv => lhs; rw [e2]
  rw [q9]
  show _ ++ (f _ ++ []) = _
  rw [List.append_nil]
 have h3 : (rws f (l.drop i).dropLast).flatten.length = (l.length - (i + 1)) * k := by
  rw [zu hf, List.length_dropLast, List.length_drop]
  congr 1
 rw [e3, h2, ← h3, List.append_assoc, List.drop_left]
theorem zi6 {α : Type} {l : List α} {i : Nat} (hi : i < l.length) : (l.eraseIdx i).length = l.length - 1 := by rw [List.length_eraseIdx, if_pos hi]
theorem zfx {α : Type} {f : α → List AV} {k : Nat} (hf : ∀ x, (f x).length = k) {l : List α} {i : Nat} (hi : i ≤ l.length) (L : List AV) : (((rws f l).flatten ++ L).drop (i * k)).take ((l.length - i) * k) = (rws f (l.drop i)).flatten := by
 have e1 : (rws f l).flatten ++ L = (rws f (l.take i)).flatten ++ ((rws f (l.drop i)).flatten ++ L) := by
  rw [← List.append_assoc, ← q9, List.take_append_drop]
 have h1 : (rws f (l.take i)).flatten.length = i * k := by rw [zu hf, List.length_take, Nat.min_eq_left (by omega)]
 have h2 : (rws f (l.drop i)).flatten.length = (l.length - i) * k := by rw [zu hf, List.length_drop]
 rw [e1, ← h1, List.drop_left, ← h2, List.take_left]
end Go.V
namespace Go.V
/-- A whole root, cut at the greatest number. -/
def zil (m r : Int) : Prop := 0 ≤ r ∧ r ≤ 9223372036854775807 ∧ r * r ≤ m ∧ (r = 9223372036854775807 ∨ m < (r + 1) * (r + 1))
theorem zqu {m r : Int} (h : zil m r) {k : Int} (hk : 0 ≤ k) (hk2 : k < 9223372036854775807) : k < r ↔ (k + 1) * (k + 1) ≤ m := by
 obtain ⟨h0, h1, h2, h3⟩ := h
 constructor
 ·intro hkr
  exact Int.le_trans (Int.mul_le_mul (show k + 1 ≤ r by omega) (show k + 1 ≤ r by omega) (by omega) h0) h2
 ·intro hm
  refine Int.not_le.1 fun hle => ?_
  rcases h3 with h3 | h3
  ·omega
  ·have := Int.mul_le_mul (show r + 1 ≤ k + 1 by omega) (show r + 1 ≤ k + 1 by omega) (by omega) (by omega)
   omega
/-- Farther than 2? -/
def farP (p q : Vc) : Prop := 17180131329 ≤ sqr (vsub p q)
instance (p q : Vc) : Decidable (farP p q) := inferInstanceAs (Decidable (_ ≤ _))
theorem zyi {p q : Vc} {r : Int} (h : zil (sqr (vsub p q)) r) : 131072 < r ↔ farP p q := by
 have := zqu h (k := 131072) (by decide) (by decide)
 unfold farP
 exact this
/-- Loading. -/
def carE (w : Wld) (P N : Int) : Int := if askE w P N = 0 then (if xp (uAt w N).kind = 0 then 7 else 0) else askE w P N
def znm (x u : Unt) : Int := if 0 < xp u.kind then 7 else if farP u.pos x.pos then 8 else 0
def ldA (w : Wld) (P N id : Int) : Int := if askE w P id = 0 then znm (uAt w N) (uAt w id) else askE w P id
def ldE (w : Wld) (c : Cmd) : Int := if carE w c.P c.N = 0 then (if allE (ldA w c.P c.N) c.U = 0 then (if xp (uAt w c.N).kind < ((inOf w.U c.N).length : Int) + (c.U.length : Int) then 4 else 0) else allE (ldA w c.P c.N) c.U) else carE w c.P c.N
def ldU (n : Int) (u : Unt) : Unt := { u with pos := (0, 0), goal := -1, next := -1, stuck := 0, inn := n, state := 0 }
def ldW (w : Wld) (c : Cmd) : Wld := { w with U := setU c.U (ldU c.N) w.U }
theorem zl5 {w : Wld} {P N id : Int} (h : ldA w P N id = 0) : askE w P id = 0 ∧ znm (uAt w N) (uAt w id) = 0 := by
 unfold ldA at h
 by_cases e : askE w P id = 0
 ·rw [if_pos e] at h; exact ⟨e, h⟩
 ·rw [if_neg e] at h; exact absurd h e
theorem zem {w : Wld} {P N : Int} (h : carE w P N = 0) : askE w P N = 0 ∧ xp (uAt w N).kind ≠ 0 := by
 unfold carE at h
 by_cases e : askE w P N = 0
 ·rw [if_pos e] at h
  refine ⟨e, fun e2 => ?_⟩
  rw [if_pos e2] at h
  cases h
 ·rw [if_neg e] at h; exact absurd h e
theorem zqx {w : Wld} (hm : mayP w) {i : Nat} (hi : i < w.U.length) (h0 : w.U[i].id ≠ 0) : ((inOf w.U w.U[i].id).length : Int) ≤ xp w.U[i].kind := by
 have hr : zx w.U := hm.1.2.1
 cases hl : inOf w.U w.U[i].id with
 | nil => have := (zbu w.U[i].kind).1; simpa using this
 | cons a l =>
  have ha : a ∈ inOf w.U w.U[i].id := by rw [hl]; simp
  unfold inOf at ha
  obtain ⟨u, hu, _⟩ := List.mem_map.1 ha
  obtain ⟨hu, he⟩ := List.mem_filter.1 hu
  have he : u.inn = w.U[i].id := by simpa using he
  obtain ⟨x, hx, e1, _, e3, _⟩ := hm.2.2 u hu (by rw [he]; exact h0)
  obtain ⟨k, hk, rfl⟩ := List.getElem_of_mem hx
  have hki : k = i := by
   by_cases h1 : k < i
   ·have := jh hr h1 hi; omega
   ·by_cases h2 : i < k
    ·have := jh hr h2 hk; omega
    ·omega
  subst hki
  rw [he, hl] at e3
  exact e3
/-- One bit below a number's bits. -/
theorem yde {n : Int} {q m : Nat} (h0 : 0 ≤ n) (h1 : n < 2 ^ m) (h2 : n + q * 2 ^ m < 18446744073709551616) : x3 .or .u64 (q * 2 ^ m) n = q * 2 ^ m + n := by
 obtain ⟨a, rfl⟩ := Int.eq_ofNat_of_zero_le h0
 have e : ((q : Int) * 2 ^ m) = ((q * 2 ^ m : Nat) : Int) := by simp
 have h1' : a < 2 ^ m := by exact_mod_cast h1
 rw [e] at h2 ⊢
 have h3 : a + q * 2 ^ m < 18446744073709551616 := by omega
 rw [(zeo (q * 2 ^ m) a (by omega) (by omega)).2, Nat.or_comm, zz1 a q m h1', x9 (by omega) (by omega)]
 simp
 omega
theorem shl1 {k : Nat} (hk : k ≤ 62) : IntKind.u64.wrap (1 * 2 ^ (min ((k : Int)).toNat IntKind.u64.bits)) = 2 ^ k := by
 have : (min ((k : Int)).toNat IntKind.u64.bits) = k := by
  show min ((k : Int)).toNat 64 = k
  omega
 rw [this, Int.one_mul]
 have h : (2 : Int) ^ k ≤ 2 ^ 62 := by exact_mod_cast Nat.pow_le_pow_right (by decide) hk
 have h0 : (0 : Int) < 2 ^ k := Int.pow_pos (by decide)
 have h2 : (2 : Int) ^ 62 = 4611686018427387904 := by decide
 exact x9 (by omega) (by omega)
/-- The road to a root: bits from k on are reckoned. -/
def zcb (m r : Int) (k : Nat) : Prop := ∃ q : Nat, r = q * 2 ^ k ∧ r + 2 ^ k ≤ 9223372036854775808 ∧ r * r ≤ m ∧ (m < (r + 2 ^ k) * (r + 2 ^ k) ∨ r + 2 ^ k = 9223372036854775808)
theorem zh2 {m : Int} (hm : 0 ≤ m) : zcb m 0 63 := ⟨0, by simp, by decide, by simpa using hm, .inr (by decide)⟩
theorem zm2 {m r : Int} (h : zcb m r 0) : zil m r := by
 obtain ⟨q, e, h1, h2, h3⟩ := h
 have e1 : (2 : Int) ^ 0 = 1 := rfl
 rw [e1] at h1 h3 e
 exact ⟨by omega, by omega, h2, h3.symm.imp (fun h => by omega) id⟩
theorem zm3 {m r : Int} {k : Nat} (h : zcb m r (k + 1)) : x3 .or .u64 r (2 ^ k) = r + 2 ^ k ∧ 0 ≤ r ∧ (0 : Int) < 2 ^ k ∧ r + 2 ^ k < 9223372036854775808 := by
 obtain ⟨q, e, h1, h2, h3⟩ := h
 have h0 : (0 : Int) < 2 ^ k := Int.pow_pos (by decide)
 have e2 : (2 : Int) ^ (k + 1) = 2 * 2 ^ k := by rw [Int.pow_succ, Int.mul_comm]
 have hr : 0 ≤ r := by rw [e]; exact Int.mul_nonneg (by omega) (by omega)
 rw [e2] at h1
 refine ⟨?_, hr, h0, by omega⟩
 rw [e]
 refine yde (by omega) (by rw [e2]; omega) ?_
 rw [← e]; omega
theorem zpk {m r : Int} {k : Nat} (h : zcb m r (k + 1)) (hn : m < (r + 2 ^ k) * (r + 2 ^ k)) : zcb m r k := by
 obtain ⟨q, e, h1, h2, h3⟩ := h
 have e2 : (2 : Int) ^ (k + 1) = 2 * 2 ^ k := by rw [Int.pow_succ, Int.mul_comm]
 have h0 : (0 : Int) < 2 ^ k := Int.pow_pos (by decide)
 rw [e2] at h1
 refine ⟨2 * q, ?_, by omega, h2, .inl hn⟩
 rw [e, e2]
 push_cast
 rw [← Int.mul_assoc, Int.mul_comm (q : Int) 2]
theorem zm1 {m r : Int} {k : Nat} (h : zcb m r (k + 1)) (hn : (r + 2 ^ k) * (r + 2 ^ k) ≤ m) : zcb m (r + 2 ^ k) k := by
 obtain ⟨q, e, h1, h2, h3⟩ := h
 have e2 : (2 : Int) ^ (k + 1) = 2 * 2 ^ k := by rw [Int.pow_succ, Int.mul_comm]
 have h0 : (0 : Int) < 2 ^ k := Int.pow_pos (by decide)
 rw [e2] at h1 h3
 have e3 : r + 2 ^ k + 2 ^ k = r + 2 * 2 ^ k := by omega
 refine ⟨2 * q + 1, ?_, by omega, hn, by rw [e3]; exact h3⟩
 rw [e, e2]
 push_cast
 rw [Int.add_mul, Int.one_mul, ← Int.mul_assoc, Int.mul_comm (q : Int) 2]
end Go.V
namespace Go.V
def cenV (g : Gnd) (t : Nat) : Vc := (tx g t + 32768, ty g t + 32768)
theorem zek {g : Gnd} (hg : gndP g) {t : Nat} (ht : t < g.T.length) : (cenV g t).ok := by
 have ha := zq hg
 have := txty hg (t := t) (by omega)
 unfold cenV Vc.ok ye
 dsimp only
 omega
/-- Good places for a kind about a tile. -/
def yg (w : Wld) (k tile : Int) (n : Nat) : List Nat := zfi w.G (zcw w.G w.B (kCls k) (vd k)) (vd k) tile n
theorem zfh (g : Gnd) (f : Nat → Bool) (x y k : Int) : ∀ d t, t ∈ y3 g f x y k d → t < g.T.length ∧ f t = true
 | 0, t, h => by cases h
 | d + 1, t, h => by
  rcases List.mem_append.1 (show t ∈ y3 g f x y k d ++ za0 g f x y k d from h) with h | h
  ·exact zfh g f x y k d t h
  ·unfold za0 zez at h
   obtain ⟨h1, h2⟩ := List.mem_filter.1 h
   exact ⟨List.mem_range.1 (List.mem_filter.1 h1).1, h2⟩
theorem zdr {w : Wld} {k tile : Int} {n t : Nat} (h : t ∈ yg w k tile n) : t < w.G.T.length ∧ zcw w.G w.B (kCls k) (vd k) t = true := zfh _ _ _ _ _ _ _ (List.mem_of_mem_take h)
theorem zmu (w : Wld) (k tile : Int) (n : Nat) : (yg w k tile n).length ≤ n := by
 unfold yg zfi
 rw [List.length_take]
 exact Nat.min_le_left _ _
open Classical in
/-- Where a unit comes out. -/
noncomputable def outF (w : Wld) (u : Unt) (tile : Int) : Option Nat := (yg w u.kind tile 64).find? fun t => decide (yl w u.id u.kind (cenV w.G t))
open Classical in
theorem zpz {w : Wld} {u : Unt} {tile : Int} {j : Nat} (hj : j < (yg w u.kind tile 64).length) (hno : ∀ i, (h : i < (yg w u.kind tile 64).length) → i < j → ¬ yl w u.id u.kind (cenV w.G (yg w u.kind tile 64)[i])) (hy : yl w u.id u.kind (cenV w.G (yg w u.kind tile 64)[j])) : outF w u tile = some (yg w u.kind tile 64)[j] := by
 unfold outF
 rw [List.find?_eq_some_iff_getElem]
 exact ⟨decide_eq_true hy, j, hj, rfl, fun i hi => by
  rw [Bool.not_eq_true', decide_eq_false_iff_not]
  exact hno i (by omega) hi⟩
open Classical in
theorem zp0 {w : Wld} {u : Unt} {tile : Int} (hno : ∀ i, (h : i < (yg w u.kind tile 64).length) → ¬ yl w u.id u.kind (cenV w.G (yg w u.kind tile 64)[i])) : outF w u tile = none := by
 unfold outF
 rw [List.find?_eq_none]
 intro t ht
 obtain ⟨i, hi, rfl⟩ := List.getElem_of_mem ht
 rw [decide_eq_true_iff]
 exact hno i hi
open Classical in
theorem zlv {w : Wld} {u : Unt} {tile : Int} {t : Nat} (h : outF w u tile = some t) : t ∈ yg w u.kind tile 64 ∧ yl w u.id u.kind (cenV w.G t) := by
 unfold outF at h
 exact ⟨List.mem_of_find?_eq_some h, by have := List.find?_some h; exact of_decide_eq_true this⟩
def unlU (u : Unt) (p : Vc) : Unt := { u with pos := p, inn := 0 }
/-- One behind the other comes out. -/
noncomputable def unl (tile : Int) : List Int → Wld → Option Wld
 | [], w => some w
 | id :: l, w => match yz w.U id with
  | none => none
  | some i => match outF w (w.U.getD i unt0) tile with
   | none => none
   | some t => unl tile l { w with U := w.U.set i (unlU (w.U.getD i unt0) (cenV w.G t)) }
theorem zgd {tile : Int} {l : List Int} {w : Wld} {id : Int} {i : Nat} (hi : i < w.U.length) (hf : yz w.U id = some i) (ho : outF w w.U[i] tile = none) : unl tile (id :: l) w = none := by
 show (match yz w.U id with | none => none | some i => _) = _
 rw [hf]
 dsimp only
 rw [show w.U.getD i unt0 = w.U[i] by simp [List.getD_eq_getElem?_getD, hi], ho]
theorem zgc {tile : Int} {l : List Int} {w : Wld} {id : Int} {i t : Nat} (hi : i < w.U.length) (hf : yz w.U id = some i) (ho : outF w w.U[i] tile = some t) : unl tile (id :: l) w = unl tile l { w with U := w.U.set i (unlU w.U[i] (cenV w.G t)) } := by
 show (match yz w.U id with | none => none | some i => _) = _
 rw [hf]
 dsimp only
 rw [show w.U.getD i unt0 = w.U[i] by simp [List.getD_eq_getElem?_getD, hi], ho]
open Classical in
noncomputable def ulE (w : Wld) (c : Cmd) : Int :=
 if carE w c.P c.N = 0 then
  (if 0 ≤ c.T ∧ c.T < w.G.W * w.G.H then
   (if farP (cenV w.G c.T.toNat) (uAt w c.N).pos then 8 else (match unl c.T (inOf w.U c.N) w with | none => 5 | some _ => 0))
  else 3)
 else carE w c.P c.N
noncomputable def ulW (w : Wld) (c : Cmd) : Wld := (unl c.T (inOf w.U c.N) w).getD w
/-- The entries of a stand, when a unit is put. -/
def entP (L : List Ent) (u : Unt) : List Ent := if u.inn = 0 then z8 L u.id ++ [(u.id, u.pos)] else z8 L u.id
theorem zy8 (L : List Ent) (u : Unt) : (entP L u).length ≤ L.length + 1 := by
 have : (z8 L u.id).length ≤ L.length := List.length_filter_le _ _
 unfold entP
 split
 ·rw [List.length_append, List.length_singleton]; omega
 ·omega
theorem ydr {L : List Ent} (hok : ∀ e ∈ L, e.2.ok) {u : Unt} (hp : u.pos.ok) : ∀ e ∈ entP L u, e.2.ok := fun e he => by
 unfold entP at he
 split at he
 ·rcases List.mem_append.1 he with he | he
  ·exact hok e (mem_dropId.1 he).1
  ·simp at he; subst he; exact hp
 ·exact hok e (mem_dropId.1 he).1
theorem zkn {w : Wld} {L : List Ent} (hF : j3 w L) (hr : zx w.U) {i : Nat} (hi : i < w.U.length) {u : Unt} (hid : w.U[i].id = u.id) : j3 { w with U := w.U.set i u } (entP L u) := by
 have old : ∀ e, e ∈ z8 L u.id ↔ ∃ j, ∃ hj : j < w.U.length, j ≠ i ∧ w.U[j].inn = 0 ∧ e = (w.U[j].id, w.U[j].pos) := fun e => by
  rw [mem_dropId, hF e]
  constructor
  ·rintro ⟨⟨x, hx, h0, rfl⟩, hne⟩
   obtain ⟨j, hj, rfl⟩ := List.getElem_of_mem hx
   exact ⟨j, hj, fun e => hne (by subst e; exact hid), h0, rfl⟩
  ·rintro ⟨j, hj, hji, h0, rfl⟩
   refine ⟨⟨w.U[j], List.getElem_mem hj, h0, rfl⟩, fun e => hji ?_⟩
   have e : w.U[j].id = u.id := e
   by_cases h1 : j < i
   ·have := yw hr h1 hi; omega
   ·by_cases h2 : i < j
    ·have := yw hr h2 hj; omega
    ·omega
 intro e
 have key : (∃ y ∈ w.U.set i u, y.inn = 0 ∧ e = (y.id, y.pos)) ↔ (u.inn = 0 ∧ e = (u.id, u.pos)) ∨ ∃ j, ∃ hj : j < w.U.length, j ≠ i ∧ w.U[j].inn = 0 ∧ e = (w.U[j].id, w.U[j].pos) := by
  constructor
  ·rintro ⟨y, hy, h0, he⟩
   obtain ⟨j, hj, rfl⟩ := List.getElem_of_mem hy
   rw [List.length_set] at hj
   rw [List.getElem_set] at h0 he
   split at h0
   ·rename_i hh
    rw [if_pos hh] at he
    exact .inl ⟨h0, he⟩
   ·rename_i hh
    rw [if_neg hh] at he
    exact .inr ⟨j, hj, Ne.symm hh, h0, he⟩
  ·rintro (⟨h0, he⟩ | ⟨j, hj, hji, h0, he⟩)
   ·exact ⟨u, List.mem_set hi u, h0, he⟩
   ·refine ⟨w.U[j], ?_, h0, he⟩
    have hj2 : j < (w.U.set i u).length := by rw [List.length_set]; exact hj
    have : (w.U.set i u)[j] = w.U[j] := by rw [List.getElem_set, if_neg (Ne.symm hji)]
    rw [← this]
    exact List.getElem_mem hj2
 show e ∈ entP L u ↔ ∃ y ∈ w.U.set i u, y.inn = 0 ∧ e = (y.id, y.pos)
 rw [key]
 unfold entP
 split
 ·rename_i h0
  rw [List.mem_append, old, List.mem_singleton]
  constructor
  ·rintro (h | h)
   ·exact .inr h
   ·exact .inl ⟨h0, h⟩
  ·rintro (h | h)
   ·exact .inr h.2
   ·exact .inl h
 ·rename_i h0
  rw [old]
  exact ⟨.inr, fun h => h.resolve_left fun hh => h0 hh.1⟩
theorem zko {w : Wld} {L : List Ent} (hn : (L.map (·.1)).Nodup) (hF : j3 w L) : L.length ≤ w.U.length := by
 have := List.Nodup.length_le_of_subset (l₂ := w.U.map (·.id)) hn (fun id hid => by
  obtain ⟨e, he, rfl⟩ := List.mem_map.1 hid
  obtain ⟨u, hu, _, rfl⟩ := (hF e).1 he
  exact List.mem_map.2 ⟨u, hu, rfl⟩)
 rw [List.length_map, List.length_map] at this
 exact this
/-- A unit is put: IDs rise as before. -/
theorem za4 {U : List Unt} (hr : zx U) {i : Nat} (hi : i < U.length) {u : Unt} (hid : U[i].id = u.id) : zx (U.set i u) := by
 intro j hj h0
 rw [List.length_set] at hj
 have := hr j hj h0
 have id' : ∀ k, (hk : k < U.length) → ((U.set i u)[k]'(by rw [List.length_set]; exact hk)).id = U[k].id := fun k hk => by
  rw [List.getElem_set]
  split
  ·rename_i e; subst e; exact hid.symm
  ·rfl
 rw [id' _ (by omega), id' _ hj]
 exact this
theorem zre {U : List Unt} (hr : zx U) {i : Nat} (hi : i < U.length) {u : Unt} (hid : U[i].id = u.id) (id : Int) : yz (U.set i u) id = yz U id := by
 have id' : ∀ k, (hk : k < U.length) → ((U.set i u)[k]'(by rw [List.length_set]; exact hk)).id = U[k].id := fun k hk => by
  rw [List.getElem_set]
  split
  ·rename_i e; subst e; exact hid.symm
  ·rfl
 cases h : yz U id with
 | some k =>
  obtain ⟨hk, e⟩ := xc h
  exact zbe (za4 hr hi hid) (by rw [List.length_set]; exact hk) (by rw [id' k hk]; exact e)
 | none =>
  cases h2 : yz (U.set i u) id with
  | none => rfl
  | some k =>
   obtain ⟨hk, e⟩ := xc h2
   rw [List.length_set] at hk
   rw [id' k hk] at e
   exact absurd e (zfu h _ (List.getElem_mem hk))
end Go.V
namespace Go.V
def mvG (g : Int) (u : Unt) : Unt := { u with goal := g, next := -1, stuck := 0, state := 1 }
def j0 (w : Wld) (c : Cmd) (k : Nat) (kd : Int) : Int := match (yg w kd c.T c.U.length)[k]? with | some t => (t : Int) | none => c.T
def mvL (w : Wld) (c : Cmd) : Nat → List Unt
 | 0 => w.U
 | k + 1 => match yz w.U (c.U.getD k 0) with
  | some i => (mvL w c k).set i (mvG (j0 w c k (w.U.getD i unt0).kind) (w.U.getD i unt0))
  | none => mvL w c k
def mvE (w : Wld) (c : Cmd) : Int := if 0 ≤ c.T ∧ c.T < w.G.W * w.G.H then allE (askE w c.P) c.U else 3
def mvW (w : Wld) (c : Cmd) : Wld := { w with U := mvL w c c.U.length }
theorem zlz {w : Wld} {c : Cmd} {k i : Nat} (hk : k < c.U.length) (hf : yz w.U c.U[k] = some i) (hi : i < w.U.length) : mvL w c (k + 1) = (mvL w c k).set i (mvG (j0 w c k w.U[i].kind) w.U[i]) := by
 show (match yz w.U (c.U.getD k 0) with | some i => _ | none => _) = _
 rw [show c.U.getD k 0 = c.U[k] by simp [List.getD_eq_getElem?_getD, hk], hf]
 dsimp only
 rw [show w.U.getD i unt0 = w.U[i] by simp [List.getD_eq_getElem?_getD, hi]]
theorem qg (w : Wld) (c : Cmd) : ∀ k, (mvL w c k).length = w.U.length
 | 0 => rfl
 | k + 1 => by
  show (match yz w.U (c.U.getD k 0) with | some i => _ | none => _ : List Unt).length = _
  cases yz w.U (c.U.getD k 0) with
  | none => exact qg w c k
  | some i => dsimp only; rw [List.length_set]; exact qg w c k
/-- All but the order stays. -/
theorem za7 (w : Wld) (c : Cmd) : ∀ k j, (hj : j < w.U.length) → mvG 0 ((mvL w c k)[j]'(by rw [qg]; exact hj)) = mvG 0 w.U[j]
 | 0, j, hj => rfl
 | k + 1, j, hj => by
  have ih := za7 w c k j hj
  have key : ∀ L : List Unt, (hL : j < L.length) → L = mvL w c (k + 1) → mvG 0 L[j] = mvG 0 w.U[j] := fun L hL e => by
   have e2 : mvL w c (k + 1) = (match yz w.U (c.U.getD k 0) with
    | some i => (mvL w c k).set i (mvG (j0 w c k (w.U.getD i unt0).kind) (w.U.getD i unt0))
    | none => mvL w c k) := rfl
   rw [e2] at e
   cases hf : yz w.U (c.U.getD k 0) with
   | none => rw [hf] at e; subst e; exact ih
   | some i =>
    rw [hf] at e
    obtain ⟨hi, _⟩ := xc hf
    subst e
    rw [List.getElem_set]
    split
    ·rename_i e3; subst e3
     rw [show w.U.getD i unt0 = w.U[i] by simp [List.getD_eq_getElem?_getD, hi]]
     rfl
    ·exact ih
  exact key _ (by rw [qg]; exact hj) rfl
theorem za8 {a b : Unt} (h : mvG 0 a = mvG 0 b) : a.id = b.id ∧ a.owner = b.owner ∧ a.kind = b.kind ∧ a.pos = b.pos ∧ a.inn = b.inn := by
 refine ⟨?_, ?_, ?_, ?_, ?_⟩
 ·have := congrArg Unt.id h
  exact this
 ·have := congrArg Unt.owner h
  exact this
 ·have := congrArg Unt.kind h
  exact this
 ·have := congrArg Unt.pos h
  exact this
 ·have := congrArg Unt.inn h
  exact this
theorem zqb (w : Wld) (c : Cmd) (k j : Nat) (hj : j < w.U.length) : ((mvL w c k)[j]'(by rw [qg]; exact hj)).id = w.U[j].id := (za8 (za7 w c k j hj)).1
theorem zd0 {w : Wld} (hr : zx w.U) (c : Cmd) (k : Nat) : zx (mvL w c k) := by
 intro j hj h0
 rw [qg] at hj
 have := hr j hj h0
 rw [zqb w c k _ (by omega), zqb w c k _ hj]
 exact this
theorem zqa {w : Wld} {c : Cmd} {k : Nat} {u : Unt} (h : u ∈ mvL w c k) : ∃ x ∈ w.U, u.id = x.id ∧ u.owner = x.owner ∧ u.kind = x.kind ∧ u.pos = x.pos ∧ u.inn = x.inn := by
 obtain ⟨j, hj, rfl⟩ := List.getElem_of_mem h
 have hj2 := hj
 rw [qg] at hj2
 exact ⟨w.U[j], List.getElem_mem hj2, za8 (za7 w c k j hj2)⟩
theorem yek {w : Wld} {c : Cmd} (h : ¬ (0 ≤ c.T ∧ c.T < w.G.W * w.G.H)) : mvE w c = 3 := by unfold mvE; rw [if_neg h]
theorem yej {w : Wld} {c : Cmd} (h : 0 ≤ c.T ∧ c.T < w.G.W * w.G.H) : mvE w c = allE (askE w c.P) c.U := by unfold mvE; rw [if_pos h]
/-- The goal, by the places told. -/
theorem zd1 {w : Wld} {c : Cmd} {k : Nat} {kd : Int} (h : k < (yg w kd c.T c.U.length).length) : j0 w c k kd = ((yg w kd c.T c.U.length)[k] : Nat) := by
 unfold j0
 rw [List.getElem?_eq_getElem h]
theorem zd2 {w : Wld} {c : Cmd} {k : Nat} {kd : Int} (h : ¬ k < (yg w kd c.T c.U.length).length) : j0 w c k kd = c.T := by
 unfold j0
 rw [List.getElem?_eq_none (by omega)]
theorem zqm {α : Type} (f : α → AV) (cs : List (Int × α)) (k : Int) (z : AV) : w7 true z ((cs.map (entI f)).find? (qA k)) = match getI cs k with | some v => .tup [f v, .s (.bool true)] | none => .tup [z, .s (.bool false)] := by
 rw [zi4]
 unfold getI
 cases cs.find? fun e => k == e.1 with
 | none => rfl
 | some e => rfl
end Go.V
namespace Go.V
noncomputable def aE (w : Wld) (c : Cmd) : Int := if c.K = 1 then spE w c else if c.K = 2 then mvE w c else if c.K = 3 then stE w c else if c.K = 4 then bdE w c else if c.K = 5 then drE w c else if c.K = 6 then ldE w c else ulE w c
noncomputable def aW (w : Wld) (c : Cmd) : Wld := if c.K = 1 then spW w c else if c.K = 2 then mvW w c else if c.K = 3 then stW w c else if c.K = 4 then bdW w c else if c.K = 5 then drW w c else if c.K = 6 then ldW w c else ulW w c
theorem a1 {w : Wld} {c : Cmd} (h : c.K = 1) : aE w c = spE w c ∧ aW w c = spW w c := by unfold aE aW; rw [h]; exact ⟨rfl, rfl⟩
theorem a2 {w : Wld} {c : Cmd} (h : c.K = 2) : aE w c = mvE w c ∧ aW w c = mvW w c := by unfold aE aW; rw [h]; exact ⟨rfl, rfl⟩
theorem a3 {w : Wld} {c : Cmd} (h : c.K = 3) : aE w c = stE w c ∧ aW w c = stW w c := by unfold aE aW; rw [h]; exact ⟨rfl, rfl⟩
theorem a4 {w : Wld} {c : Cmd} (h : c.K = 4) : aE w c = bdE w c ∧ aW w c = bdW w c := by unfold aE aW; rw [h]; exact ⟨rfl, rfl⟩
theorem a5 {w : Wld} {c : Cmd} (h : c.K = 5) : aE w c = drE w c ∧ aW w c = drW w c := by unfold aE aW; rw [h]; exact ⟨rfl, rfl⟩
theorem a6 {w : Wld} {c : Cmd} (h : c.K = 6) : aE w c = ldE w c ∧ aW w c = ldW w c := by unfold aE aW; rw [h]; exact ⟨rfl, rfl⟩
theorem a7 {w : Wld} {c : Cmd} (h : c.K = 7) : aE w c = ulE w c ∧ aW w c = ulW w c := by unfold aE aW; rw [h]; exact ⟨rfl, rfl⟩
theorem zyx {c : Cmd} (h : cmdP c) : c.K = 1 ∨ c.K = 2 ∨ c.K = 3 ∨ c.K = 4 ∨ c.K = 5 ∨ c.K = 6 ∨ c.K = 7 := Classical.byContradiction fun hn => by
 have hn : c.K ≠ 1 ∧ c.K ≠ 2 ∧ c.K ≠ 3 ∧ c.K ≠ 4 ∧ c.K ≠ 5 ∧ c.K ≠ 6 ∧ c.K ≠ 7 := by omega
 exact Cmd.ok0 hn.1 hn.2.1 hn.2.2.1 hn.2.2.2.1 hn.2.2.2.2.1 hn.2.2.2.2.2.1 hn.2.2.2.2.2.2 h.1
theorem zda {E : Wld → Cmd → Int} {w : Wld} {c : Cmd} (h : doE E w c = 0) : mayP w ∧ cmdP c ∧ c.P ≤ w.players ∧ E w c = 0 := by
 have hb : ¬ (¬ mayP w ∨ ¬ cmdP c ∨ w.players < c.P) := fun hb => by rw [zk2 hb] at h; cases h
 have h1 : mayP w := Classical.byContradiction fun hh => hb (.inl hh)
 have h2 : cmdP c := Classical.byContradiction fun hh => hb (.inr (.inl hh))
 have h3 : c.P ≤ w.players := Int.not_lt.1 fun hh => hb (.inr (.inr hh))
 refine ⟨h1, h2, h3, ?_⟩
 rw [zmb h1 h2 h3] at h
 exact h
theorem zhn {tile : Int} : ∀ (l : List Int) (w x : Wld), zx w.U → unl tile l w = some x → x.tick = w.tick ∧ x.players = w.players ∧ x.next = w.next ∧ x.G = w.G ∧ x.B = w.B ∧ ∃ h : x.U.length = w.U.length, ∀ j, (hj : j < w.U.length) → x.U[j].id = w.U[j].id ∧ x.U[j].owner = w.U[j].owner ∧ x.U[j].kind = w.U[j].kind ∧ (x.U[j] = w.U[j] ∨ ∃ t, t < w.G.T.length ∧ x.U[j].pos = cenV w.G t)
 | [], w, x, hr, h => by
  have : w = x := Option.some.inj h
  subst this
  exact ⟨rfl, rfl, rfl, rfl, rfl, rfl, fun j hj => ⟨rfl, rfl, rfl, .inl rfl⟩⟩
 | id :: l, w, x, hr, h => by
  cases hf : yz w.U id with
  | none =>
   have : unl tile (id :: l) w = none := by
    show (match yz w.U id with | none => none | some i => _) = _
    rw [hf]
   rw [this] at h; cases h
  | some i =>
   obtain ⟨hi, _⟩ := xc hf
   cases ho : outF w w.U[i] tile with
   | none => rw [zgd hi hf ho] at h; cases h
   | some t =>
    rw [zgc hi hf ho] at h
    have ht := (zdr (zlv ho).1).1
    obtain ⟨h0, h1, h2, h3, h4, h5, h6⟩ := zhn l _ x (za4 hr hi (u := unlU w.U[i] (cenV w.G t)) rfl) h
    have hl : (w.U.set i (unlU w.U[i] (cenV w.G t))).length = w.U.length := List.length_set
    refine ⟨h0, h1, h2, h3, h4, h5.trans hl, fun j hj => ?_⟩
    obtain ⟨k1, k2, k3, k4⟩ := h6 j (by rw [hl]; exact hj)
    by_cases e : i = j
    ·subst e
     have e9 : (w.U.set i (unlU w.U[i] (cenV w.G t)))[i]'(by rw [hl]; exact hj) = unlU w.U[i] (cenV w.G t) := List.getElem_set_self _
     dsimp only at k1 k2 k3 k4
     rw [e9] at k1 k2 k3 k4
     refine ⟨k1, k2, k3, .inr ?_⟩
     rcases k4 with k4 | ⟨t2, k4, k5⟩
     ·exact ⟨t, ht, by rw [k4]; rfl⟩
     ·exact ⟨t2, k4, k5⟩
    ·have e9 : (w.U.set i (unlU w.U[i] (cenV w.G t)))[j]'(by rw [hl]; exact hj) = w.U[j] := List.getElem_set_ne e _
     dsimp only at k1 k2 k3 k4
     rw [e9] at k1 k2 k3 k4
     exact ⟨k1, k2, k3, k4⟩
theorem zdh {w : Wld} {c : Cmd} (hr : zx w.U) : (ulW w c).tick = w.tick ∧ (ulW w c).players = w.players ∧ (ulW w c).next = w.next ∧ (ulW w c).G = w.G ∧ (ulW w c).B = w.B ∧ ∃ h : (ulW w c).U.length = w.U.length, ∀ j, (hj : j < w.U.length) → (ulW w c).U[j].id = w.U[j].id ∧ (ulW w c).U[j].owner = w.U[j].owner ∧ (ulW w c).U[j].kind = w.U[j].kind ∧ ((ulW w c).U[j] = w.U[j] ∨ ∃ t, t < w.G.T.length ∧ (ulW w c).U[j].pos = cenV w.G t) := by
 have key : ∀ x : Wld, ulW w c = x → x.tick = w.tick ∧ x.players = w.players ∧ x.next = w.next ∧ x.G = w.G ∧ x.B = w.B ∧ ∃ h : x.U.length = w.U.length, ∀ j, (hj : j < w.U.length) → x.U[j].id = w.U[j].id ∧ x.U[j].owner = w.U[j].owner ∧ x.U[j].kind = w.U[j].kind ∧ (x.U[j] = w.U[j] ∨ ∃ t, t < w.G.T.length ∧ x.U[j].pos = cenV w.G t) := fun x hx => by
  unfold ulW at hx
  cases h : unl c.T (inOf w.U c.N) w with
  | none =>
   rw [h] at hx
   have : w = x := hx
   subst this
   exact ⟨rfl, rfl, rfl, rfl, rfl, rfl, fun j hj => ⟨rfl, rfl, rfl, .inl rfl⟩⟩
  | some y =>
   rw [h] at hx
   have : y = x := hx
   subst this
   exact zhn _ _ _ hr h
 exact key _ rfl
theorem zlq {l : List Int} {g : Unt → Unt} {U : List Unt} {u : Unt} (h : u ∈ setU l g U) : ∃ x ∈ U, u = x ∨ u = g x := by
 unfold setU at h
 obtain ⟨x, hx, rfl⟩ := List.mem_map.1 h
 refine ⟨x, hx, ?_⟩
 split
 ·exact .inr rfl
 ·exact .inl rfl
/-- Places that units have behind a command. -/
theorem ye3 {w : Wld} {c : Cmd} (hn : ∀ u ∈ w.U, u.pos.ok) (h : doE aE w c = 0) : ∀ u ∈ (aW w c).U, u.pos.ok := by
 obtain ⟨hm, hc, hp, he⟩ := zda h
 have z0 : Vc.ok (0, 0) := by unfold Vc.ok ye; decide
 intro u hu
 rcases zyx hc with k | k | k | k | k | k | k
 ·rw [(a1 k).2] at hu
  rcases List.mem_append.1 (show u ∈ w.U ++ [spU w c] from hu) with hu | hu
  ·exact hn u hu
  ·rw [List.mem_singleton] at hu
   subst hu
   have := (Cmd.ok1 k).1 hc.1
   have := this.2
   show Vc.ok (c.X, c.Y)
   unfold yi at this
   unfold Vc.ok ye
   dsimp only
   omega
 ·rw [(a2 k).2] at hu
  obtain ⟨x, hx, _, _, _, e, _⟩ := zqa (show u ∈ mvL w c c.U.length from hu)
  rw [e]; exact hn x hx
 ·rw [(a3 k).2] at hu
  obtain ⟨x, hx, rfl | rfl⟩ := zlq (show u ∈ setU c.U rstU w.U from hu)
  ·exact hn _ hx
  ·exact hn x hx
 ·rw [(a4 k).2] at hu
  exact hn u hu
 ·rw [(a5 k).2] at hu
  unfold drW at hu
  cases hf : zcx w.B c.N with
  | none => rw [hf] at hu; exact hn u hu
  | some i => rw [hf] at hu; exact hn u hu
 ·rw [(a6 k).2] at hu
  obtain ⟨x, hx, rfl | rfl⟩ := zlq (show u ∈ setU c.U (ldU c.N) w.U from hu)
  ·exact hn _ hx
  ·exact z0
 ·rw [(a7 k).2] at hu
  obtain ⟨_, _, _, _, _, hl, hf⟩ := zdh (c := c) hm.1.2.1
  obtain ⟨j, hj, rfl⟩ := List.getElem_of_mem hu
  obtain ⟨_, _, _, e | ⟨t, ht, e⟩⟩ := hf j (by omega)
  ·rw [e]; exact hn _ (List.getElem_mem _)
  ·rw [e]; exact zek hm.1.1.2.1.1 ht
theorem zi8 (w : Wld) (c : Cmd) : (drW w c).tick = w.tick ∧ (drW w c).players = w.players ∧ (drW w c).next = w.next ∧ (drW w c).G = w.G ∧ (drW w c).U = w.U ∧ (drW w c).B.length ≤ w.B.length := by
 unfold drW
 cases zcx w.B c.N with
 | none => exact ⟨rfl, rfl, rfl, rfl, rfl, Nat.le_refl _⟩
 | some i => exact ⟨rfl, rfl, rfl, rfl, rfl, List.length_eraseIdx_le _ _⟩
theorem yac {w : Wld} {c : Cmd} (hm : mayP w) : (aW w c).G.T.length ≤ 1000000 ∧ (aW w c).B.length ≤ 1000000 ∧ (aW w c).U.length ≤ 1000000 := by
 have ha := zq hm.1.1.2.1.1
 have hB := hm.1.1.2.1.2.1.1
 have hU := hm.1.1.2.1.2.2
 by_cases k1 : c.K = 1
 ·rw [(a1 k1).2]
  unfold spW
  dsimp only
  rw [List.length_append, List.length_singleton]
  omega
 by_cases k2 : c.K = 2
 ·rw [(a2 k2).2]
  unfold mvW
  dsimp only
  rw [qg]
  omega
 by_cases k3 : c.K = 3
 ·rw [(a3 k3).2]
  unfold stW
  dsimp only
  rw [yj]
  omega
 by_cases k4 : c.K = 4
 ·rw [(a4 k4).2]
  unfold bdW
  dsimp only
  rw [List.length_append, List.length_singleton]
  omega
 by_cases k5 : c.K = 5
 ·rw [(a5 k5).2]
  obtain ⟨_, _, _, e1, e2, e3⟩ := zi8 w c
  rw [e1, e2]
  omega
 by_cases k6 : c.K = 6
 ·rw [(a6 k6).2]
  unfold ldW
  dsimp only
  rw [yj]
  omega
 have : aW w c = ulW w c := by unfold aW; rw [if_neg k1, if_neg k2, if_neg k3, if_neg k4, if_neg k5, if_neg k6]
 rw [this]
 obtain ⟨_, _, _, e1, e2, e3, _⟩ := zdh (c := c) hm.1.2.1
 rw [e1, e2, e3]
 omega
end Go.V
namespace Go.V
theorem zoz (x y : Int) : (x - y) * (x - y) = (y - x) * (y - x) := by
 have : y - x = -(x - y) := by omega
 rw [this, Int.neg_mul_neg]
theorem zf7 {g : Gnd} (hg : gndP g) {l : List Bld} {c c' : Int} {p q : Vc} {k k' : Int} (hp : zbx g l c p (kRad k)) (hq : zbx g l c' q (kRad k')) : jx p (kRad k) q (kRad k') = jx q (kRad k') p (kRad k) := by
 have b1 := zz5 hg hp
 have b2 := zz5 hg hq
 have r1 := ydb k
 have r2 := ydb k'
 unfold jx
 rw [wn (by omega) (by omega) (by omega) (by omega) (by omega), wn (by omega) (by omega) (by omega) (by omega) (by omega), zoz p.1, zoz p.2, Int.add_comm (kRad k)]
theorem zb0 {w w' : Wld} {id k : Int} {p : Vc} (hG : w'.G = w.G) (hB : w'.B = w.B) (h : ∀ v ∈ w'.U, v.inn = 0 → v.id ≠ id → ∃ x ∈ w.U, x.inn = 0 ∧ x.id ≠ id ∧ x.pos = v.pos ∧ x.kind = v.kind) (hc : yl w id k p) : yl w' id k p := by
 refine ⟨by rw [hG, hB]; exact hc.1, fun v hv h0 hid => ?_⟩
 obtain ⟨x, hx, e1, e2, e3, e4⟩ := h v hv h0 hid
 rw [← e3, ← e4]
 exact hc.2 x hx e1 e2
theorem zfo (l : List Unt) (id : Int) : inOf l id = ((l.map fun u => (u.inn, u.id)).filter fun x => x.1 == id).map (·.2) := by
 unfold inOf
 rw [List.filter_map, List.map_map]
 rfl
theorem znr {U U' : List Unt} (hl : U'.length = U.length) (h : ∀ j, (hj : j < U.length) → (U'[j]'(by omega)).inn = U[j].inn ∧ (U'[j]'(by omega)).id = U[j].id) (id : Int) : inOf U' id = inOf U id := by
 rw [zfo, zfo]
 have : (U'.map fun u => (u.inn, u.id)) = U.map fun u => (u.inn, u.id) := by
  apply List.ext_getElem (by rw [List.length_map, List.length_map]; exact hl)
  intro j h1 h2
  rw [List.length_map] at h1 h2
  rw [List.getElem_map, List.getElem_map, (h j h2).1, (h j h2).2]
 rw [this]
theorem zkd {U U' : List Unt} (hl : U'.length = U.length) (h : ∀ j, (hj : j < U.length) → (U'[j]'(by omega)).id = U[j].id) (hr : zx U) : zx U' := by
 intro j hj h0
 rw [hl] at hj
 have := hr j hj h0
 rw [h _ (by omega), h _ hj]
 exact this
theorem zyz {l : List Unt} {u : Unt} (hu : u ∈ l) : u.id ∈ inOf l u.inn := by
 unfold inOf
 exact List.mem_map.2 ⟨u, List.mem_filter.2 ⟨hu, by simp⟩, rfl⟩
/-- Orders are turned, of such as are on the field. -/
theorem zfm {w : Wld} (hm : mayP w) {U : List Unt} (hl : U.length = w.U.length) (h1 : ∀ j, (hj : j < w.U.length) → mvG 0 (U[j]'(by omega)) = mvG 0 w.U[j]) (h2 : ∀ j, (hj : j < w.U.length) → w.U[j].inn ≠ 0 → U[j]'(by omega) = w.U[j]) (h3 : ∀ j, (hj : j < w.U.length) → untP w (U[j]'(by omega))) : mayP { w with U := U } := by
 obtain ⟨⟨hh, hr, hu⟩, hc, hd⟩ := hm
 have same := fun j hj => za8 (h1 j hj)
 have back : ∀ v ∈ U, ∃ j, ∃ hj : j < w.U.length, v = U[j]'(by omega) := fun v hv => by
  obtain ⟨j, hj, rfl⟩ := List.getElem_of_mem hv
  exact ⟨j, by omega, rfl⟩
 have hin := znr hl (fun j hj => ⟨(same j hj).2.2.2.2, (same j hj).1⟩)
 refine ⟨⟨⟨hh.1, ⟨hh.2.1.1, hh.2.1.2.1, by show U.length ≤ _; rw [hl]; exact hh.2.1.2.2⟩, hh.2.2⟩, zkd hl (fun j hj => (same j hj).1) hr, fun v hv => ?_⟩, fun v hv h0 => ?_, fun v hv h0 => ?_⟩
 ·obtain ⟨j, hj, rfl⟩ := back v hv
  refine ⟨h3 j hj, fun b hb => ?_⟩
  rw [(same j hj).1]
  exact (hu _ (List.getElem_mem hj)).2 b hb
 ·obtain ⟨j, hj, rfl⟩ := back v hv
  obtain ⟨e1, _, e3, e4, e5⟩ := same j hj
  rw [e1, e3, e4]
  refine zb0 (w := w) rfl rfl (fun x hx hx0 hxi => ?_) (hc _ (List.getElem_mem hj) (by rw [← e5]; exact h0))
  obtain ⟨k, hk, rfl⟩ := back x hx
  obtain ⟨f1, _, f3, f4, f5⟩ := same k hk
  exact ⟨_, List.getElem_mem hk, by rw [← f5]; exact hx0, by rw [← f1]; exact hxi, f4.symm, f3.symm⟩
 ·obtain ⟨j, hj, rfl⟩ := back v hv
  have e5 := (same j hj).2.2.2.2
  rw [e5] at h0
  rw [h2 j hj h0]
  obtain ⟨x, hx, g1, g2, g3, g4⟩ := hd _ (List.getElem_mem hj) h0
  obtain ⟨k, hk, rfl⟩ := List.getElem_of_mem hx
  obtain ⟨f1, f2, f3, f4, f5⟩ := same k hk
  refine ⟨U[k]'(by omega), List.getElem_mem _, by rw [f1]; exact g1, ⟨by rw [f5]; exact g2.1, by rw [f2]; exact g2.2⟩, ?_, g4⟩
  show ((inOf U _).length : Int) ≤ _
  rw [hin, f3]
  exact g3
theorem zfv {q : Unt → Bool} {x : Unt} (hx : q x = false) : ∀ (U : List Unt) (i : Nat), ((U.set i x).filter q).length ≤ (U.filter q).length
 | [], _ => Nat.le_refl _
 | a :: l, 0 => by
  rw [List.set_cons_zero, List.filter_cons, List.filter_cons]
  simp only [hx, Bool.false_eq_true, if_false]
  split
  ·rw [List.length_cons]; omega
  ·exact Nat.le_refl _
 | a :: l, i + 1 => by
  rw [List.set_cons_succ, List.filter_cons, List.filter_cons]
  have := zfv hx l i
  split
  ·simp only [List.length_cons]; omega
  ·exact this
/-- A unit is put where it is clear. -/
theorem zqi {w : Wld} (hm : mayP w) {i : Nat} (hi : i < w.U.length) {p : Vc} (hp : yl w w.U[i].id w.U[i].kind p) : mayP { w with U := w.U.set i { w.U[i] with pos := p, inn := 0 } } := by
 obtain ⟨⟨hh, hr, hu⟩, hc, hd⟩ := hm
 have hg := hh.2.1.1
 have hl : (w.U.set i { w.U[i] with pos := p, inn := 0 }).length = w.U.length := List.length_set
 have get : ∀ j, (hj : j < w.U.length) → (w.U.set i { w.U[i] with pos := p, inn := 0 })[j]'(by omega) = if i = j then { w.U[i] with pos := p, inn := 0 } else w.U[j] := fun j hj => List.getElem_set ..
 have back : ∀ v ∈ w.U.set i { w.U[i] with pos := p, inn := 0 }, v = { w.U[i] with pos := p, inn := 0 } ∨ ∃ j, ∃ hj : j < w.U.length, j ≠ i ∧ v = w.U[j] := fun v hv => by
  obtain ⟨j, hj, rfl⟩ := List.getElem_of_mem hv
  rw [hl] at hj
  rw [get j hj]
  split
  ·exact .inl rfl
  ·rename_i e; exact .inr ⟨j, hj, Ne.symm e, rfl⟩
 have idne : ∀ j, (hj : j < w.U.length) → j ≠ i → w.U[j].id ≠ w.U[i].id := fun j hj hne e => by
  rcases Nat.lt_trichotomy j i with q | q | q
  ·have := yw hr q hi; omega
  ·exact hne q
  ·have := yw hr q hj; omega
 have hself : untP w { w.U[i] with pos := p, inn := 0 } ∧ ∀ b ∈ w.B, b.id ≠ w.U[i].id := ⟨(hu _ (List.getElem_mem hi)).1, (hu _ (List.getElem_mem hi)).2⟩
 refine ⟨⟨⟨hh.1, ⟨hh.2.1.1, hh.2.1.2.1, by show (w.U.set i _).length ≤ _; rw [hl]; exact hh.2.1.2.2⟩, hh.2.2⟩, za4 hr hi rfl, fun v hv => ?_⟩, fun v hv h0 => ?_, fun v hv h0 => ?_⟩
 ·rcases back v hv with rfl | ⟨j, hj, _, rfl⟩
  ·exact hself
  ·exact hu _ (List.getElem_mem hj)
 ·rcases back v hv with rfl | ⟨j, hj, hne, rfl⟩
  ·refine zb0 (w := w) rfl rfl (fun x hx hx0 hxi => ?_) hp
   rcases back x hx with rfl | ⟨k, hk, _, rfl⟩
   ·exact absurd rfl hxi
   ·exact ⟨_, List.getElem_mem hk, hx0, hxi, rfl, rfl⟩
  ·have hcj := hc _ (List.getElem_mem hj) h0
   refine ⟨hcj.1, fun x hx hx0 hxi => ?_⟩
   rcases back x hx with rfl | ⟨k, hk, _, rfl⟩
   ·have := hp.2 _ (List.getElem_mem hj) h0 (idne j hj hne)
    rw [zf7 hg hp.1 hcj.1] at this
    exact this
   ·exact hcj.2 _ (List.getElem_mem hk) hx0 hxi
 ·rcases back v hv with rfl | ⟨j, hj, hne, rfl⟩
  ·exact absurd rfl h0
  obtain ⟨x, hx, g1, g2, g3, g4⟩ := hd _ (List.getElem_mem hj) h0
  obtain ⟨k, hk, rfl⟩ := List.getElem_of_mem hx
  have hle : ((inOf (w.U.set i { w.U[i] with pos := p, inn := 0 }) w.U[j].inn).length : Int) ≤ xp w.U[k].kind := by
   have h9 := zfv (q := fun u => u.inn == w.U[j].inn) (x := { w.U[i] with pos := p, inn := 0 }) (by
    show ((0 : Int) == w.U[j].inn) = false
    simpa using fun e => h0 e.symm) w.U i
   unfold inOf at g3 ⊢
   rw [List.length_map] at g3 ⊢
   omega
  by_cases e : k = i
  ·subst e
   exact ⟨{ w.U[k] with pos := p, inn := 0 }, List.mem_set hi _, g1, ⟨rfl, g2.2⟩, hle, g4⟩
  ·refine ⟨w.U[k], ?_, g1, g2, hle, g4⟩
   have : (w.U.set i { w.U[i] with pos := p, inn := 0 })[k]'(by omega) = w.U[k] := by rw [get k hk, if_neg (Ne.symm e)]
   rw [← this]
   exact List.getElem_mem _
theorem zqg {tile : Int} : ∀ (l : List Int) (w x : Wld), mayP w → unl tile l w = some x → mayP x
 | [], w, x, hm, h => by
  have : w = x := Option.some.inj h
  subst this
  exact hm
 | id :: l, w, x, hm, h => by
  cases hf : yz w.U id with
  | none =>
   have : unl tile (id :: l) w = none := by
    show (match yz w.U id with | none => none | some i => _) = _
    rw [hf]
   rw [this] at h; cases h
  | some i =>
   obtain ⟨hi, _⟩ := xc hf
   cases ho : outF w w.U[i] tile with
   | none => rw [zgd hi hf ho] at h; cases h
   | some t =>
    rw [zgc hi hf ho] at h
    exact zqg l _ x (zqi hm hi (zlv ho).2) h
end Go.V
namespace Go.V
theorem jq {U : List Unt} {x v : Unt} (h : v ∈ U ++ [x]) : v ∈ U ∨ v = x := by
 rcases List.mem_append.1 h with h | h
 ·exact .inl h
 ·exact .inr (List.mem_singleton.1 h)
theorem zh4 {U : List Unt} {x : Unt} (hr : zx U) (hx : ∀ u ∈ U, u.id < x.id) : zx (U ++ [x]) := by
 intro j hj h0
 have hj2 : j < U.length + 1 := by rw [List.length_append] at hj; exact hj
 by_cases e : j < U.length
 ·rw [List.getElem_append_left (by omega), List.getElem_append_left e]
  exact hr j e h0
 ·have ej : j = U.length := by omega
  subst ej
  rw [List.getElem_append_left (by omega), List.getElem_append_right (Nat.le_refl _)]
  simp only [Nat.sub_self, List.getElem_cons_zero]
  exact hx _ (List.getElem_mem (by omega))
theorem zqh {w : Wld} {c : Cmd} (hm : mayP w) (hc : cmdP c) (hp : c.P ≤ w.players) (hk : c.K = 1) (h : spE w c = 0) : mayP (spW w c) := by
 have hn : ¬ ze4 w := fun hf => by unfold spE at h; rw [if_pos hf] at h; cases h
 have hcl : yl w 0 c.N (c.X, c.Y) := Classical.byContradiction fun hh => by unfold spE at h; rw [if_neg hn, if_neg hh] at h; cases h
 unfold ze4 at hn
 have hn1 : w.U.length < 4096 := by omega
 have hn2 : w.next < 1099511627776 := by omega
 obtain ⟨⟨hh, hr, hu⟩, hcc, hd⟩ := hm
 have hg := hh.2.1.1
 have hN := ((Cmd.ok1 hk).1 hc.1).1
 have hl : (w.U ++ [spU w c]).length = w.U.length + 1 := by rw [List.length_append]; rfl
 have hnx := hh.1.2.2.1
 have upu : ∀ v, untP w v → untP (spW w c) v := fun v hv => ⟨⟨⟨hv.1.1.1, by show v.id < w.next + 1; have := hv.1.1.2; omega⟩, hv.1.2⟩, hv.2⟩
 have hin : ∀ id, id ≠ 0 → inOf (w.U ++ [spU w c]) id = inOf w.U id := fun id hid => by
  unfold inOf
  rw [List.filter_append]
  have : [spU w c].filter (fun u => u.inn == id) = [] := by
   rw [List.filter_cons]
   have e : ((spU w c).inn == id) = false := by show ((0 : Int) == id) = false; simpa using fun e => hid e.symm
   rw [e]
   rfl
  rw [this, List.append_nil]
 refine ⟨⟨⟨⟨hh.1.1, hh.1.2.1, by show 1 ≤ w.next + 1 ∧ w.next + 1 ≤ _; omega⟩, ⟨hg, hh.2.1.2.1, by show (w.U ++ [spU w c]).length ≤ _; omega⟩, fun b hb => ⟨(hh.2.2 b hb).1, by show b.id < w.next + 1; have := (hh.2.2 b hb).2; omega⟩⟩, ?_, fun v hv => ?_⟩, fun v hv h0 => ?_, fun v hv h0 => ?_⟩
 ·exact zh4 hr fun u hu2 => (hu u hu2).1.1.1.2
 ·rcases jq hv with hv | rfl
  ·exact ⟨upu v (hu v hv).1, (hu v hv).2⟩
  ·refine ⟨⟨⟨⟨hnx, by show w.next < w.next + 1; omega⟩, ⟨hc.2.1.1, hp⟩, hN⟩, ⟨.inl rfl, .inl rfl, by show (0 : Int) ≤ 0 ∧ (0 : Int) < 8; decide⟩, ⟨by show (0 : Int) ≤ 0 ∧ (0 : Int) ≤ 4; decide, ⟨fun e => absurd (show (0 : Int) = 1 from e) (by decide), fun e => absurd rfl e⟩⟩, fun _ => ⟨rfl, rfl⟩⟩, fun b hb => ?_⟩
   have := (hh.2.2 b hb).2
   show b.id ≠ w.next
   omega
 ·rcases jq hv with hv | rfl
  ·have hv0 := hcc v hv h0
   refine ⟨hv0.1, fun x hx hx0 hxi => ?_⟩
   rcases jq hx with hx | rfl
   ·exact hv0.2 x hx hx0 hxi
   ·have := hcl.2 v hv h0 (by have := (hu v hv).1.1.1.1; omega)
    rw [zf7 hg hcl.1 hv0.1] at this
    exact this
  ·refine ⟨hcl.1, fun x hx hx0 hxi => ?_⟩
   rcases jq hx with hx | rfl
   ·exact hcl.2 x hx hx0 (by have := (hu x hx).1.1.1.1; omega)
   ·exact absurd rfl hxi
 ·rcases jq hv with hv | rfl
  ·obtain ⟨x, hx, g1, g2, g3, g4⟩ := hd v hv h0
   exact ⟨x, List.mem_append_left _ hx, g1, g2, by show ((inOf (w.U ++ [spU w c]) _).length : Int) ≤ _; rw [hin _ h0]; exact g3, g4⟩
  ·exact absurd rfl h0
theorem zi0 {g : Gnd} {l l' : List Bld} {c : Int} {p : Vc} {r : Int} (hf : zbx g l c p r) (h : ∀ t, t < g.T.length → yc g l' c t = false → yc g l c t = false ∨ ¬ hitP g t p r) : zbx g l' c p r :=
 ⟨hf.1, fun t ht ho hh => by
  rcases h t ht ho with e | e
  ·exact hf.2 t ht e hh
  ·exact e hh⟩
/-- Only buildings are others. -/
theorem zl3 {w : Wld} (hm : mayP w) {B : List Bld} {next : Int} (hnx : w.next ≤ next ∧ next ≤ 1099511627776) (hb : zjn w.G B) (hb2 : ∀ b ∈ B, b.owner ≤ w.players ∧ b.id < next) (hb3 : ∀ b ∈ B, ∀ u ∈ w.U, b.id ≠ u.id)
  (hf : ∀ u ∈ w.U, u.inn = 0 → zbx w.G B (kCls u.kind) u.pos (kRad u.kind)) : mayP { w with B := B, next := next } := by
 obtain ⟨⟨hh, hr, hu⟩, hcc, hd⟩ := hm
 have hn1 := hh.1.2.2.1
 refine ⟨⟨⟨⟨hh.1.1, hh.1.2.1, by show 1 ≤ next ∧ next ≤ _; omega⟩, ⟨hh.2.1.1, hb, hh.2.1.2.2⟩, hb2⟩, hr, fun v hv => ⟨?_, fun b hb => hb3 b hb v hv⟩⟩, fun v hv h0 => ⟨hf v hv h0, (hcc v hv h0).2⟩, hd⟩
 have hv0 := (hu v hv).1
 exact ⟨⟨⟨hv0.1.1.1, by show v.id < next; have := hv0.1.1.2; omega⟩, hv0.1.2⟩, hv0.2⟩
theorem zqj {w : Wld} {c : Cmd} (hm : mayP w) (hc : cmdP c) (hp : c.P ≤ w.players) (hk : c.K = 4) (h : bdE w c = 0) : mayP (bdW w c) := by
 unfold bdE at h
 have c1 : 0 ≤ c.T ∧ c.T < w.G.W * w.G.H := Classical.byContradiction fun hh => by rw [if_pos hh] at h; cases h
 rw [if_neg (not_not_intro c1)] at h
 have c2 : ¬ 1099511627776 ≤ w.next := fun hh => by rw [if_pos hh] at h; cases h
 rw [if_neg c2] at h
 have c3 : putE w.G w.B (bdB w c) = 0 := Classical.byContradiction fun hh => by rw [if_neg hh] at h; exact hh h
 rw [if_pos c3] at h
 have c4 : ¬ zd4 w (bdB w c) := fun hh => by rw [if_pos hh] at h; cases h
 unfold putE at c3
 have d1 : onP w.G (bdB w c) := Classical.byContradiction fun hh => by rw [if_pos hh] at c3; cases c3
 rw [if_neg (not_not_intro d1)] at c3
 have d2 : ¬ ∃ x ∈ w.B, j5 x (bdB w c) := fun hh => by rw [if_pos hh] at c3; cases c3
 rw [if_neg d2] at c3
 have d3 : ze5 w.G (bdB w c) := Classical.byContradiction fun hh => by rw [if_pos hh] at c3; cases c3
 rw [if_neg (not_not_intro d3)] at c3
 have d4 : ¬ 256 ≤ w.B.length := fun hh => by rw [if_pos hh] at c3; cases c3
 have hsz := ((Cmd.ok4 hk).1 hc.1).2
 have hh := hm.1.1
 have hnx := hh.1.2.2.1
 have hbl := hh.2.1.2.1
 have ha := zq hh.2.1.1
 have mem : ∀ b ∈ w.B ++ [bdB w c], b ∈ w.B ∨ b = bdB w c := fun b hb => by
  rcases List.mem_append.1 hb with h | h
  ·exact .inl h
  ·exact .inr (List.mem_singleton.1 h)
 have hl : (w.B ++ [bdB w c]).length = w.B.length + 1 := by rw [List.length_append]; rfl
 refine zl3 hm (B := w.B ++ [bdB w c]) (next := w.next + 1) ⟨by omega, by omega⟩ ⟨by omega, ?_, fun b hb => ?_, ?_⟩ (fun b hb => ?_) (fun b hb u hu => ?_) (fun u hu h0 => ?_)
 ·intro j hj h0
  have hj2 : j < w.B.length + 1 := by rw [← hl]; exact hj
  by_cases e : j < w.B.length
  ·rw [List.getElem_append_left (by omega), List.getElem_append_left e]
   exact hbl.2.1 j e h0
  ·have ej : j = w.B.length := by omega
   subst ej
   rw [List.getElem_append_left (by omega), List.getElem_append_right (Nat.le_refl _)]
   simp only [Nat.sub_self, List.getElem_cons_zero]
   exact (hh.2.2 _ (List.getElem_mem (by omega))).2
 ·rcases mem b hb with hb | rfl
  ·exact hbl.2.2.1 b hb
  ·exact ⟨⟨⟨hnx, by show w.next ≤ _; omega⟩, ⟨hc.2.1.1, hc.2.1.2⟩, hsz⟩, d1, d3⟩
 ·intro j hj i hij
  have hj2 : j < w.B.length + 1 := by rw [← hl]; exact hj
  by_cases e : j < w.B.length
  ·rw [List.getElem_append_left e, List.getElem_append_left (by omega)]
   exact hbl.2.2.2 j e i hij
  ·have ej : j = w.B.length := by omega
   subst ej
   rw [List.getElem_append_right (Nat.le_refl _), List.getElem_append_left (by omega)]
   simp only [Nat.sub_self, List.getElem_cons_zero]
   intro hmt
   exact d2 ⟨_, List.getElem_mem (show i < w.B.length by omega), by unfold j5 at hmt ⊢; omega⟩
 ·rcases mem b hb with hb | rfl
  ·have := hh.2.2 b hb; exact ⟨this.1, by omega⟩
  ·exact ⟨hp, by show w.next < w.next + 1; omega⟩
 ·rcases mem b hb with hb | rfl
  ·exact (hm.1.2.2 u hu).2 b hb
  ·have := (hm.1.2.2 u hu).1.1.1.2
   show w.next ≠ u.id
   omega
 ·refine zi0 (hm.2.1 u hu h0).1 (fun t ht ho => ?_)
  by_cases hb : hasP w.G (bdB w c) t
  ·exact .inr fun hit => c4 ⟨t, ⟨by omega, hb⟩, u, hu, h0, hit⟩
  ·refine .inl ?_
   unfold yc at ho ⊢
   have e : covB w.G (w.B ++ [bdB w c]) t = covB w.G w.B t := by
    unfold covB
    rw [List.any_append]
    simp [hb]
   rw [e] at ho
   exact ho
theorem zyu {w : Wld} {c : Cmd} (hm : mayP w) : mayP (drW w c) := by
 unfold drW
 cases hf : zcx w.B c.N with
 | none => exact hm
 | some i =>
  have hh := hm.1.1
  have hbl := hh.2.1.2.1
  have hil : i < w.B.length := by
   unfold zcx at hf
   rw [List.findIdx?_eq_some_iff_getElem] at hf
   exact hf.1
  have hlen : (w.B.eraseIdx i).length = w.B.length - 1 := List.length_eraseIdx_of_lt hil
  have sub : ∀ b ∈ w.B.eraseIdx i, b ∈ w.B := fun b hb => List.mem_of_mem_eraseIdx hb
  have get : ∀ j, (hj : j < (w.B.eraseIdx i).length) → (w.B.eraseIdx i)[j] = if h : j < i then w.B[j]'(by omega) else w.B[j + 1]'(by omega) := fun j hj => List.getElem_eraseIdx ..
  have up : ∀ a b, (ha : a < b) → (hb : b < w.B.length) → (w.B[a]'(by omega)).id < w.B[b].id := fun a b hab => by
   induction b with
   | zero => omega
   | succ b ih =>
    intro hb
    have h1 := hbl.2.1 (b + 1) hb (by omega)
    simp only [Nat.add_sub_cancel] at h1
    by_cases e : a = b
    ·subst e; exact h1
    ·have := ih (by omega) (by omega); omega
  have hnx := hh.1.2.2
  refine zl3 hm (B := w.B.eraseIdx i) (next := w.next) ⟨by omega, by omega⟩ ⟨by have := hbl.1; omega, ?_, fun b hb => hbl.2.2.1 b (sub b hb), ?_⟩ (fun b hb => hh.2.2 b (sub b hb)) (fun b hb u hu => (hm.1.2.2 u hu).2 b (sub b hb)) (fun u hu h0 => ?_)
  ·intro j hj h0
   rw [get _ (by omega), get _ hj]
   split
   ·split
    ·exact up _ _ (by omega) _
    ·exact up _ _ (by omega) _
   ·rw [dif_neg (by omega)]
    exact up _ _ (by omega) _
  ·intro j hj k hkj
   rw [get _ hj, get _ (by omega)]
   split
   ·rw [dif_pos (by omega)]
    exact hbl.2.2.2 _ _ _ (by omega)
   ·split
    ·exact hbl.2.2.2 _ _ _ (by omega)
    ·exact hbl.2.2.2 _ _ _ (by omega)
  ·refine zi0 (hm.2.1 u hu h0).1 (fun t ht ho => .inl ?_)
   unfold yc at ho ⊢
   cases hc : covB w.G w.B t with
   | true => rfl
   | false =>
    have : covB w.G (w.B.eraseIdx i) t = false := by
     unfold covB at hc ⊢
     rw [List.any_eq_false] at hc ⊢
     exact fun b hb => hc b (sub b hb)
    rw [this] at ho
    exact ho
end Go.V
namespace Go.V
theorem yaa {w : Wld} (hr : zx w.U) {P id : Int} (h : askE w P id = 0) {j : Nat} (hj : j < w.U.length) (hid : w.U[j].id = id) : w.U[j].owner = P ∧ w.U[j].inn = 0 := by
 obtain ⟨i, hi, hf, e, _, e2, e3⟩ := x4 h
 have := zbe hr hj hid
 rw [hf] at this
 have := Option.some.inj this
 subst this
 exact ⟨e2, e3⟩
theorem zbp {l : List Int} {g : Unt → Unt} {U : List Unt} {j : Nat} (hj : j < U.length) : (setU l g U)[j]'(by rw [yj]; exact hj) = if U[j].id ∈ l then g U[j] else U[j] := zc1 hj
theorem zyq {w : Wld} {c : Cmd} (hm : mayP w) (h : stE w c = 0) : mayP (stW w c) := by
 have hz := jv (show allE (askE w c.P) c.U = 0 from h)
 have hr := hm.1.2.1
 refine zfm hm (U := setU c.U rstU w.U) (yj _ _ _) (fun j hj => ?_) (fun j hj h0 => ?_) (fun j hj => ?_)
 ·rw [zbp hj]
  split <;> rfl
 ·rw [zbp hj]
  split
  ·rename_i e
   exact absurd (yaa hr (hz _ e) hj rfl).2 h0
  ·rfl
 ·rw [zbp hj]
  have hu := (hm.1.2.2 _ (List.getElem_mem hj)).1
  split
  ·exact ⟨hu.1, ⟨.inl rfl, .inl rfl, by show (0 : Int) ≤ 0 ∧ (0 : Int) < 8; decide⟩, ⟨by show (0 : Int) ≤ 0 ∧ (0 : Int) ≤ 4; decide, ⟨fun e => absurd (show (0 : Int) = 1 from e) (by decide), fun e => absurd rfl e⟩⟩, fun _ => ⟨rfl, rfl⟩⟩
  ·exact hu
theorem zqc {w : Wld} {c : Cmd} (hg : gndP w.G) (ht : 0 ≤ c.T ∧ c.T < w.G.W * w.G.H) (k : Nat) (kd : Int) : 0 ≤ j0 w c k kd ∧ j0 w c k kd < w.G.W * w.G.H := by
 have ha := zq hg
 by_cases h : k < (yg w kd c.T c.U.length).length
 ·rw [zd1 h]
  have := (zdr (List.getElem_mem h)).1
  omega
 ·rw [zd2 h]; exact ht
theorem zz2 {w : Wld} {c : Cmd} (hm : mayP w) (ht : 0 ≤ c.T ∧ c.T < w.G.W * w.G.H) (hz : ∀ a ∈ c.U, askE w c.P a = 0) : ∀ k, k ≤ c.U.length → ∀ j, (hj : j < w.U.length) → (w.U[j].inn ≠ 0 → (mvL w c k)[j]'(by rw [qg]; exact hj) = w.U[j]) ∧ untP w ((mvL w c k)[j]'(by rw [qg]; exact hj))
 | 0, _, j, hj => ⟨fun _ => rfl, (hm.1.2.2 _ (List.getElem_mem hj)).1⟩
 | k + 1, hk, j, hj => by
  have ih := zz2 hm ht hz k (by omega) j hj
  have hlt : k < c.U.length := by omega
  have hr := hm.1.2.1
  obtain ⟨i, hi, hf, hid, _, how, hin⟩ := x4 (hz c.U[k] (List.getElem_mem hlt))
  have hgo := zqc hm.1.1.2.1.1 ht k w.U[i].kind
  have key : ∀ L : List Unt, (hL : j < L.length) → L = mvL w c (k + 1) → (w.U[j].inn ≠ 0 → L[j] = w.U[j]) ∧ untP w L[j] := fun L hL e => by
   rw [zlz hlt hf hi] at e
   subst e
   rw [List.getElem_set]
   split
   ·rename_i e3
    subst e3
    have hu := (hm.1.2.2 _ (List.getElem_mem hi)).1
    refine ⟨fun h0 => absurd hin h0, hu.1, ⟨.inr hgo, .inl rfl, by show (0 : Int) ≤ 0 ∧ (0 : Int) < 8; decide⟩, ⟨by show (0 : Int) ≤ 1 ∧ (1 : Int) ≤ 4; decide, ⟨fun _ => ?_, fun _ => rfl⟩⟩, fun e => ?_⟩
    ·show j0 w c k w.U[i].kind ≠ -1
     omega
    ·have e : j0 w c k w.U[i].kind = -1 := e
     omega
   ·exact ih
  exact key _ (by rw [qg]; exact hj) rfl
theorem zys {w : Wld} {c : Cmd} (hm : mayP w) (h : mvE w c = 0) : mayP (mvW w c) := by
 have ht : 0 ≤ c.T ∧ c.T < w.G.W * w.G.H := Classical.byContradiction fun hh => by rw [yek hh] at h; cases h
 rw [yej ht] at h
 have hz := jv h
 have key := zz2 hm ht hz c.U.length (Nat.le_refl _)
 exact zfm hm (U := mvL w c c.U.length) (qg _ _ _) (fun j hj => za7 w c _ j hj) (fun j hj => (key j hj).1) (fun j hj => (key j hj).2)
theorem zq0 {U : List Unt} (hr : zx U) : (U.map (·.id)).Nodup := by
 rw [List.Nodup, List.pairwise_iff_getElem]
 intro a b ha hb hab
 rw [List.length_map] at ha hb
 rw [List.getElem_map, List.getElem_map]
 have := yw hr hab hb
 omega
theorem zze {U : List Unt} (hr : zx U) (l : List Int) : (U.filter fun u => decide (u.id ∈ l)).length ≤ l.length := by
 have h1 : ((U.filter fun u => decide (u.id ∈ l)).map (·.id)).Nodup := (zq0 hr).sublist ((List.filter_sublist).map _)
 have := List.Nodup.length_le_of_subset (l₂ := l) h1 (fun id hid => by
  obtain ⟨u, hu, rfl⟩ := List.mem_map.1 hid
  exact of_decide_eq_true (List.mem_filter.1 hu).2)
 rw [List.length_map] at this
 exact this
theorem zip (l : List Int) (n : Int) (M : Int) : ∀ U : List Unt, (inOf (setU l (ldU n) U) M).length ≤ (inOf U M).length + (if M = n then (U.filter fun u => decide (u.id ∈ l)).length else 0)
 | [] => by simp [inOf, setU]
 | a :: U => by
  have ih := zip l n M U
  unfold inOf setU at ih ⊢
  simp only [List.length_map] at ih ⊢
  rw [List.map_cons, List.filter_cons, List.filter_cons, List.filter_cons]
  by_cases e : a.id ∈ l
  ·simp only [if_pos e, decide_eq_true e, if_true, List.length_cons]
   by_cases eM : M = n
   ·simp only [if_pos eM] at ih ⊢
    have : ((ldU n a).inn == M) = true := by show (n == M) = true; simpa using eM.symm
    simp only [this, if_true, List.length_cons]
    split <;> (try simp only [List.length_cons]) <;> omega
   ·simp only [if_neg eM] at ih ⊢
    have : ((ldU n a).inn == M) = false := by show (n == M) = false; simpa using fun e => eM e.symm
    simp only [this, Bool.false_eq_true, if_false]
    split <;> (try simp only [List.length_cons]) <;> omega
  ·simp only [if_neg e, decide_eq_false e, Bool.false_eq_true, if_false]
   split
   ·simp only [List.length_cons]; omega
   ·exact ih
theorem zyt {w : Wld} {c : Cmd} (hm : mayP w) (hN : 1 ≤ c.N) (h : ldE w c = 0) : mayP (ldW w c) := by
 unfold ldE at h
 have c1 : carE w c.P c.N = 0 := Classical.byContradiction fun hh => by rw [if_neg hh] at h; exact hh h
 rw [if_pos c1] at h
 have c2 : allE (ldA w c.P c.N) c.U = 0 := Classical.byContradiction fun hh => by rw [if_neg hh] at h; exact hh h
 rw [if_pos c2] at h
 have c3 : ¬ xp (uAt w c.N).kind < ((inOf w.U c.N).length : Int) + (c.U.length : Int) := fun hh => by rw [if_pos hh] at h; cases h
 obtain ⟨hask, hroom⟩ := zem c1
 obtain ⟨ix, hix, hfx, hidx, hux, hox, hinx⟩ := x4 hask
 rw [hux] at hroom c3
 have hz := jv c2
 obtain ⟨⟨hh, hr, hu⟩, hcc, hd⟩ := hm
 -- who is loaded is on the field, of the same player, and carries nobody
 have ld : ∀ j, (hj : j < w.U.length) → w.U[j].id ∈ c.U → w.U[j].owner = c.P ∧ w.U[j].inn = 0 ∧ xp w.U[j].kind = 0 := fun j hj hid => by
  obtain ⟨a1, a2⟩ := zl5 (hz _ hid)
  obtain ⟨b1, b2⟩ := yaa hr a1 hj rfl
  refine ⟨b1, b2, ?_⟩
  have e : uAt w w.U[j].id = w.U[j] := (zcy (zbe hr hj rfl)).2.2
  rw [e] at a2
  unfold znm at a2
  have : ¬ 0 < xp w.U[j].kind := fun hh => by rw [if_pos hh] at a2; cases a2
  have := zbu w.U[j].kind
  omega
 have hxl : w.U[ix].id ∉ c.U := fun e => hroom (ld ix hix e).2.2
 have hl : (setU c.U (ldU c.N) w.U).length = w.U.length := yj _ _ _
 have back : ∀ v ∈ setU c.U (ldU c.N) w.U, ∃ j, ∃ hj : j < w.U.length, (w.U[j].id ∈ c.U ∧ v = ldU c.N w.U[j]) ∨ (w.U[j].id ∉ c.U ∧ v = w.U[j]) := fun v hv => by
  obtain ⟨j, hj, rfl⟩ := List.getElem_of_mem hv
  rw [hl] at hj
  refine ⟨j, hj, ?_⟩
  rw [zbp hj]
  split
  ·rename_i e; exact .inl ⟨e, rfl⟩
  ·rename_i e; exact .inr ⟨e, rfl⟩
 have stay : ∀ j, (hj : j < w.U.length) → w.U[j].id ∉ c.U → w.U[j] ∈ setU c.U (ldU c.N) w.U := fun j hj e => by
  have : (setU c.U (ldU c.N) w.U)[j]'(by rw [hl]; exact hj) = w.U[j] := by rw [zbp hj, if_neg e]
  rw [← this]
  exact List.getElem_mem _
 have cnt := fun M => zip c.U c.N M w.U
 have cin := zze hr c.U
 have cN : ((inOf (setU c.U (ldU c.N) w.U) c.N).length : Int) ≤ xp w.U[ix].kind := by
  have := cnt c.N
  rw [if_pos rfl] at this
  omega
 refine ⟨⟨⟨hh.1, ⟨hh.2.1.1, hh.2.1.2.1, by show (setU c.U (ldU c.N) w.U).length ≤ _; rw [hl]; exact hh.2.1.2.2⟩, hh.2.2⟩, zbo (g := ldU c.N) (fun _ => rfl) hr, fun v hv => ?_⟩, fun v hv h0 => ?_, fun v hv h0 => ?_⟩
 ·obtain ⟨j, hj, ⟨e, rfl⟩ | ⟨e, rfl⟩⟩ := back v hv
  ·have hu0 := hu _ (List.getElem_mem hj)
   exact ⟨⟨hu0.1.1, ⟨.inl rfl, .inl rfl, by show (0 : Int) ≤ 0 ∧ (0 : Int) < 8; decide⟩, ⟨by show (0 : Int) ≤ 0 ∧ (0 : Int) ≤ 4; decide, ⟨fun e => absurd (show (0 : Int) = 1 from e) (by decide), fun e => absurd rfl e⟩⟩, fun _ => ⟨rfl, rfl⟩⟩, hu0.2⟩
  ·exact hu _ (List.getElem_mem hj)
 ·obtain ⟨j, hj, ⟨e, rfl⟩ | ⟨e, rfl⟩⟩ := back v hv
  ·have h0 : c.N = 0 := h0
   omega
  ·refine zb0 (w := w) rfl rfl (fun x hx hx0 hxi => ?_) (hcc _ (List.getElem_mem hj) h0)
   obtain ⟨k, hk, ⟨e2, rfl⟩ | ⟨e2, rfl⟩⟩ := back x hx
   ·have hx0 : c.N = 0 := hx0
    omega
   ·exact ⟨_, List.getElem_mem hk, hx0, hxi, rfl, rfl⟩
 ·obtain ⟨j, hj, ⟨e, rfl⟩ | ⟨e, rfl⟩⟩ := back v hv
  ·obtain ⟨l1, l2, l3⟩ := ld j hj e
   refine ⟨w.U[ix], stay ix hix hxl, hidx, ⟨hinx, ?_⟩, cN, l3, rfl, rfl, rfl⟩
   show w.U[ix].owner = w.U[j].owner
   rw [hox, l1]
  ·obtain ⟨x, hx, g1, g2, g3, g4⟩ := hd _ (List.getElem_mem hj) h0
   obtain ⟨k, hk, rfl⟩ := List.getElem_of_mem hx
   have hne : 0 < (inOf w.U w.U[j].inn).length := List.length_pos_iff.2 (List.ne_nil_of_mem (zyz (List.getElem_mem hj)))
   have hkl : w.U[k].id ∉ c.U := fun e2 => by have := (ld k hk e2).2.2; omega
   refine ⟨w.U[k], stay k hk hkl, g1, g2, ?_, g4⟩
   show ((inOf (setU c.U (ldU c.N) w.U) w.U[j].inn).length : Int) ≤ _
   by_cases eN : w.U[j].inn = c.N
   ·rw [eN] at g1 ⊢
    have hki : w.U[k] = w.U[ix] := xa hr (List.getElem_mem hk) (List.getElem_mem hix) (by rw [g1, hidx])
    rw [hki]
    exact cN
   ·have := cnt w.U[j].inn
    rw [if_neg eN] at this
    omega
/-- Whatever is commanded: what may be stays so. -/
theorem yel {w : Wld} {c : Cmd} (h : doE aE w c = 0) : mayP (aW w c) := by
 obtain ⟨hm, hc, hp, he⟩ := zda h
 rcases zyx hc with k | k | k | k | k | k | k
 ·rw [(a1 k).1] at he
  rw [(a1 k).2]
  exact zqh hm hc hp k he
 ·rw [(a2 k).1] at he
  rw [(a2 k).2]
  exact zys hm he
 ·rw [(a3 k).1] at he
  rw [(a3 k).2]
  exact zyq hm he
 ·rw [(a4 k).1] at he
  rw [(a4 k).2]
  exact zqj hm hc hp k he
 ·rw [(a5 k).2]
  exact zyu hm
 ·rw [(a6 k).1] at he
  rw [(a6 k).2]
  exact zyt hm ((Cmd.ok6 k).1 hc.1).2.1 he
 ·rw [(a7 k).2]
  unfold ulW
  cases hu : unl c.T (inOf w.U c.N) w with
  | none => exact hm
  | some x => exact zqg _ _ _ hm hu
end Go.V
namespace Go.V
/-- What a command leaves. -/
def ydj (w x : Wld) : Prop := w.next ≤ x.next ∧ x.tick = w.tick ∧ x.G = w.G ∧ w.U.length ≤ x.U.length ∧ (∀ (k : Nat) (a b : Unt), w.U[k]? = some a → x.U[k]? = some b → a.id = b.id ∧ a.owner = b.owner ∧ a.kind = b.kind) ∧ ∀ (k : Nat) (b : Unt), w.U.length ≤ k → x.U[k]? = some b → w.next ≤ b.id
theorem zbb {w x : Wld} (h1 : w.next ≤ x.next) (h2 : x.tick = w.tick) (h3 : x.G = w.G) (h4 : x.U.length = w.U.length) (h5 : ∀ k, (hk : k < w.U.length) → w.U[k].id = (x.U[k]'(by omega)).id ∧ w.U[k].owner = (x.U[k]'(by omega)).owner ∧ w.U[k].kind = (x.U[k]'(by omega)).kind) : ydj w x := by
 refine ⟨h1, h2, h3, by omega, fun k a b ha hb => ?_, fun k b hk hb => ?_⟩
 ·obtain ⟨hk, rfl⟩ := List.getElem?_eq_some_iff.1 ha
  obtain ⟨hk2, rfl⟩ := List.getElem?_eq_some_iff.1 hb
  exact h5 k hk
 ·obtain ⟨hk2, _⟩ := List.getElem?_eq_some_iff.1 hb
  omega
theorem zhw {l : List Int} {g : Unt → Unt} (hg : ∀ u, u.id = (g u).id ∧ u.owner = (g u).owner ∧ u.kind = (g u).kind) {U : List Unt} {j : Nat} (hj : j < U.length) : U[j].id = ((setU l g U)[j]'(by rw [yj]; exact hj)).id ∧ U[j].owner = ((setU l g U)[j]'(by rw [yj]; exact hj)).owner ∧ U[j].kind = ((setU l g U)[j]'(by rw [yj]; exact hj)).kind := by
 rw [zbp hj]
 split
 ·exact hg _
 ·exact ⟨rfl, rfl, rfl⟩
theorem ydi {w : Wld} {c : Cmd} (h : doE aE w c = 0) : ydj w (aW w c) := by
 obtain ⟨hm, hc, hp, he⟩ := zda h
 rcases zyx hc with k | k | k | k | k | k | k
 ·rw [(a1 k).2]
  refine ⟨by show w.next ≤ w.next + 1; omega, rfl, rfl, by show _ ≤ (w.U ++ [spU w c]).length; rw [List.length_append]; omega, fun k a b ha hb => ?_, fun k b hk hb => ?_⟩
  ·obtain ⟨hk, rfl⟩ := List.getElem?_eq_some_iff.1 ha
   have hb : (w.U ++ [spU w c])[k]? = some b := hb
   rw [List.getElem?_append_left hk, ha] at hb
   have := Option.some.inj hb
   subst this
   exact ⟨rfl, rfl, rfl⟩
  ·have hb : (w.U ++ [spU w c])[k]? = some b := hb
   rw [List.getElem?_append_right hk] at hb
   have hm2 := List.mem_of_getElem? hb
   rw [List.mem_singleton] at hm2
   subst hm2
   exact Int.le_refl _
 ·rw [(a2 k).2]
  exact zbb (Int.le_refl _) rfl rfl (qg _ _ _) fun j hj => by
   obtain ⟨e1, e2, e3, _⟩ := za8 (za7 w c c.U.length j hj)
   exact ⟨e1.symm, e2.symm, e3.symm⟩
 ·rw [(a3 k).2]
  exact zbb (Int.le_refl _) rfl rfl (yj _ _ _) fun j hj => zhw (g := rstU) (fun _ => ⟨rfl, rfl, rfl⟩) hj
 ·rw [(a4 k).2]
  exact zbb (by show w.next ≤ w.next + 1; omega) rfl rfl rfl fun j hj => ⟨rfl, rfl, rfl⟩
 ·rw [(a5 k).2]
  obtain ⟨e1, e2, e3, e4, e5, _⟩ := zi8 w c
  refine ⟨by rw [e3]; exact Int.le_refl _, e1, e4, by rw [e5]; exact Nat.le_refl _, fun k a b ha hb => ?_, fun k b hk hb => ?_⟩
  ·rw [e5, ha] at hb
   have := Option.some.inj hb
   subst this
   exact ⟨rfl, rfl, rfl⟩
  ·rw [e5] at hb
   obtain ⟨hk2, _⟩ := List.getElem?_eq_some_iff.1 hb
   omega
 ·rw [(a6 k).2]
  exact zbb (Int.le_refl _) rfl rfl (yj _ _ _) fun j hj => zhw (g := ldU c.N) (fun _ => ⟨rfl, rfl, rfl⟩) hj
 ·rw [(a7 k).2]
  obtain ⟨e1, e2, e3, e4, e5, e6, e7⟩ := zdh (c := c) hm.1.2.1
  exact zbb (by rw [e3]; exact Int.le_refl _) e1 e4 e6 fun j hj => by
   obtain ⟨f1, f2, f3, _⟩ := e7 j hj
   exact ⟨f1.symm, f2.symm, f3.symm⟩
end Go.V
