/- Ground of laws of thronglaw24: contracts and plain lemmas; no condition beyond the row's own. -/
import Derived.Test.YthjfdaifoocijaaGreatKE
set_option linter.unusedSimpArgs false
set_option linter.unusedVariables false
namespace Go.V
def onG (g : Gnd) (x y : Int) : Prop := (0 <= x /\ x < g.W) /\ (0 <= y /\ y < g.H)
instance (g : Gnd) (x y : Int) : Decidable (onG g x y) := inferInstanceAs (Decidable (_ /\ _))
def tl (g : Gnd) (x y : Int) : Nat := (x + g.W * y).toNat
theorem wz {g : Gnd} (hg : zl g) {x y : Int} (h : onG g x y) : ((tl g x y : Nat) : Int) = x + g.W * y /\ tl g x y < g.T.length /\ (tl g x y : Int) % g.W = x /\ (tl g x y : Int) / g.W = y := by
 obtain ⟨h1, h2, h3⟩ := y9 hg
 obtain ⟨⟨hx, hx2⟩, hy, hy2⟩ := h
 have hW : 1 <= g.W := hg.1.1
 have e0 : 0 <= g.W * y := Int.mul_nonneg (by omega) hy
 have e : ((tl g x y : Nat) : Int) = x + g.W * y := by unfold tl; omega
 have e1 : g.W * y <= g.W * (g.H - 1) := Int.mul_le_mul (Int.le_refl _) (by omega) hy (by omega)
 rw [Int.mul_sub, Int.mul_one] at e1
 refine ⟨e, by omega, ?_, ?_⟩
 ·rw [e, Int.add_mul_emod_self_left, Int.emod_eq_of_lt hx hx2]
 ·rw [e, Int.add_mul_ediv_left _ _ (by omega), Int.ediv_eq_zero_of_lt hx hx2, Int.zero_add]
theorem znu {g : Gnd} (hg : zl g) {t : Nat} (ht : t < g.T.length) : onG g ((t : Int) % g.W) ((t : Int) / g.W) /\ tl g ((t : Int) % g.W) ((t : Int) / g.W) = t := by
 obtain ⟨h1, h2, h3⟩ := y9 hg
 have hW : 1 <= g.W := hg.1.1
 have a := Int.emod_nonneg (t : Int) (show g.W ≠ 0 by omega)
 have b := Int.emod_lt_of_pos (t : Int) (show 0 < g.W by omega)
 have c := Int.ediv_nonneg (show 0 <= (t : Int) by omega) (show 0 <= g.W by omega)
 have d : (t : Int) / g.W < g.H := Int.ediv_lt_of_lt_mul (by omega) (by rw [Int.mul_comm]; omega)
 refine ⟨⟨⟨a, b⟩, c, d⟩, ?_⟩
 unfold tl
 rw [Int.emod_add_mul_ediv]
 omega
/-- All tiles of a square are good. -/
def sqP (g : Gnd) (f : Nat -> Bool) (s : Nat) (x y : Int) : Prop := ∀ a b : Int, -(s : Int) <= a -> a <= s -> -(s : Int) <= b -> b <= s -> onG g (x + a) (y + b) /\ f (tl g (x + a) (y + b)) = true
theorem sq_zero {g : Gnd} {f : Nat -> Bool} {x y : Int} : sqP g f 0 x y ↔ onG g x y /\ f (tl g x y) = true := by
 constructor
 ·intro h
  have := h 0 0 (by decide) (by decide) (by decide) (by decide)
  simpa using this
 ·intro h a b h1 h2 h3 h4
  have ea : a = 0 := by omega
  have eb : b = 0 := by omega
  subst ea eb
  simpa using h
theorem sq_succ {g : Gnd} {f : Nat -> Bool} {s : Nat} {x y : Int} : sqP g f (s + 1) x y ↔ ∀ a b : Int, -1 <= a -> a <= 1 -> -1 <= b -> b <= 1 -> onG g (x + a) (y + b) /\ sqP g f s (x + a) (y + b) := by
 constructor
 ·intro h a b h1 h2 h3 h4
  refine ⟨(h a b (by omega) (by omega) (by omega) (by omega)).1, fun a' b' k1 k2 k3 k4 => ?_⟩
  have := h (a + a') (b + b') (by omega) (by omega) (by omega) (by omega)
  rw [<- Int.add_assoc, <- Int.add_assoc] at this
  exact this
 ·intro h a b h1 h2 h3 h4
  obtain ⟨a1, ha1, ha2, ha3, ha4⟩ : ∃ a1 : Int, -1 <= a1 /\ a1 <= 1 /\ -(s : Int) <= a - a1 /\ a - a1 <= s := by
   by_cases c1 : a > s
   ·exact ⟨1, by omega, by omega, by omega, by omega⟩
   ·by_cases c2 : a < -s
    ·exact ⟨-1, by omega, by omega, by omega, by omega⟩
    ·exact ⟨0, by omega, by omega, by omega, by omega⟩
  obtain ⟨b1, hb1, hb2, hb3, hb4⟩ : ∃ b1 : Int, -1 <= b1 /\ b1 <= 1 /\ -(s : Int) <= b - b1 /\ b - b1 <= s := by
   by_cases c1 : b > s
   ·exact ⟨1, by omega, by omega, by omega, by omega⟩
   ·by_cases c2 : b < -s
    ·exact ⟨-1, by omega, by omega, by omega, by omega⟩
    ·exact ⟨0, by omega, by omega, by omega, by omega⟩
  have := (h a1 b1 ha1 ha2 hb1 hb2).2 (a - a1) (b - b1) ha3 ha4 hb3 hb4
  rw [show x + a1 + (a - a1) = x + a by omega, show y + b1 + (b - b1) = y + b by omega] at this
  exact this
theorem Sq {g : Gnd} {f : Nat -> Bool} {s s' : Nat} (hs : s' <= s) {x y : Int} (h : sqP g f s x y) : sqP g f s' x y := fun a b h1 h2 h3 h4 => h a b (by omega) (by omega) (by omega) (by omega)
def m5 (a b c d e : Int) : Int := min (min (min (min a (b + 1)) (c + 1)) (d + 1)) (e + 1)
/-- Two sweeps tell how far it is to what is not good. -/
theorem ztj {g : Gnd} {f : Nat -> Bool} {A B : Int -> Int -> Int} (oA : ∀ x y, ¬ onG g x y -> A x y = 0) (oB : ∀ x y, ¬ onG g x y -> B x y = 0)
  (hA : ∀ x y, onG g x y -> A x y = m5 (if f (tl g x y) then 128 else 0) (A (x - 1) y) (A (x - 1) (y - 1)) (A x (y - 1)) (A (x + 1) (y - 1)))
  (hB : ∀ x y, onG g x y -> B x y = m5 (A x y) (B (x + 1) y) (B (x + 1) (y + 1)) (B x (y + 1)) (B (x - 1) (y + 1))) {x y : Int} (hxy : onG g x y) (s : Nat) (hs : s <= 127) : (s : Int) < B x y ↔ sqP g f s x y := by
 -- not below 0
 have nA : ∀ n : Nat, ∀ x y, onG g x y -> y * 200 + x < n -> 0 <= A x y := by
  intro n
  induction n with
  | zero => intro x y h hn; obtain ⟨⟨h1, h2⟩, h3, h4⟩ := h; omega
  | succ n ih =>
   intro x y h hn
   have any : ∀ x' y', y' * 200 + x' < y * 200 + x -> 0 <= A x' y' := fun x' y' hl => by
    by_cases ho : onG g x' y'
    ·exact ih x' y' ho (by omega)
    ·rw [oA x' y' ho]; decide
   rw [hA x y h]
   have a1 := any (x - 1) y (by omega)
   have a2 := any (x - 1) (y - 1) (by omega)
   have a3 := any x (y - 1) (by omega)
   have a4 := any (x + 1) (y - 1) (by omega)
   have a5 : (0 : Int) <= (if f (tl g x y) then 128 else 0) := by split <;> decide
   unfold m5
   omega
 have pA : ∀ x y, 0 <= A x y := fun x y => by
  by_cases ho : onG g x y
  ·exact nA (y * 200 + x + 1).toNat x y ho (by obtain ⟨⟨h1, h2⟩, h3, h4⟩ := ho; omega)
  ·rw [oA x y ho]; decide
 have nB : ∀ n : Nat, ∀ x y, onG g x y -> (g.H - y) * 200 + (g.W - x) < n -> 0 <= B x y := by
  intro n
  induction n with
  | zero => intro x y h hn; obtain ⟨⟨h1, h2⟩, h3, h4⟩ := h; omega
  | succ n ih =>
   intro x y h hn
   have any : ∀ x' y', (g.H - y') * 200 + (g.W - x') < (g.H - y) * 200 + (g.W - x) -> 0 <= B x' y' := fun x' y' hl => by
    by_cases ho : onG g x' y'
    ·exact ih x' y' ho (by omega)
    ·rw [oB x' y' ho]; decide
   rw [hB x y h]
   have a1 := any (x + 1) y (by omega)
   have a2 := any (x + 1) (y + 1) (by omega)
   have a3 := any x (y + 1) (by omega)
   have a4 := any (x - 1) (y + 1) (by omega)
   have a5 := pA x y
   unfold m5
   omega
 have pB : ∀ x y, 0 <= B x y := fun x y => by
  by_cases ho : onG g x y
  ·exact nB ((g.H - y) * 200 + (g.W - x) + 1).toNat x y ho (by obtain ⟨⟨h1, h2⟩, h3, h4⟩ := ho; omega)
  ·rw [oB x y ho]; decide
 constructor
 ·-- what is bad is not farther than its steps
  have up1 : ∀ d : Nat, ∀ x y a b, onG g x y -> -(d : Int) <= a -> a <= d -> -(d : Int) <= b -> b <= 0 -> a <= -b -> ¬ (onG g (x + a) (y + b) /\ f (tl g (x + a) (y + b)) = true) -> A x y <= d := by
   intro d
   induction d with
   | zero =>
    intro x y a b h h1 h2 h3 h4 h5 hbad
    have ea : a = 0 := by omega
    have eb : b = 0 := by omega
    subst ea eb
    rw [Int.add_zero, Int.add_zero] at hbad
    have hf : ¬ f (tl g x y) = true := fun hf => hbad ⟨h, hf⟩
    rw [hA x y h, if_neg hf]
    unfold m5
    omega
   | succ d ih =>
    intro x y a b h h1 h2 h3 h4 h5 hbad
    have go : ∀ u v : Int, -(d : Int) <= a - u -> a - u <= d -> -(d : Int) <= b - v -> b - v <= 0 -> a - u <= -(b - v) -> A (x + u) (y + v) <= d := fun u v g1 g2 g3 g4 g5 => by
     by_cases ho : onG g (x + u) (y + v)
     ·refine ih (x + u) (y + v) (a - u) (b - v) ho g1 g2 g3 g4 g5 ?_
      rw [show x + u + (a - u) = x + a by omega, show y + v + (b - v) = y + b by omega]
      exact hbad
     ·rw [oA _ _ ho]; omega
    have hk := hA x y h
    unfold m5 at hk
    by_cases cb : b = 0
    ·by_cases ca : a = 0
     ·subst ca cb
      rw [Int.add_zero, Int.add_zero] at hbad
      have hf : ¬ f (tl g x y) = true := fun hf => hbad ⟨h, hf⟩
      rw [if_neg hf] at hk
      omega
     ·have := go (-1) 0 (by omega) (by omega) (by omega) (by omega) (by omega)
      rw [show x + -1 = x - 1 by omega, Int.add_zero] at this
      omega
    ·by_cases ca : a = 0
     ·have := go 0 (-1) (by omega) (by omega) (by omega) (by omega) (by omega)
      rw [show y + -1 = y - 1 by omega, Int.add_zero] at this
      omega
     ·by_cases ca2 : a < 0
      ·have := go (-1) (-1) (by omega) (by omega) (by omega) (by omega) (by omega)
       rw [show y + -1 = y - 1 by omega, show x + -1 = x - 1 by omega] at this
       omega
      ·have := go 1 (-1) (by omega) (by omega) (by omega) (by omega) (by omega)
       rw [show y + -1 = y - 1 by omega] at this
       omega
  have up2 : ∀ d : Nat, ∀ x y a b, onG g x y -> -(d : Int) <= a -> a <= d -> -(d : Int) <= b -> b <= d -> ¬ (onG g (x + a) (y + b) /\ f (tl g (x + a) (y + b)) = true) -> B x y <= d := by
   intro d
   induction d with
   | zero =>
    intro x y a b h h1 h2 h3 h4 hbad
    have := up1 0 x y a b h h1 h2 h3 (by omega) (by omega) hbad
    have hk := hB x y h
    unfold m5 at hk
    omega
   | succ d ih =>
    intro x y a b h h1 h2 h3 h4 hbad
    have hk := hB x y h
    unfold m5 at hk
    by_cases cone : b <= 0 /\ a <= -b
    ·have := up1 (d + 1) x y a b h h1 h2 h3 cone.1 cone.2 hbad
     omega
    have go : ∀ u v : Int, -(d : Int) <= a - u -> a - u <= d -> -(d : Int) <= b - v -> b - v <= d -> B (x + u) (y + v) <= d := fun u v g1 g2 g3 g4 => by
     by_cases ho : onG g (x + u) (y + v)
     ·refine ih (x + u) (y + v) (a - u) (b - v) ho g1 g2 g3 g4 ?_
      rw [show x + u + (a - u) = x + a by omega, show y + v + (b - v) = y + b by omega]
      exact hbad
     ·rw [oB _ _ ho]; omega
    by_cases cb : b <= 0
    ·have := go 1 0 (by omega) (by omega) (by omega) (by omega)
     rw [Int.add_zero] at this
     omega
    ·by_cases ca : a = 0
     ·have := go 0 1 (by omega) (by omega) (by omega) (by omega)
      rw [Int.add_zero] at this
      omega
     ·by_cases ca2 : a < 0
      ·have := go (-1) 1 (by omega) (by omega) (by omega) (by omega)
       rw [show x + -1 = x - 1 by omega] at this
       omega
      ·have := go 1 1 (by omega) (by omega) (by omega) (by omega)
       omega
  intro hlt a b h1 h2 h3 h4
  refine Classical.byContradiction fun hbad => ?_
  have := up2 s x y a b hxy h1 h2 h3 h4 hbad
  omega
 ·-- what is good all about is far
  have loA : ∀ s : Nat, s <= 127 -> ∀ x y, sqP g f s x y -> (s : Int) < A x y := by
   intro s
   induction s with
   | zero =>
    intro _ x y h
    obtain ⟨ho, hf⟩ := sq_zero.1 h
    rw [hA x y ho, if_pos hf]
    have a1 := pA (x - 1) y
    have a2 := pA (x - 1) (y - 1)
    have a3 := pA x (y - 1)
    have a4 := pA (x + 1) (y - 1)
    unfold m5
    omega
   | succ s ih =>
    intro hs x y h
    have h2 := sq_succ.1 h
    have nb := fun (a b : Int) h3 h4 h5 h6 => ih (by omega) _ _ (h2 a b h3 h4 h5 h6).2
    obtain ⟨ho, hf⟩ := sq_zero.1 (Sq (Nat.zero_le _) h)
    have a1 := nb (-1) 0 (by decide) (by decide) (by decide) (by decide)
    have a2 := nb (-1) (-1) (by decide) (by decide) (by decide) (by decide)
    have a3 := nb 0 (-1) (by decide) (by decide) (by decide) (by decide)
    have a4 := nb 1 (-1) (by decide) (by decide) (by decide) (by decide)
    rw [show x + -1 = x - 1 by omega] at a1 a2
    rw [show y + -1 = y - 1 by omega] at a2 a3 a4
    rw [Int.add_zero] at a1 a3
    rw [hA x y ho, if_pos hf]
    unfold m5
    omega
  have loB : ∀ s : Nat, s <= 127 -> ∀ x y, sqP g f s x y -> (s : Int) < B x y := by
   intro s
   induction s with
   | zero =>
    intro hs x y h
    obtain ⟨ho, hf⟩ := sq_zero.1 h
    rw [hB x y ho]
    have a1 := pB (x + 1) y
    have a2 := pB (x + 1) (y + 1)
    have a3 := pB x (y + 1)
    have a4 := pB (x - 1) (y + 1)
    have a5 := loA 0 hs x y h
    unfold m5
    omega
   | succ s ih =>
    intro hs x y h
    have h2 := sq_succ.1 h
    have nb := fun (a b : Int) h3 h4 h5 h6 => ih (by omega) _ _ (h2 a b h3 h4 h5 h6).2
    obtain ⟨ho, hf⟩ := sq_zero.1 (Sq (Nat.zero_le _) h)
    have a1 := nb 1 0 (by decide) (by decide) (by decide) (by decide)
    have a2 := nb 1 1 (by decide) (by decide) (by decide) (by decide)
    have a3 := nb 0 1 (by decide) (by decide) (by decide) (by decide)
    have a4 := nb (-1) 1 (by decide) (by decide) (by decide) (by decide)
    rw [show x + -1 = x - 1 by omega] at a4
    rw [Int.add_zero] at a1 a3
    have a5 := loA (s + 1) hs x y h
    rw [hB x y ho]
    unfold m5
    omega
  exact loB s hs x y
/-- How far by rows and columns. -/
def zu1 (i j : Int) : Int := max (max i (-i)) (max j (-j))
/-- A tile at just this way from a place, by steps of k. -/
def zlz (g : Gnd) (x y k d : Int) (t : Nat) : Bool := decide (zu1 ((t : Int) % g.W - x) ((t : Int) / g.W - y) = d /\ ((t : Int) % g.W - x).tmod k = 0 /\ ((t : Int) / g.W - y).tmod k = 0)
def zly (g : Gnd) (x y k d : Int) : List Nat := (List.range g.T.length).filter (zlz g x y k d)
/-- Places about a goal: all that are less than d away, by ways. -/
def zim (g : Gnd) (f : Nat -> Bool) (x y k d : Int) : List Nat := (zly g x y k d).filter f
def Sz (g : Gnd) (f : Nat -> Bool) (x y k : Int) : Nat -> List Nat
 | 0 => []
 | d + 1 => Sz g f x y k d ++ zim g f x y k d
/-- Places about a goal. -/
def zil (g : Gnd) (f : Nat -> Bool) (size goal : Int) (n : Nat) : List Nat := (Sz g f (goal % g.W) (goal / g.W) (2 * size + 1) (g.W + g.H + 1).toNat).take n
/-- Cells of whole numbers. -/
def il (n : Nat) (f : Nat -> Int) : List AV := (List.range n).map fun t => int (f t)
theorem qc (n : Nat) (f : Nat -> Int) : (il n f).length = n := by simp [il]
theorem wk {n : Nat} {f : Nat -> Int} {t : Nat} (h : t < n) : (il n f)[t]? = some (int (f t)) := by simp [il, h]
theorem kr {n : Nat} {f : Nat -> Int} {t : Nat} (h : t < n) : ((il n f).drop (0 + t * 1)).head? = some (int (f t)) := by
 rw [List.head?_drop, show 0 + t * 1 = t by omega, wk h]
theorem fb {n : Nat} {f : Nat -> Bool} {t : Nat} (h : t < n) : ((bl n f).drop (0 + t * 1)).head? = some (bool (f t)) := by
 rw [List.head?_drop, show 0 + t * 1 = t by omega, Ao h]
theorem bj (n : Nat) : List.replicate n (AV.s (.int .i64 0)) = il n fun _ => 0 := by
 unfold il
 rw [List.map_const', List.length_range]
 rfl
def setI (f : Nat -> Int) (t : Nat) (v : Int) : Nat -> Int := fun s => if s = t then v else f s
theorem G8 (f : Nat -> Int) (t : Nat) (v : Int) : setI f t v t = v := if_pos rfl
theorem Fj (f : Nat -> Int) {t s : Nat} (v : Int) (h : s ≠ t) : setI f t v s = f s := if_neg h
theorem zit (f : Nat -> Int) (t : Nat) : setI f t (f t) = f := funext fun s => by
 unfold setI
 split
 ·rename_i h; rw [h]
 ·rfl
theorem Na (f : Nat -> Int) (t : Nat) (v u : Int) : setI (setI f t v) t u = setI f t u := funext fun s => by
 unfold setI
 split <;> simp_all
theorem bk {n : Nat} {f : Nat -> Int} {t : Nat} (h : t < n) (g : Nat -> Int) (hg : ∀ s, s ≠ t -> g s = f s) : zy (il n f) t [int (g t)] = il n g := by
 unfold zy
 apply List.ext_getElem?
 intro s
 by_cases h1 : s < t
 ·rw [List.append_assoc, List.getElem?_append_left (by rw [List.length_take, qc]; omega), List.getElem?_take_of_lt h1, wk (by omega), wk (by omega), hg s (by omega)]
 ·by_cases h2 : s = t
  ·subst h2
   rw [List.append_assoc, List.getElem?_append_right (by rw [List.length_take, qc]; omega), List.length_take, qc, show s - min s n = 0 by omega, wk h]
   rfl
  ·rw [List.getElem?_append_right (by rw [List.length_append, List.length_take, qc]; simp; omega), List.length_append, List.length_take, qc, List.getElem?_drop]
   by_cases h3 : s < n
   ·have e : t + [int (g t)].length + (s - (min t n + [int (g t)].length)) = s := by simp; omega
    rw [e, wk h3, wk h3, hg s h2]
   ·rw [List.getElem?_eq_none (by rw [qc]; simp; omega), List.getElem?_eq_none (by rw [qc]; omega)]
theorem Ck {n : Nat} {f : Nat -> Int} {t : Nat} (h : t < n) (v : Int) : zy (il n f) t [int v] = il n (setI f t v) := by
 have := bk h (setI f t v) (fun s hs => Fj f v hs)
 rw [G8] at this
 exact this
def ilL (n : Nat) (f : Nat -> Int) : List Int := (List.range n).map f
theorem Kp (n : Nat) (f : Nat -> Int) : (ilL n f).length = n := by simp [ilL]
theorem zpr {n : Nat} {f : Nat -> Int} {t : Nat} (h : t < n) : (ilL n f)[t]'(by rw [Kp]; exact h) = f t := by simp [ilL]
theorem zpp (n : Nat) (f : Nat -> Int) : (rws qn (ilL n f)).flatten = il n f := by
 unfold rws ilL il
 rw [List.map_map]
 generalize List.range n = l
 induction l with
 | nil => rfl
 | cons a l ih => simp only [List.map_cons, List.flatten_cons, ih]; rfl
theorem Hr {n : Nat} {f g : Nat -> Int} (h : ∀ t, t < n -> f t = g t) : il n f = il n g := List.map_congr_left fun t ht => by rw [h t (List.mem_range.1 ht)]
theorem zt2 {n : Nat} {f g : Nat -> Bool} (h : ∀ t, t < n -> f t = g t) : bl n f = bl n g := List.map_congr_left fun t ht => by rw [h t (List.mem_range.1 ht)]
/-- What a place reads as: nothing is there, or its number. -/
def gv (g : Gnd) (f : Nat -> Int) (x y : Int) : Int := if onG g x y then f (tl g x y) else 0
def jf (g : Gnd) (f : Nat -> Int) (x y : Int) (v : Int) (ws : List (Int × Int)) : Int := ws.foldl (fun v d => min v (gv g f (x + d.1) (y + d.2) + 1)) v
theorem bp {g : Gnd} (hg : zl g) {f : Nat -> Int} (hf : ∀ t, t < g.T.length -> 0 <= f t /\ f t <= 128) (x y : Int) : 0 <= gv g f x y /\ gv g f x y <= 128 := by
 unfold gv
 split
 ·rename_i h; exact hf _ (wz hg h).2.1
 ·omega
theorem Nv {g : Gnd} (hg : zl g) {f : Nat -> Int} (hf : ∀ t, t < g.T.length -> 0 <= f t /\ f t <= 128) (x y : Int) : ∀ (ws : List (Int × Int)) (v : Int), 0 <= v /\ v <= 128 -> 0 <= jf g f x y v ws /\ jf g f x y v ws <= 128
 | [], v, hv => hv
 | d :: r, v, hv => by
  have := bp hg hf (x + d.1) (y + d.2)
  exact Nv hg hf x y r (min v (gv g f (x + d.1) (y + d.2) + 1)) (by omega)
theorem zna (g : Gnd) (f : Nat -> Int) (x y v : Int) (ws : List (Int × Int)) {i : Nat} (hi : i < ws.length) : jf g f x y v (ws.take (i + 1)) = min (jf g f x y v (ws.take i)) (gv g f (x + ws[i].1) (y + ws[i].2) + 1) := by
 unfold jf
 rw [List.take_succ_eq_append_getElem hi, List.foldl_append]
 rfl
theorem ziu {n : Nat} {f : Nat -> Int} (hf : ∀ t, t < n -> 0 <= f t /\ f t <= 128) {t : Nat} {v : Int} (hv : 0 <= v /\ v <= 128) : ∀ s, s < n -> 0 <= setI f t v s /\ setI f t v s <= 128 := fun s hs => by
 unfold setI
 split
 ·exact hv
 ·exact hf s hs
/-- Another place is not touched. -/
theorem zp2 {g : Gnd} (hg : zl g) (f : Nat -> Int) {t : Nat} (v : Int) {dx dy : Int} (hd : dx ≠ 0 \/ dy ≠ 0) : gv g (setI f t v) ((t : Int) % g.W + dx) ((t : Int) / g.W + dy) = gv g f ((t : Int) % g.W + dx) ((t : Int) / g.W + dy) := by
 unfold gv
 split
 ·rename_i h
  obtain ⟨_, _, h3, h4⟩ := wz hg h
  refine Fj f v fun e => ?_
  rw [e] at h3 h4
  omega
 ·rfl
def F7 : List (Int × Int) := [(-1, 0), (-1, -1), (0, -1), (1, -1)]
def D1 : List (Int × Int) := [(1, 0), (1, 1), (0, 1), (-1, 1)]
def Cx (d : Int × Int) : List AV := [int d.1, int d.2]
def Fe (g : Gnd) (f : Nat -> Int) (ws : List (Int × Int)) (t : Nat) : Nat -> Int := setI f t (jf g f ((t : Int) % g.W) ((t : Int) / g.W) (f t) ws)
def jb (g : Gnd) (f : Nat -> Int) : Nat -> Nat -> Int
 | 0 => f
 | i + 1 => Fe g (jb g f i) F7 i
def ko (g : Gnd) (f : Nat -> Int) (n : Nat) : Nat -> Nat -> Int
 | 0 => f
 | j + 1 => Fe g (ko g f n j) D1 (n - 1 - j)
theorem Sg {g : Gnd} (hg : zl g) {f : Nat -> Int} (hf : ∀ t, t < g.T.length -> 0 <= f t /\ f t <= 128) {ws : List (Int × Int)} {t : Nat} (ht : t < g.T.length) : ∀ s, s < g.T.length -> 0 <= Fe g f ws t s /\ Fe g f ws t s <= 128 :=
 ziu hf (Nv hg hf _ _ _ _ (hf t ht))
theorem My {g : Gnd} (hg : zl g) {f : Nat -> Int} (hf : ∀ t, t < g.T.length -> 0 <= f t /\ f t <= 128) : ∀ i, i <= g.T.length -> ∀ s, s < g.T.length -> 0 <= jb g f i s /\ jb g f i s <= 128
 | 0, _ => hf
 | i + 1, hi => Sg hg (My hg hf i (by omega)) (by omega)
theorem Si {g : Gnd} (hg : zl g) {f : Nat -> Int} (hf : ∀ t, t < g.T.length -> 0 <= f t /\ f t <= 128) : ∀ i, i <= g.T.length -> ∀ s, s < g.T.length -> 0 <= ko g f g.T.length i s /\ ko g f g.T.length i s <= 128
 | 0, _ => hf
 | i + 1, hi => Sg hg (Si hg hf i (by omega)) (by omega)
theorem Sj (g : Gnd) (f : Nat -> Int) : ∀ i s, i <= s -> jb g f i s = f s
 | 0, _, _ => rfl
 | i + 1, s, h => by
  show setI _ i _ s = _
  rw [Fj _ _ (by omega), Sj g f i s (by omega)]
theorem Iu (g : Gnd) (f : Nat -> Int) : ∀ i s, s < i -> jb g f i s = jb g f (s + 1) s
 | 0, _, h => absurd h (Nat.not_lt_zero _)
 | i + 1, s, h => by
  by_cases e : s = i
  ·subst e; rfl
  ·show setI _ i _ s = _
   rw [Fj _ _ e, Iu g f i s (by omega)]
theorem Sh (g : Gnd) (f : Nat -> Int) (n : Nat) : ∀ j s, s + j < n -> ko g f n j s = f s
 | 0, _, _ => rfl
 | j + 1, s, h => by
  show setI _ (n - 1 - j) _ s = _
  rw [Fj _ _ (by omega), Sh g f n j s (by omega)]
theorem Ir (g : Gnd) (f : Nat -> Int) (n : Nat) : ∀ j s, s < n -> j <= n -> n <= s + j -> ko g f n j s = ko g f n (n - 1 - s + 1) s
 | 0, s, h, _, h2 => absurd h2 (by omega)
 | j + 1, s, h, h1, h2 => by
  by_cases e : s = n - 1 - j
  ·have : j + 1 = n - 1 - s + 1 := by omega
   rw [this]
  ·show setI _ (n - 1 - j) _ s = _
   rw [Fj _ _ e, Ir g f n j s h (by omega) (by omega)]
theorem znc (g : Gnd) (f : Nat -> Int) (x y v : Int) : jf g f x y v F7 = m5 v (gv g f (x - 1) y) (gv g f (x - 1) (y - 1)) (gv g f x (y - 1)) (gv g f (x + 1) (y - 1)) := by
 unfold jf F7 m5
 simp only [List.foldl_cons, List.foldl_nil, Int.add_zero, <- Int.sub_eq_add_neg]
theorem znb (g : Gnd) (f : Nat -> Int) (x y v : Int) : jf g f x y v D1 = m5 v (gv g f (x + 1) y) (gv g f (x + 1) (y + 1)) (gv g f x (y + 1)) (gv g f (x - 1) (y + 1)) := by
 unfold jf D1 m5
 simp only [List.foldl_cons, List.foldl_nil, Int.add_zero, <- Int.sub_eq_add_neg]
/-- How much room there is. -/
def wg (g : Gnd) (o : Nat -> Bool) : Nat -> Int := ko g (jb g (fun t => if o t then 128 else 0) g.T.length) g.T.length g.T.length
theorem zls {g : Gnd} (hg : zl g) (o : Nat -> Bool) {t : Nat} (ht : t < g.T.length) (s : Nat) (hs : s <= 127) : (s : Int) < wg g o t ↔ sqP g o s ((t : Int) % g.W) ((t : Int) / g.W) := by
 have hW : 1 <= g.W := hg.1.1
 obtain ⟨ho, he⟩ := znu hg ht
 have key := ztj (g := g) (f := o) (A := gv g (jb g (fun t => if o t then 128 else 0) g.T.length)) (B := gv g (wg g o))
  (fun x y h => if_neg h) (fun x y h => if_neg h) (fun x y h => ?_) (fun x y h => ?_) ho s hs
 ·rw [<- key]
  unfold gv
  rw [if_pos ho, he]
 ·obtain ⟨e1, e2, e3, e4⟩ := wz hg h
  have nb : ∀ dx dy : Int, (dy = -1 \/ dy = 0 /\ dx = -1) -> dx <= 1 -> gv g (jb g (fun t => if o t then 128 else 0) (tl g x y)) (x + dx) (y + dy) = gv g (jb g (fun t => if o t then 128 else 0) g.T.length) (x + dx) (y + dy) := fun dx dy hd hx => by
   unfold gv
   split
   ·rename_i h2
    obtain ⟨f1, f2, f3, f4⟩ := wz hg h2
    have hlt : tl g (x + dx) (y + dy) < tl g x y := by
     have hb := h.1
     have hb2 := h2.1
     rcases hd with rfl | ⟨rfl, rfl⟩
     ·have : g.W * (y + -1) = g.W * y - g.W := by rw [Int.mul_add]; omega
      rw [this] at f1
      have hne : (tl g (x + dx) (y + -1) : Int) ≠ tl g x y := fun e => by
       rw [e, e4] at f4
       omega
      omega
     ·rw [Int.add_zero] at f1 ⊢
      omega
    rw [Iu g _ _ _ hlt, Iu g _ _ _ f2]
   ·rfl
  have h1 : gv g (jb g (fun t => if o t then 128 else 0) g.T.length) x y = jf g (jb g (fun t => if o t then 128 else 0) (tl g x y)) x y (if o (tl g x y) then 128 else 0) F7 := by
   unfold gv
   rw [if_pos h, Iu g _ _ _ e2]
   show setI _ _ _ _ = _
   rw [G8, e3, e4, Sj g _ _ _ (Nat.le_refl _)]
  rw [h1, znc]
  have n1 := nb (-1) 0 (by omega) (by decide)
  have n2 := nb (-1) (-1) (by omega) (by decide)
  have n3 := nb 0 (-1) (by omega) (by decide)
  have n4 := nb 1 (-1) (by omega) (by decide)
  rw [Int.add_zero] at n1 n3
  rw [<- Int.sub_eq_add_neg] at n1 n2 n3 n4
  rw [<- Int.sub_eq_add_neg] at n2
  rw [n1, n2, n3, n4]
 ·obtain ⟨e1, e2, e3, e4⟩ := wz hg h
  have hj : g.T.length - 1 - (g.T.length - 1 - tl g x y) = tl g x y := by omega
  unfold wg
  generalize hF : jb g (fun t => if o t then 128 else 0) g.T.length = F
  have nb : ∀ dx dy : Int, (dy = 1 \/ dy = 0 /\ dx = 1) -> -1 <= dx -> gv g (ko g F g.T.length (g.T.length - 1 - tl g x y)) (x + dx) (y + dy) = gv g (ko g F g.T.length g.T.length) (x + dx) (y + dy) := fun dx dy hd hx => by
   unfold gv
   split
   ·rename_i h2
    obtain ⟨f1, f2, f3, f4⟩ := wz hg h2
    have hlt : tl g x y < tl g (x + dx) (y + dy) := by
     have hb := h.1
     have hb2 := h2.1
     rcases hd with rfl | ⟨rfl, rfl⟩
     ·have : g.W * (y + 1) = g.W * y + g.W := by rw [Int.mul_add]; omega
      rw [this] at f1
      have hne : (tl g (x + dx) (y + 1) : Int) ≠ tl g x y := fun e => by
       rw [e, e4] at f4
       omega
      omega
     ·rw [Int.add_zero] at f1 ⊢
      omega
    rw [Ir g _ _ _ _ f2 (by omega) (by omega), Ir g _ _ _ _ f2 (Nat.le_refl _) (by omega)]
   ·rfl
  have h1 : gv g (ko g F g.T.length g.T.length) x y = jf g (ko g F g.T.length (g.T.length - 1 - tl g x y)) x y (gv g F x y) D1 := by
   unfold gv
   rw [if_pos h, if_pos h, Ir g _ _ _ _ e2 (Nat.le_refl _) (by omega)]
   show setI _ _ _ _ = _
   rw [hj, G8, e3, e4, Sh g _ _ _ _ (by omega)]
  rw [h1, znb]
  have n1 := nb 1 0 (by omega) (by decide)
  have n2 := nb 1 1 (by omega) (by decide)
  have n3 := nb 0 1 (by omega) (by decide)
  have n4 := nb (-1) 1 (by omega) (by decide)
  rw [Int.add_zero] at n1 n3
  rw [<- Int.sub_eq_add_neg] at n4
  rw [n1, n2, n3, n4]
def sqB (g : Gnd) (f : Nat -> Bool) (s : Nat) (x y : Int) : Bool := (List.range (2 * s + 1)).all fun a => (List.range (2 * s + 1)).all fun b => decide (onG g (x - s + a) (y - s + b)) && f (tl g (x - s + a) (y - s + b))
theorem zh2 {g : Gnd} {f : Nat -> Bool} {s : Nat} {x y : Int} : sqB g f s x y = true ↔ sqP g f s x y := by
 unfold sqB
 rw [List.all_eq_true]
 constructor
 ·intro h a b h1 h2 h3 h4
  have h5 := h (a + s).toNat (List.mem_range.2 (by omega))
  rw [List.all_eq_true] at h5
  have h6 := h5 (b + s).toNat (List.mem_range.2 (by omega))
  rw [show x - s + ((a + s).toNat : Int) = x + a by omega, show y - s + ((b + s).toNat : Int) = y + b by omega, Bool.and_eq_true_iff] at h6
  exact ⟨of_decide_eq_true h6.1, h6.2⟩
 ·intro h a ha
  have ha := List.mem_range.1 ha
  rw [List.all_eq_true]
  intro b hb
  have hb := List.mem_range.1 hb
  have := h (a - s) (b - s) (by omega) (by omega) (by omega) (by omega)
  rw [show x - s + (a : Int) = x + (a - s) by omega, show y - s + (b : Int) = y + (b - s) by omega, Bool.and_eq_true_iff]
  exact ⟨decide_eq_true this.1, this.2⟩
/-- Is a tile good for a size? -/
def zv (g : Gnd) (l : List Bld) (c s : Int) (t : Nat) : Bool := sqB g (zw g l c) s.toNat ((t : Int) % g.W) ((t : Int) / g.W)
theorem zqc {g : Gnd} (hg : zl g) (l : List Bld) (c : Int) {s : Int} (hs : 0 <= s /\ s <= 3) {t : Nat} (ht : t < g.T.length) : decide (s < wg g (zw g l c) t) = zv g l c s t := by
 rw [Bool.eq_iff_iff, decide_eq_true_iff]
 unfold zv
 rw [zh2, <- zls hg _ ht _ (by omega)]
 omega
def bt (g : Gnd) (l : List Bld) (c s : Int) : AV := lst 1 x8 (blL g.T.length (zv g l c s))
def dirL : List (Int × Int) := [(0, -1), (1, 0), (0, 1), (-1, 0), (1, -1), (1, 1), (-1, 1), (-1, -1)]
def Dj (g : Gnd) (x y : Int) (d : Int × Int) : Int := if onG g (x + d.1) (y + d.2) then x + d.1 + g.W * (y + d.2) else -1
def Ae (g : Gnd) (t : Nat) : List Int := dirL.map (Dj g ((t : Int) % g.W) ((t : Int) / g.W))
theorem Kf (g : Gnd) (t : Nat) : (Ae g t).length = 8 := by simp [Ae, dirL]
theorem zob {g : Gnd} (hg : zl g) (x y : Int) (d : Int × Int) : Dj g x y d = -1 /\ ¬ onG g (x + d.1) (y + d.2) \/ onG g (x + d.1) (y + d.2) /\ Dj g x y d = (tl g (x + d.1) (y + d.2) : Nat) /\ tl g (x + d.1) (y + d.2) < g.T.length := by
 unfold Dj
 split
 ·rename_i h
  exact .inr ⟨h, (wz hg h).1.symm, (wz hg h).2.1⟩
 ·rename_i h
  exact .inl ⟨rfl, h⟩
theorem zoa {g : Gnd} (hg : zl g) {t : Nat} {u : Int} (h : u ∈ Ae g t) : u = -1 \/ ∃ m : Nat, u = m /\ m < g.T.length := by
 unfold Ae at h
 obtain ⟨d, _, rfl⟩ := List.mem_map.1 h
 rcases zob hg ((t : Int) % g.W) ((t : Int) / g.W) d with ⟨q1, _⟩ | ⟨_, q2, q3⟩
 ·exact .inl q1
 ·exact .inr ⟨_, q2, q3⟩
/-- The tile beside by a way. -/
def zx (g : Gnd) (t way : Nat) : Int := (Ae g t).getD way (-1)
def wq (g : Gnd) (c : Int) (t : Nat) : Int := je c (g.T.getD t 5).toNat
/-- May it be gone to? -/
def xp (ok : Nat -> Bool) (u : Int) : Bool := decide (0 <= u) && ok u.toNat
def De (way : Nat) : Nat := way - 4
def Dd (way : Nat) : Nat := (way - 3) % 4
/-- What a step costs; 0: there is none. -/
def yl (g : Gnd) (ok : Nat -> Bool) (c : Int) (t way : Nat) : Int :=
 if xp ok (zx g t way) then
  (if way < 4 then 5 * (wq g c t + wq g c (zx g t way).toNat)
   else if xp ok (zx g t (De way)) /\ xp ok (zx g t (Dd way)) then 7 * (wq g c t + wq g c (zx g t way).toNat) else 0)
 else 0
def ju (g : Gnd) (ok : Nat -> Bool) (c : Int) (t u : Nat) (k : Int) : Prop := ok t = true /\ t < g.T.length /\ ∃ way, way < 8 /\ zx g t way = (u : Int) /\ ok u = true /\ k = yl g ok c t way /\ 0 < k
theorem Lb {g : Gnd} {ok : Nat -> Bool} {c : Int} : ∀ t u k, ju g ok c t u k -> 0 < k := fun t u k h => by
 obtain ⟨_, _, w, _, _, _, _, h⟩ := h
 exact h
theorem Lp {g : Gnd} (hg : zl g) {t way : Nat} (hw : way < 8) : zx g t way = -1 \/ ∃ u : Nat, zx g t way = u /\ u < g.T.length := by
 unfold zx
 have h8 : way < (Ae g t).length := by rw [Kf]; exact hw
 rw [List.getD_eq_getElem?_getD, List.getElem?_eq_getElem h8]
 exact zoa hg (List.getElem_mem h8)
theorem O2 {ok : Nat -> Bool} {u : Int} (h : xp ok u = true) : 0 <= u /\ ok u.toNat = true := by
 unfold xp at h
 simpa using h
theorem M5 {g : Gnd} {ok : Nat -> Bool} {c : Int} {t way : Nat} (h : yl g ok c t way ≠ 0) : xp ok (zx g t way) = true := by
 unfold yl at h
 split at h
 ·assumption
 ·exact absurd rfl h
/-- A step by a way, told by its cost. -/
theorem zr1 {g : Gnd} {ok : Nat -> Bool} {c : Int} {t way : Nat} (ht : ok t = true) (htl : t < g.T.length) (hw : way < 8) (h : 0 < yl g ok c t way) : ju g ok c t (zx g t way).toNat (yl g ok c t way) := by
 obtain ⟨h1, h2⟩ := O2 (M5 (g := g) (ok := ok) (c := c) (t := t) (way := way) (by omega))
 exact ⟨ht, htl, way, hw, by omega, h2, rfl, h⟩
theorem Kb (c : Int) (t : Nat) : 0 <= je c t /\ je c t <= 6 := by
 have h : ∀ l ∈ [[2, 1, 3, 5, 0, 0], [2, 1, 6, 0, 0, 0], [2, 1, 0, 3, 2, 0]], ∀ t : Nat, 0 <= (l : List Int).getD t 0 /\ (l : List Int).getD t 0 <= 6 := by
  intro l hl t
  simp only [List.mem_cons, List.not_mem_nil, or_false] at hl
  by_cases h6 : t < 6
  ·have : t = 0 \/ t = 1 \/ t = 2 \/ t = 3 \/ t = 4 \/ t = 5 := by omega
   rcases hl with rfl | rfl | rfl <;> rcases this with rfl | rfl | rfl | rfl | rfl | rfl <;> decide
  ·rcases hl with rfl | rfl | rfl <;> (rw [List.getD_eq_getElem?_getD, List.getElem?_eq_none (by simp; omega)]; decide)
 unfold je
 split
 ·exact h _ (by simp) t
 ·split
  ·exact h _ (by simp) t
  ·exact h _ (by simp) t
theorem Sn (g : Gnd) (ok : Nat -> Bool) (c : Int) (t way : Nat) : 0 <= yl g ok c t way /\ yl g ok c t way <= 84 := by
 have h1 := Kb c (g.T.getD t 5).toNat
 have h2 := Kb c (g.T.getD (zx g t way).toNat 5).toNat
 unfold yl wq
 split
 ·split
  ·omega
  ·split <;> omega
 ·omega
open Classical in
/-- What each tile costs to a goal. -/
noncomputable def xd (g : Gnd) (ok : Nat -> Bool) (c : Int) (goal : Nat) : Nat -> Int :=
 if ok goal = true then (if h : ∃ d, FarOK (ju g ok c) goal d then h.choose else fun _ => -1) else fun _ => -1
theorem cw {g : Gnd} {ok : Nat -> Bool} {c : Int} {goal : Nat} (hok : ok goal = true) {d : Nat -> Int} (h : FarOK (ju g ok c) goal d) : xd g ok c goal = d := by
 unfold xd
 rw [if_pos hok]
 have hx : ∃ d, FarOK (ju g ok c) goal d := ⟨d, h⟩
 rw [dif_pos hx]
 exact zrq Lb hx.choose_spec h
theorem zrr {g : Gnd} {ok : Nat -> Bool} {c : Int} {goal : Nat} (hok : ok goal = false) : xd g ok c goal = fun _ => -1 := by
 unfold xd
 rw [if_neg (by simp [hok])]
/-- The way to take: the first that goes on as it costs. -/
noncomputable def qh (g : Gnd) (ok : Nat -> Bool) (c : Int) (d : Nat -> Int) (t : Nat) : Int :=
 if d t <= 0 then -1 else match (List.range 8).find? fun way => decide (0 < yl g ok c t way /\ 0 <= d (zx g t way).toNat /\ yl g ok c t way + d (zx g t way).toNat = d t) with
  | some way => (way : Int)
  | none => -1
theorem Ov {F N S : Store} (hd : zi F N) : ((F.un N).un S).Has (F.un S) := by
 refine ⟨fun b y h => ?_, fun b x h => ?_⟩
 ·rcases Mk h with h1 | ⟨h1, h2⟩
  ·exact zf h1
  ·have h3 : (F.un N).obj b = some y := y3 hd h2
   show (match S.obj b with | some y => some y | none => (F.un N).obj b) = some y
   rw [h1]; exact h3
 ·rcases Il h with h1 | ⟨h1, h2⟩
  ·exact wy h1
  ·have h3 : (F.un N).tok b = some x := Gv hd h2
   show (match S.tok b with | some y => some y | none => (F.un N).tok b) = some x
   rw [h1]; exact h3
theorem w8 {l : List Unt} (hr : yf l) {a b : Nat} (hab : a < b) (hb : b < l.length) : (l[a]'(by omega)).id < l[b].id := by
 induction b with
 | zero => omega
 | succ b ih =>
  have h3 := hr (b + 1) hb (by omega)
  simp only [Nat.add_sub_cancel] at h3
  by_cases e : a = b
  ·subst e; exact h3
  ·have := ih (by omega) (by omega)
   omega
theorem Ca {l : List Unt} (hr : yf l) {u v : Unt} (hu : u ∈ l) (hv : v ∈ l) (h : u.id = v.id) : u = v := by
 obtain ⟨a, ha, rfl⟩ := List.getElem_of_mem hu
 obtain ⟨b, hb, rfl⟩ := List.getElem_of_mem hv
 rcases Nat.lt_trichotomy a b with q | q | q
 ·have := w8 hr q hb; omega
 ·subst q; rfl
 ·have := w8 hr q ha; omega
def j3 (w : Wld) (L : List Ent) : Prop := ∀ e, e ∈ L ↔ ∃ u ∈ w.U, u.inn = 0 /\ e = (u.id, u.pos)
theorem Hk {w : Wld} {L : List Ent} (h : j3 w L) (hn : ∀ u ∈ w.U, u.pos.ok) : ∀ e ∈ L, e.2.ok := fun e he => by
 obtain ⟨u, hu, _, rfl⟩ := (h e).1 he
 exact hn u hu
/-- The units that are near. -/
def Be (w : Wld) (p : Vc) (r : Int) (us : List Unt) : Prop := ∀ u, u ∈ us ↔ (u ∈ w.U /\ u.inn = 0) /\ near p u.pos r = true
theorem N5 {w : Wld} {L : List Ent} (hr : yf w.U) (hL : j3 w L) {p : Vc} {r : Int} {ns : List Int} (hn : Ie L p r ns) {us : List Unt} (h1 : us.map (·.id) = ns) (h2 : ∀ u ∈ us, u ∈ w.U /\ u.inn = 0) : Be w p r us := by
 intro u
 constructor
 ·intro hu
  refine ⟨h2 u hu, ?_⟩
  have : u.id ∈ ns := by rw [<- h1]; exact List.mem_map.2 ⟨u, hu, rfl⟩
  obtain ⟨e, he, h3, h4⟩ := (hn.2 _).1 this
  obtain ⟨v, hv, _, rfl⟩ := (hL e).1 he
  rw [Ca hr (h2 u hu).1 hv h3.symm]
  exact h4
 ·rintro ⟨⟨h3, h4⟩, h5⟩
  have : u.id ∈ ns := (hn.2 _).2 ⟨(u.id, u.pos), (hL _).2 ⟨u, h3, h4, rfl⟩, rfl, h5⟩
  rw [<- h1] at this
  obtain ⟨v, hv, h6⟩ := List.mem_map.1 this
  rw [Ca hr h3 (h2 v hv).1 h6.symm]
  exact hv
theorem vy (k : Int) : 0 < zm k /\ zm k <= 81920 := by unfold zm; split <;> (try split) <;> omega
theorem Fy (k : Int) : yh k = 0 \/ yh k = 1 \/ yh k = 2 := by unfold yh; split <;> (try split) <;> (try split) <;> omega
theorem Wr {a b : Vc} {r r' : Int} (h : r <= r') (hn : near a b r = true) : near a b r' = true := by
 unfold near at *
 rw [decide_eq_true_iff] at *
 have : r * r <= r' * r' := Int.mul_le_mul h h (by omega) (by omega)
 omega
theorem Ps {w : Wld} {id k : Int} {q : Vc} {us : List Unt} (hf : ku w.G w.B (yh k) q (zm k)) (hus : Be w q (zm k + 81920) us) :
  y5 w id k q ↔ ∀ u ∈ us, u.id ≠ id -> qo q (zm k) u.pos (zm u.kind) = true := by
 constructor
 ·intro h u hu hne
  have := (hus u).1 hu
  exact h.2 u this.1.1 this.1.2 hne
 ·intro h
  refine ⟨hf, fun u hu h0 hne => ?_⟩
  unfold qo
  cases hc : near q u.pos (zm k + zm u.kind) with
  | false => rfl
  | true =>
   have h1 := Wr (r' := zm k + 81920) (by have := vy u.kind; omega) hc
   have := h u ((hus u).2 ⟨⟨hu, h0⟩, h1⟩) hne
   unfold qo at this
   rw [hc] at this
   exact this
end Go.V
namespace Go.V
/-- A map by whole numbers. -/
def q9 {α : Type} (f : α -> AV) (e : Int × α) : AV × AV := (int e.1, f e.2)
def j5 {α : Type} (cs : List (Int × α)) (k : Int) : Option α := (cs.find? fun e => k == e.1).map (·.2)
def xy {α : Type} : List (Int × α) -> Int -> α -> List (Int × α)
 | [], k, v => [(k, v)]
 | e :: l, k, v => if k == e.1 then (k, v) :: l else e :: xy l k v
theorem zrl {α : Type} (f : α -> AV) (cs : List (Int × α)) (k : Int) : (cs.map (q9 f)).find? (qA k) = (cs.find? fun e => k == e.1).map (q9 f) := by
 rw [List.find?_map]; rfl
theorem Oe {α : Type} (f : α -> AV) (cs : List (Int × α)) (k : Int) (z : AV) : Bf false z ((cs.map (q9 f)).find? (qA k)) = ((j5 cs k).map f).getD z := by
 rw [zrl]
 unfold j5
 cases cs.find? fun e => k == e.1 with
 | none => rfl
 | some e => rfl
theorem V9 {α : Type} (f : α -> AV) (k : Int) (v : α) : ∀ cs : List (Int × α),
  (match (cs.map (q9 f)).findIdx? (qA k) with | some i => (cs.map (q9 f)).set i (int k, f v) | none => cs.map (q9 f) ++ [(int k, f v)]) = (xy cs k v).map (q9 f)
 | [] => rfl
 | e :: l => by
  have ih := V9 f k v l
  rw [List.map_cons, List.findIdx?_cons]
  unfold xy
  by_cases h : k == e.1
  ·have h2 : qA k (q9 f e) = true := h
   rw [h2]
   simp only [h, if_true, List.set_cons_zero, List.map_cons]
   rfl
  ·have h : (k == e.1) = false := by simpa using h
   have h2 : qA k (q9 f e) = false := h
   rw [h2]
   simp only [h, if_false, List.map_cons]
   cases hx : (l.map (q9 f)).findIdx? (qA k) with
   | none => rw [hx] at ih; simp at ih ⊢; exact ih
   | some i => rw [hx] at ih; simp at ih ⊢; exact ih
theorem W1 {α : Type} (f : α -> AV) (cs : List (Int × α)) (bs : List Nat) (clk : Nat) (k : Int) (v : α) : ∃ bs' clk', js (cs.map (q9 f)) bs clk (qA k) (int k) (f v) = .map ((xy cs k v).map (q9 f)) bs' clk' := by
 have h := V9 f k v cs
 unfold js
 cases hx : (cs.map (q9 f)).findIdx? (qA k) with
 | none => rw [hx] at h; exact ⟨_, _, by rw [<- h]⟩
 | some i => rw [hx] at h; exact ⟨_, _, by rw [<- h]⟩
theorem Kv {α : Type} (k : Int) (v : α) (j : Int) : ∀ cs : List (Int × α), j5 (xy cs k v) j = if j = k then some v else j5 cs j
 | [] => by
  unfold xy j5
  by_cases h : j = k <;> simp [h]
 | e :: l => by
  have ih := Kv k v j l
  unfold j5 at ih ⊢
  by_cases h : k = e.1
  ·have h1 : (k == e.1) = true := by simpa using h
   rw [show xy (e :: l) k v = (k, v) :: l by unfold xy; simp [h1]]
   by_cases h2 : j = k
   ·simp [h2]
   ·have e1 : (j == k) = false := by simpa using h2
    have e2 : (j == e.1) = false := by rw [<- h]; exact e1
    rw [List.find?_cons, List.find?_cons, if_neg h2]
    simp only [e1, e2]
  ·have h1 : (k == e.1) = false := by simpa using h
   rw [show xy (e :: l) k v = e :: xy l k v by rw [xy]; simp [h1]]
   rw [List.find?_cons, List.find?_cons]
   by_cases h2 : j = e.1
   ·have e1 : (j == e.1) = true := by simpa using h2
    simp only [e1]
    rw [if_neg (by omega)]
   ·have e1 : (j == e.1) = false := by simpa using h2
    simp only [e1]
    exact ih
end Go.V
namespace Go.V
theorem Hq {l : List Unt} {i : Nat} (hi : i < l.length) (id : Int) : ((yb (l.take (i + 1)) id).length : Int) = ((yb (l.take i) id).length : Int) + (if l[i].inn = id then 1 else 0) := by
 unfold yb
 rw [List.take_succ_eq_append_getElem hi, List.filter_append, List.map_append, List.length_append]
 by_cases h : l[i].inn = id
 ·simp [h]
 ·simp [h]
theorem Oq {l : List Unt} (i : Nat) (id : Int) : (yb (l.take i) id).length <= (yb l id).length := by
 have h : (yb l id).length = (yb (l.take i) id).length + (yb (l.drop i) id).length := by
  unfold yb
  rw [<- List.length_append, <- List.map_append, <- List.filter_append, List.take_append_drop]
 omega
/-- Who rides, so far. -/
def Nl (w : Wld) (i : Nat) : Prop :=
 (∀ j, (h : j < w.U.length) -> j < i -> w.U[j].inn ≠ 0 -> ∃ x ∈ w.U, x.id = w.U[j].inn /\ (x.inn = 0 /\ x.owner = w.U[j].owner) /\ xl w.U[j].kind = 0 /\ w.U[j].pos = (0, 0) /\ w.U[j].goal = -1 /\ w.U[j].state = 0) ∧
 ∀ x ∈ w.U, x.id ≠ 0 -> ((yb (w.U.take i) x.id).length : Int) <= xl x.kind
theorem zl2 {w : Wld} (h : Nl w w.U.length) : ∀ u ∈ w.U, u.inn ≠ 0 -> j2 w u := by
 intro u hu hne
 obtain ⟨j, hj, rfl⟩ := List.getElem_of_mem hu
 obtain ⟨x, hx, h1, h2, h3, h4, h5, h6⟩ := h.1 j hj hj hne
 have := h.2 x hx (by rw [h1]; exact hne)
 rw [List.take_length, h1] at this
 exact ⟨x, hx, h1, h2, this, h3, h4, h5, h6⟩
theorem Om (k : Int) : 0 <= xl k /\ xl k <= 4 := by unfold xl; split <;> (try split) <;> (try split) <;> omega
end Go.V
namespace Go.V
/-- The units up to one may be by themselves. -/
def Bt (w : Wld) (i : Nat) : Prop := ∀ j, (h : j < w.U.length) -> j < i -> (jy w w.U[j] /\ ∀ b ∈ w.B, b.id ≠ w.U[j].id) /\ (0 < j -> (w.U[j - 1]'(by omega)).id < w.U[j].id)
theorem Ry {w : Wld} (h : Bt w w.U.length) : Cy w := by
 refine ⟨fun j hj h0 => (h j hj hj).2 h0, fun u hu => ?_⟩
 obtain ⟨j, hj, rfl⟩ := List.getElem_of_mem hu
 exact (h j hj hj).1
theorem Rx {w : Wld} (h : Cy w) (i : Nat) : Bt w i := fun j hj _ => ⟨h.2 _ (List.getElem_mem hj), h.1 j hj⟩
end Go.V
namespace Go.V
/-- A slice over an object: its elements, and how much room. -/
def RowsO {α : Type} (k : Nat) (f : α -> List AV) (st : Store) (v : AV) (l : List α) : Prop :=
 (v = .s (.slice none 0 0) /\ l = []) \/ ∃ b cap L, v = .s (.slice (some ⟨b, 0, none⟩) l.length cap) /\ st.obj b = some (.cells ((rws f l).flatten ++ L)) /\ l.length <= cap /\ cap * k <= l.length * k + L.length /\ cap <= 9223372036854775807
section
variable {α : Type} {f : α -> List AV} {k : Nat}
theorem k7 (hf : ∀ x, (f x).length = k) (l : List α) : (rws f l).flatten.length = l.length * k := by
 induction l with
 | nil => simp [rws]
 | cons a l ih =>
  show (f a ++ (rws f l).flatten).length = (l.length + 1) * k
  rw [List.length_append, hf, ih, Nat.succ_mul]; omega
theorem I0 (a b : List α) : (rws f (a ++ b)).flatten = (rws f a).flatten ++ (rws f b).flatten := by
 rw [<- zkx, List.flatten_append]
theorem Iz {l : List α} {i : Nat} (hi : i < l.length) : (rws f l).flatten = (rws f (l.take i)).flatten ++ (f l[i] ++ (rws f (l.drop (i + 1))).flatten) := by
 have e : l = l.take i ++ (l[i] :: l.drop (i + 1)) := by
  rw [<- List.drop_eq_getElem_cons hi, List.take_append_drop]
 have e2 : (rws f (l[i] :: l.drop (i + 1))).flatten = f l[i] ++ (rws f (l.drop (i + 1))).flatten := rfl
 rw [<- e2, <- I0, <- e]
theorem zh7 {X Y ys : List AV} {j : Nat} (h : j + ys.length <= X.length) : zy (X ++ Y) j ys = zy X j ys ++ Y := by
 unfold zy
 rw [List.take_append_of_le_length (by omega), List.drop_append_of_le_length (by omega)]
 simp only [List.append_assoc]
/-- One cell of an element is stored. -/
theorem Fi (hf : ∀ x, (f x).length = k) {l : List α} {i j : Nat} (hi : i < l.length) {x' : α} {ys L : List AV} (hj : j + ys.length <= k) (hx : f x' = zy (f l[i]) j ys) :
  zy ((rws f l).flatten ++ L) (i * k + j) ys = (rws f (l.set i x')).flatten ++ L := by
 have h1 : (rws f (l.take i)).flatten.length = i * k := by rw [k7 hf, List.length_take, Nat.min_eq_left (by omega)]
 have hi2 : i < (l.set i x').length := by rw [List.length_set]; exact hi
 rw [Iz hi, Iz hi2, List.append_assoc, List.append_assoc, <- h1, Ss]
 have e1 : (l.set i x').take i = l.take i := by rw [List.take_set_of_le (Nat.le_refl i)]
 have e2 : (l.set i x').drop (i + 1) = l.drop (i + 1) := by rw [List.drop_set_of_lt (by omega)]
 rw [e1, e2, List.getElem_set_self, hx]
 have h3 := hf l[i]
 rw [List.append_assoc, zh7 (by omega)]
 simp only [List.append_assoc]
theorem RowsO.un {a g : Store} {v : AV} {l : List α} (h : RowsO k f g v l) : RowsO k f (a.un g) v l := by
 rcases h with h | ⟨b1, cap, L, h1, h2, h3⟩
 ·exact .inl h
 ·exact .inr ⟨b1, cap, L, h1, zf h2, h3⟩
theorem RowsO.unL {a g : Store} {v : AV} {l : List α} (h : RowsO k f a v l) (hd : zi a g) : RowsO k f (a.un g) v l := by
 rcases h with h | ⟨b1, cap, L, h1, h2, h3⟩
 ·exact .inl h
 ·exact .inr ⟨b1, cap, L, h1, y3 hd h2, h3⟩
/-- Where an element stands, and what is left when one cell of it is stored. -/
theorem RowsO.at {st : Store} {v : AV} {l : List α} (h : RowsO k f st v l) {i : Nat} (hi : i < l.length) :
  ∃ b cap L, v = .s (.slice (some ⟨b, 0, none⟩) l.length cap) /\ st.obj b = some (.cells ((rws f l).flatten ++ L)) /\ l.length <= cap /\ cap * k <= l.length * k + L.length /\ cap <= 9223372036854775807 := by
 rcases h with ⟨_, rfl⟩ | h
 ·exact absurd hi (Nat.not_lt_zero i)
 ·exact h
theorem RowsO.borrow {st : Store} {v : AV} {l : List α} (hf : ∀ x, (f x).length = k) (hs : ∀ x, ∀ y ∈ f x, ∃ u, y = AV.s u /\ y6 u = true) (hv : RowsO k f st v l) {Oth M : Nat -> Nat -> Prop} {w : World} (sto : StoreOK st Oth M w) {x : Value} (hx : VRel w (fun b o => M b o \/ Oth b o) v x) :
  VRel w (fun b o => (M b o \/ Oth b o) /\ st.obj b = none) (lst k f l) x := by
 rcases hv with ⟨rfl, rfl⟩ | ⟨b, cap, L, rfl, ho, h1, h2, h3⟩
 ·cases hx
  exact AV.le_nil k _ _ _ (.s _)
 ·cases hx
  exact ez (sto.obj b _ ho).1 (fun o hT => by rw [ho] at hT; exact absurd hT.2 (by simp)) (zu l) h1
   (fun row hr => by obtain ⟨n, _, rfl⟩ := List.mem_map.1 hr; exact hf n) (fun row hr y hy => by
    obtain ⟨n, _, rfl⟩ := List.mem_map.1 hr
    exact hs n y hy)
/-- An append of one element to elements over an object. -/
theorem ft {P : Program} {c : Cfg} {e : TypeId} {ie : TI} (hie : c.I e = some ie) (hf : ∀ x, (f x).length = ie.size) (hby : ie.bytes <= 1000) {st : Store} {v : AV} {l : List α} (hv : RowsO ie.size f st v l) (x : α) {src : AV} (hsrc : xu ie.size (.av src) = some [f x]) (hlen : l.length <= 1000000000) {K : AV -> Store -> Prop}
  (h : ∀ b cap L, (Fresh st b \/ ∃ c0, v = .s (.slice (some ⟨b, 0, none⟩) l.length c0)) -> (l ++ [x]).length <= cap -> cap * ie.size <= (l ++ [x]).length * ie.size + L.length -> cap <= 9223372036854775807 ->
   K (.s (.slice (some ⟨b, 0, none⟩) (l ++ [x]).length cap)) (st.setObj b (.cells ((rws f (l ++ [x])).flatten ++ L)))) : appendK P c st e (.av v) (.av src) K := by
 refine ⟨.inr ⟨v, _, rfl, rfl, ?_⟩⟩
 have hl : (l ++ [x]).length = l.length + 1 := by simp
 have hfl := k7 hf l
 have hmul : (l.length + 1) * ie.bytes <= 1000000001 * 1000 := Nat.mul_le_mul (by omega) hby
 have happ : (rws f (l ++ [x])).flatten = (rws f l).flatten ++ f x := by
  rw [I0]
  show _ ++ (f x ++ []) = _
  rw [List.append_nil]
 rcases hv with ⟨rfl, rfl⟩ | ⟨b, cap, L, rfl, ho, h1, h2, h3⟩
 ·refine fq hie hsrc ⟨by simp at hmul ⊢; omega, by simp⟩ (by simp) (fun b' cap' hb hc hc2 => ?_)
  have := h b' cap' (List.replicate ((cap' - [f x].length) * ie.size) .any) (.inl hb) (by simpa using hc) (by
   simp only [List.length_replicate, List.nil_append, List.length_singleton, <- Nat.add_mul]
   exact Nat.mul_le_mul_right _ (by omega)) hc2
  exact this
 ·refine P7 hie (cap := cap) ho (by rw [List.length_append, hfl]; exact h2) h1 hsrc ⟨by simp; omega, by simp; omega⟩ (fun hc => ?_) (fun hc b' cap' hb hc1 hc2 => ?_)
  ·have hc : l.length + 1 <= cap := hc
   have hcm : (l.length + 1) * ie.size <= cap * ie.size := Nat.mul_le_mul_right _ hc
   rw [Nat.succ_mul] at hcm
   have e1 : zy ((rws f l).flatten ++ L) (l.length * ie.size) [f x].flatten = (rws f (l ++ [x])).flatten ++ L.drop ie.size := by
    rw [Db hfl, happ]
    simp [hf x]
   have := h b cap (L.drop ie.size) (.inr ⟨cap, rfl⟩) (by omega) (by rw [hl, Nat.succ_mul, List.length_drop]; omega) h3
   rw [hl, <- e1] at this
   exact this
  ·have hc1 : l.length + 1 <= cap' := hc1
   have e1 : ((rws f l).flatten ++ L).take (l.length * ie.size) ++ [f x].flatten ++ List.replicate ((cap' - (l.length + 1)) * ie.size) .any = (rws f (l ++ [x])).flatten ++ List.replicate ((cap' - (l.length + 1)) * ie.size) .any := by
    rw [List.take_append_of_le_length (by omega), List.take_of_length_le (by omega), happ]
    simp
   have := h b' cap' (List.replicate ((cap' - (l.length + 1)) * ie.size) .any) (.inl hb) (by omega) (by
    rw [hl, List.length_replicate, <- Nat.add_mul]
    exact Nat.mul_le_mul_right _ (by omega)) hc2
   rw [hl, <- e1] at this
   exact this
end
theorem xb (u : Unt) : (ze u).length = 10 := rfl
theorem Mj (u : Unt) : ∀ y ∈ ze u, ∃ x, y = AV.s x /\ y6 x = true := by
 intro y hy
 simp [ze] at hy
 rcases hy with rfl | rfl | rfl | rfl | rfl | rfl | rfl | rfl | rfl | rfl <;> exact ⟨_, rfl, rfl⟩
/-- A world whose units stand in an object. -/
def xf (w : Wld) (v : AV) : List AV := [int w.tick, int w.players, int w.next, int w.G.W, int w.G.H, Cr w.G.T, lst 6 zp w.B, v]
theorem vm {l : List Unt} (hr : yf l) {a b : Nat} (hab : a < b) (hb : b < l.length) : (l[a]'(by omega)).id < l[b].id := by
 induction b with
 | zero => omega
 | succ b ih =>
  have h3 := hr (b + 1) hb (by omega)
  simp only [Nat.add_sub_cancel] at h3
  by_cases e : a = b
  ·subst e; exact h3
  ·have := ih (by omega) (by omega)
   omega
/-- A store of many cells into an object. -/
theorem kf {i : TI} {A : Fr} {st : Store} {b o : Nat} {v : AV} {xs l : List AV} {K : Fr -> Store -> Prop} (hc : cellsOf v = some xs) (h1 : xs.all AV.one = true) (hi : i.size = xs.length) (ho : st.obj b = some (.cells l)) (hl : o + xs.length <= l.length)
  (hk : K A (st.setObj b (.cells (zy l o xs)))) : Aw i A st (.av (.s (.pointer (some ⟨b, o, none⟩)))) v K := by
 unfold Aw
 rw [hc]
 show (bif Nat.beq xs.length i.size && (xs.all AV.one) then _ else False)
 rw [hi]
 simp only [h1, Nat.beq_refl, Bool.and_self, cond_true]
 rw [ho]
 exact ⟨hl, Dt hk⟩
theorem Hg (k : Int) : 24576 <= zm k /\ zm k <= 81920 := by unfold zm; split <;> (try split) <;> omega
/-- Where a disc stands that is free. -/
theorem Kx {g : Gnd} (hg : zl g) {l : List Bld} {c : Int} {p : Vc} {k : Int} (h : ku g l c p (zm k)) : (24576 <= p.1 /\ p.1 + 24576 <= g.W * 65536) /\ (24576 <= p.2 /\ p.2 + 24576 <= g.H * 65536) /\ (p.1 <= 8388608 /\ p.2 <= 8388608) := by
 have h1 := h.1
 have h2 := Hg k
 obtain ⟨⟨_, h3⟩, ⟨_, h4⟩, _⟩ := hg
 omega
def ja (g : Gnd) (p : Vc) : Nat := (p.1 / 65536 + g.W * (p.2 / 65536)).toNat
theorem Sd {g : Gnd} (hg : zl g) {p : Vc} (h : (0 <= p.1 /\ p.1 < g.W * 65536) /\ (0 <= p.2 /\ p.2 < g.H * 65536)) :
  ((ja g p : Nat) : Int) = p.1 / 65536 + g.W * (p.2 / 65536) /\ ja g p < g.T.length /\ ((ja g p : Nat) : Int) % g.W = p.1 / 65536 /\ ((ja g p : Nat) : Int) / g.W = p.2 / 65536 := by
 have hs := C8 hg (x := p.1 / 65536) (y := p.2 / 65536) (by omega) (by omega)
 have ha := y9 hg
 unfold ja
 generalize p.1 / 65536 = x at *
 generalize p.2 / 65536 = y at *
 have e : ((x + g.W * y).toNat : Int) = x + g.W * y := by omega
 rw [e]
 exact ⟨rfl, by omega, hs.2.2.1, hs.2.2.2⟩
/-- What a call has made and hands back is plain from then on. -/
theorem ACalls.frozen {P : Program} {f : FuncId} {xs : List AV} {Q : AV -> Store -> Prop} {R : AV -> Prop} (h : ACalls P f xs Store.empty Q)
  (hQ : ∀ r S, Q r S -> ∃ r2, R r2 /\ ∀ (Oth M : Nat -> Nat -> Prop) (w : World) (v : Value), StoreOK S Oth M w -> VRel w (fun b o => M b o \/ Oth b o) r v -> VRel w (fun b o => (M b o \/ Oth b o) /\ S.obj b = none) r2 v) :
  ACalls P f xs Store.empty fun r _ => R r := by
 refine ⟨fun Oth M w vs sto hr => ?_⟩
 have h1 := h.out Oth M w vs sto hr
 have key : ∀ v w', yw Store.empty Q Oth M w v w' -> yw Store.empty (fun r _ => R r) Oth M w v w' := by
  rintro v w' ⟨r, S, M', hq, hv, hs, hc⟩
  obtain ⟨r2, hr2, hk⟩ := hQ r S hq
  refine ⟨r2, Store.empty, fun b o => M' b o /\ S.obj b = none, hr2, (hk Oth M' w' v hs hv).mono fun b o hT => ?_, ?_, ?_⟩
  ·rcases hT with ⟨h1, h2⟩ | h1
   ·exact ⟨.inl h1, h2⟩
   ·refine ⟨.inr h1, ?_⟩
    cases hb : S.obj b with
    | none => rfl
    | some y => exact absurd ((hs.obj b y hb).2 o) (hs.dis b o h1)
  ·exact { obj := fun b x hx => (by cases hx), tok := fun b x hx => (by cases hx), mlt := fun b o hm => hs.mlt b o hm.1, olt := hs.olt, dis := fun b o ho hm => hs.dis b o ho hm.1 }
  ·exact { size := hc.size, keep := hc.keep, blk := hc.blk, shp := hc.shp, sub := fun b o hm hb => hc.sub b o hm.1 hb, tape := hc.tape, os := hc.os, output := hc.output }
 generalize (callFunc f vs).run P w = res at h1
 cases res with
 | ok n w' =>
  cases n with
  | enter g args => exact Calls.mono h1 fun e w'' ⟨v, he, hv⟩ => ⟨v, he, key _ _ hv⟩
  | value v => exact key _ _ h1
  | _ => exact h1
 | _ => exact h1
/-- What a call has made and hands back: a part of it may still be written, the rest is plain from then on. -/
theorem ACalls.frozenTo {P : Program} {f : FuncId} {xs : List AV} {st0 : Store} {Q : AV -> Store -> Prop} {R : AV -> Store -> Prop} (h : ACalls P f xs st0 Q)
    (hQ : ∀ r S, Q r S -> ∃ r2 S2, R r2 S2 /\ (∀ b x, S2.obj b = some x -> S.obj b = some x) /\ (∀ b x, S2.tok b ≠ some x) ∧
      ∀ (Oth M : Nat -> Nat -> Prop) (w : World) (v : Value), StoreOK S Oth M w -> VRel w (fun b o => M b o \/ Oth b o) r v -> VRel w (fun b o => (M b o \/ Oth b o) /\ (S.obj b = none \/ S2.obj b ≠ none)) r2 v) :
    ACalls P f xs st0 R := by
  refine ⟨fun Oth M w vs sto hr => ?_⟩
  have h1 := h.out Oth M w vs sto hr
  have key : ∀ v w', yw st0 Q Oth M w v w' -> yw st0 R Oth M w v w' := by
    rintro v w' ⟨r, S, M', hq, hv, hs, hc⟩
    obtain ⟨r2, S2, hr2, hsub, htok, hk⟩ := hQ r S hq
    have hT : ∀ b o, ((M' b o /\ (S.obj b = none \/ S2.obj b ≠ none)) \/ Oth b o) -> (M' b o \/ Oth b o) := fun b o h => h.imp (·.1) id
    refine ⟨r2, S2, fun b o => M' b o /\ (S.obj b = none \/ S2.obj b ≠ none), hr2, (hk Oth M' w' v hs hv).mono fun b o hT => ?_, ?_, ?_⟩
    · rcases hT with ⟨h1, h2⟩ | h1
      · exact ⟨.inl h1, h2⟩
      · refine ⟨.inr h1, ?_⟩
        cases hb : S.obj b with
        | none => exact .inl rfl
        | some y => exact absurd ((hs.obj b y hb).2 o) (hs.dis b o h1)
    · exact { obj := fun b x hx => ⟨(hs.obj b x (hsub b x hx)).1.mono hT, fun o => ⟨(hs.obj b x (hsub b x hx)).2 o, .inr (by rw [hx]; simp)⟩⟩
              tok := fun b x hx => absurd hx (htok b x), mlt := fun b o hm => hs.mlt b o hm.1, olt := hs.olt, dis := fun b o ho hm => hs.dis b o ho hm.1 }
    · exact { size := hc.size, keep := hc.keep, blk := hc.blk, shp := hc.shp, sub := fun b o hm hb => hc.sub b o hm.1 hb, tape := hc.tape, os := hc.os, output := hc.output }
  generalize (callFunc f vs).run P w = res at h1
  cases res with
  | ok n w' =>
    cases n with
    | enter g args => exact Calls.mono h1 fun e w'' ⟨v, he, hv⟩ => ⟨v, he, key _ _ hv⟩
    | value v => exact key _ _ h1
    | _ => exact h1
  | _ => exact h1
def M8 (a : Option Addr) : Prop := ∀ x, a = some x -> x.spot = none
section
variable {P : Program} {c : Cfg} {st : Store}
/-- An append to any empty slice, that makes an object. -/
theorem fp {e : TypeId} {ie : TI} (hie : c.I e = some ie) {a : Option Addr} {x : AV} {rows : List (List AV)} (hx : xu ie.size (.av x) = some rows) (hroom : room rows.length ie.bytes) (hne : 0 < rows.length) {K : AV -> Store -> Prop}
  (h2 : ∀ b' cap', Fresh st b' -> rows.length <= cap' -> cap' <= 9223372036854775807 -> K (.s (.slice (some ⟨b', 0, none⟩) rows.length cap')) (st.setObj b' (.cells (rows.flatten ++ List.replicate ((cap' - rows.length) * ie.size) .any)))) :
  AppX P c st e (.s (.slice a 0 0)) x K := by
 refine ⟨⟨ie, hie⟩, fun ie' hie' Oth M w sv xv argTypes ty args t sto hs hxv hat ht1 hu hti h0 h1' => ?_⟩
 rw [hie] at hie'
 cases hie'
 have hs := VRel.eq_s hs
 subst hs
 have A : AppArgs P c argTypes args t e ie a 0 0 xv := ⟨hat, ht1, hu, hti, h0, h1'⟩
 obtain ⟨hl1, hl2, new, hnew, hone, hnsz, hfc⟩ := Fh (P := P) (β := fun _ => 0) (k := ie.size) (x := .av x) hxv hx
 obtain ⟨newCap, rest, g1, g0, g2, g3⟩ := H8 (old := #[]) ty A hl1 (hfc w.drew rfl) (by cases a <;> simp [Builtin.firstCells, loadCells, loadCellsFrom]) (by omega) (by simpa using hroom)
 have gd : Grow w w.drew := Grow.drew w
 have sto1 := sto.grow gd
 obtain ⟨f1, f2, f3⟩ := Di sto1 (#[] ++ new ++ rest) e (l := rows.flatten ++ List.replicate rest.size .any) (by
  rw [Array.toList_append, Array.toList_append]
  refine ((show Reads w _ rows.flatten ([] ++ new.toList) from hnew).append ⟨by simp, fun i x y hx hy => ?_⟩).keep (gd.keeps _)
  rw [List.getElem?_replicate] at hx
  split at hx
  ·cases hx; exact .any _
  ·cases hx)
 rw [g2] at f2
 simp only [Nat.zero_add] at g1 g3 f2
 exact ⟨_, _, g3, _, _, _, h2 _ newCap f1 g1 g0, .s _, f2, (gd.chg M).trans f3⟩
/-- An append to an empty literal. -/
theorem zue {e : TypeId} {ie : TI} (hie : c.I e = some ie) {x : AV} {rows : List (List AV)} (hx : xu ie.size (.av x) = some rows) (hroom : room rows.length ie.bytes) {K : AV -> Store -> Prop}
  (h1 : rows = [] -> ∀ a, M8 a -> K (.s (.slice a 0 0)) st)
  (h2 : 0 < rows.length -> ∀ b' cap', Fresh st b' -> rows.length <= cap' -> cap' <= 9223372036854775807 -> K (.s (.slice (some ⟨b', 0, none⟩) rows.length cap')) (st.setObj b' (.cells (rows.flatten ++ List.replicate ((cap' - rows.length) * ie.size) .any)))) :
  AppX P c st e .emp x K := by
 refine ⟨⟨ie, hie⟩, fun ie' hie' Oth M w sv xv argTypes ty args t sto hs hxv hat ht1 hu hti h0 h1' => ?_⟩
 cases hs with
 | emp a ha =>
  by_cases hr : 0 < rows.length
  ·exact (fp hie hx hroom hr (h2 hr)).out ie' hie' Oth M w _ xv argTypes ty args t sto (.s _) hxv hat ht1 hu hti h0 h1'
  ·rw [hie] at hie'
   cases hie'
   have hr0 : rows = [] := List.eq_nil_of_length_eq_zero (by omega)
   subst hr0
   have A : AppArgs P c argTypes args t e ie a 0 0 xv := ⟨hat, ht1, hu, hti, h0, h1'⟩
   obtain ⟨hl1, hl2, new, hnew, hone, hnsz, hfc⟩ := Fh (P := P) (β := fun _ => 0) (k := ie.size) (x := .av x) hxv hx
   have hn0 : new.toList = [] := by
    have : new.toList.length = 0 := by rw [Array.length_toList, hnsz]; simp
    exact List.eq_nil_of_length_eq_zero this
   have hrun := Lt (w' := w) ty A hl1 (hfc w rfl) (by simp) (fun b hb => by rw [hn0]; simp [storeCells]) (fun _ => rfl)
   exact ⟨_, _, hrun, _, _, M, h1 rfl a ha, .s _, sto, Chg.refl M w⟩
end
/-- As RowsO; an empty one may lie anywhere. -/
def RowsQ {α : Type} (k : Nat) (f : α -> List AV) (st : Store) (v : AV) (l : List α) : Prop :=
 RowsO k f st v l \/ ∃ a, M8 a /\ v = .s (.slice a 0 0) /\ l = []
section
variable {α : Type} {f : α -> List AV} {k : Nat}
theorem RowsO.q {st : Store} {v : AV} {l : List α} (h : RowsO k f st v l) : RowsQ k f st v l := .inl h
theorem RowsQ.un {a g : Store} {v : AV} {l : List α} (h : RowsQ k f g v l) : RowsQ k f (a.un g) v l := h.imp (·.un) id
theorem RowsQ.unL {a g : Store} {v : AV} {l : List α} (h : RowsQ k f a v l) (hd : zi a g) : RowsQ k f (a.un g) v l := h.imp (·.unL hd) id
theorem RowsQ.form {st : Store} {v : AV} {l : List α} (h : RowsQ k f st v l) : ∃ oa cap, v = .s (.slice oa l.length cap) /\ ∀ i, i < l.length -> ∃ b L, oa = some ⟨b, 0, none⟩ /\ st.obj b = some (.cells ((rws f l).flatten ++ L)) := by
 rcases h with (⟨rfl, rfl⟩ | ⟨b, cap, L, rfl, ho, _⟩) | ⟨a, _, rfl, rfl⟩
 ·exact ⟨none, 0, rfl, fun i hi => absurd hi (Nat.not_lt_zero i)⟩
 ·exact ⟨_, cap, rfl, fun i _ => ⟨b, L, rfl, ho⟩⟩
 ·exact ⟨a, 0, rfl, fun i hi => absurd hi (Nat.not_lt_zero i)⟩
theorem RowsQ.borrow {st : Store} {v : AV} {l : List α} (hf : ∀ x, (f x).length = k) (hs : ∀ x, ∀ y ∈ f x, ∃ u, y = AV.s u /\ y6 u = true) (hv : RowsQ k f st v l) {Oth M : Nat -> Nat -> Prop} {w : World} (sto : StoreOK st Oth M w) {x : Value} (hx : VRel w (fun b o => M b o \/ Oth b o) v x) :
  VRel w (fun b o => (M b o \/ Oth b o) /\ st.obj b = none) (lst k f l) x := by
 rcases hv with hv | ⟨a, ha, rfl, rfl⟩
 ·exact hv.borrow hf hs sto hx
 ·cases hx
  exact .nil k a
/-- Its block, if it has any elements. -/
theorem RowsQ.sub {S S2 : Store} {v : AV} {l : List α} (h : RowsQ k f S v l) (hk : ∀ b n c, v = .s (.slice (some ⟨b, 0, none⟩) n c) -> S2.obj b = S.obj b) : RowsQ k f S2 v l := by
 rcases h with (h | ⟨b, cap, L, rfl, ho, h2⟩) | h
 ·exact .inl (.inl h)
 ·exact .inl (.inr ⟨b, cap, L, rfl, by rw [hk b _ _ rfl]; exact ho, h2⟩)
 ·exact .inr h
/-- An append of one element. -/
theorem Bp {P : Program} {c : Cfg} {e : TypeId} {ie : TI} (hie : c.I e = some ie) (hf : ∀ x, (f x).length = ie.size) (hby : ie.bytes <= 1000) {st : Store} {v : AV} {l : List α} (hv : RowsQ ie.size f st v l) (x : α) {src : AV} (hsrc : xu ie.size (.av src) = some [f x]) (hlen : l.length <= 1000000000) {K : AV -> Store -> Prop}
  (h : ∀ b cap L, (Fresh st b \/ ∃ c0, 0 < c0 /\ v = .s (.slice (some ⟨b, 0, none⟩) l.length c0)) -> (l ++ [x]).length <= cap -> cap * ie.size <= (l ++ [x]).length * ie.size + L.length -> cap <= 9223372036854775807 ->
   K (.s (.slice (some ⟨b, 0, none⟩) (l ++ [x]).length cap)) (st.setObj b (.cells ((rws f (l ++ [x])).flatten ++ L)))) : appendK P c st e (.av v) (.av src) K := by
 refine ⟨.inr ⟨v, _, rfl, rfl, ?_⟩⟩
 have hl : (l ++ [x]).length = l.length + 1 := by simp
 have hfl := k7 hf l
 have hmul : (l.length + 1) * ie.bytes <= 1000000001 * 1000 := Nat.mul_le_mul (by omega) hby
 have happ : (rws f (l ++ [x])).flatten = (rws f l).flatten ++ f x := by
  rw [I0]
  show _ ++ (f x ++ []) = _
  rw [List.append_nil]
 have empty : ∀ a : Option Addr, l = [] -> v = .s (.slice a 0 0) -> AppX P c st e v src K := fun a hl0 hva => by
  subst hl0 hva
  refine fp hie hsrc ⟨by simp; omega, by simp⟩ (by simp) (fun b' cap' hb hc hc2 => ?_)
  have := h b' cap' (List.replicate ((cap' - [f x].length) * ie.size) .any) (.inl hb) (by simpa using hc) (by
   simp only [List.length_replicate, List.nil_append, List.length_singleton, <- Nat.add_mul]
   exact Nat.mul_le_mul_right _ (by omega)) hc2
  exact this
 rcases hv with (⟨hv, hl0⟩ | ⟨b, cap, L, rfl, ho, h1, h2, h3⟩) | ⟨a, ha, hv, hl0⟩
 ·exact empty _ hl0 hv
 ·refine P7 hie (cap := cap) ho (by rw [List.length_append, hfl]; exact h2) h1 hsrc ⟨by simp; omega, by simp; omega⟩ (fun hc => ?_) (fun hc b' cap' hb hc1 hc2 => ?_)
  ·have hc : l.length + 1 <= cap := hc
   have hcm : (l.length + 1) * ie.size <= cap * ie.size := Nat.mul_le_mul_right _ hc
   rw [Nat.succ_mul] at hcm
   have e1 : zy ((rws f l).flatten ++ L) (l.length * ie.size) [f x].flatten = (rws f (l ++ [x])).flatten ++ L.drop ie.size := by
    rw [Db hfl, happ]
    simp [hf x]
   have := h b cap (L.drop ie.size) (.inr ⟨cap, by omega, rfl⟩) (by omega) (by rw [hl, Nat.succ_mul, List.length_drop]; omega) h3
   rw [hl, <- e1] at this
   exact this
  ·have hc1 : l.length + 1 <= cap' := hc1
   have e1 : ((rws f l).flatten ++ L).take (l.length * ie.size) ++ [f x].flatten ++ List.replicate ((cap' - (l.length + 1)) * ie.size) .any = (rws f (l ++ [x])).flatten ++ List.replicate ((cap' - (l.length + 1)) * ie.size) .any := by
    rw [List.take_append_of_le_length (by omega), List.take_of_length_le (by omega), happ]
    simp
   have := h b' cap' (List.replicate ((cap' - (l.length + 1)) * ie.size) .any) (.inl hb) (by omega) (by
    rw [hl, List.length_replicate, <- Nat.add_mul]
    exact Nat.mul_le_mul_right _ (by omega)) hc2
   rw [hl, <- e1] at this
   exact this
 ·exact empty _ hl0 hv
/-- A copy of a list, by an append to an empty literal. -/
theorem P8 {P : Program} {c : Cfg} {e : TypeId} {ie : TI} (hie : c.I e = some ie) (hf : ∀ x, (f x).length = ie.size) (hby : ie.bytes <= 1000) {st : Store} {l : List α} (hlen : l.length <= 1000000000) {K : AV -> Store -> Prop}
  (h : ∀ v N, RowsQ ie.size f N v l -> zi N st -> K v (N.un st)) : appendK P c st e (.av .emp) (.av (lst ie.size f l)) K := by
 refine ⟨.inr ⟨_, _, rfl, rfl, ?_⟩⟩
 have hmul : l.length * ie.bytes <= 1000000000 * 1000 := Nat.mul_le_mul (by omega) hby
 refine zue hie (rows := rws f l) (by simp [xu, lst]) ⟨by rw [zu]; omega, by rw [zu]; omega⟩ (fun hr a ha => ?_) (fun hr b cap hb hc hc2 => ?_)
 ·have hl : l = [] := by
   have := congrArg List.length hr
   rw [zu] at this
   exact List.eq_nil_of_length_eq_zero this
  subst hl
  have := h (.s (.slice a 0 0)) Store.empty (.inr ⟨a, ha, rfl, rfl⟩) (fun b hb => (hb.elim (fun h => h rfl) (fun h => h rfl) : False).elim)
  rwa [kj] at this
 ·rw [zu] at hc ⊢
  have := h (.s (.slice (some ⟨b, 0, none⟩) l.length cap)) (Store.empty.setObj b (.cells ((rws f l).flatten ++ List.replicate ((cap - l.length) * ie.size) .any))) (.inl (.inr ⟨b, cap, _, rfl, zd _ _ _, hc, by
   simp only [List.length_replicate, <- Nat.add_mul]
   exact Nat.mul_le_mul_right _ (by omega), hc2⟩)) (fun i hi hs => by
    have : i = b := Decidable.byContradiction fun hne => by
     rcases hi with hi | hi
     ·rw [zq hne] at hi; exact hi rfl
     ·exact hi rfl
    subst this
    exact fresh_iff.1 hb hs)
  have e : (Store.empty.setObj b (.cells ((rws f l).flatten ++ List.replicate ((cap - l.length) * ie.size) .any))).un st = st.setObj b (.cells ((rws f l).flatten ++ List.replicate ((cap - l.length) * ie.size) .any)) := by
   rw [<- Im (fresh_iff.1 hb), kj]
  rw [e] at this
  exact this
end
theorem Rk {st : Store} {w : Wld} {v : AV} (hv : RowsQ 10 ze st v w.U) {Oth M : Nat -> Nat -> Prop} {W : World} (sto : StoreOK st Oth M W) {x : Value} (hx : VRel W (fun b o => M b o \/ Oth b o) (.agg (xf w v)) x) :
  VRel W (fun b o => (M b o \/ Oth b o) /\ st.obj b = none) (.agg (zr w)) x := by
 cases hx with
 | agg _ c hl hc =>
  refine .agg _ c hl fun i x y hx hy => ?_
  match i with
  | 0 => simp only [zr, List.getElem?_cons_zero, Option.some.injEq] at hx; subst hx; exact qr (hc 0 _ y rfl hy)
  | 1 => simp only [zr, List.getElem?_cons_succ, List.getElem?_cons_zero, Option.some.injEq] at hx; subst hx; exact qr (hc 1 _ y rfl hy)
  | 2 => simp only [zr, List.getElem?_cons_succ, List.getElem?_cons_zero, Option.some.injEq] at hx; subst hx; exact qr (hc 2 _ y rfl hy)
  | 3 => simp only [zr, List.getElem?_cons_succ, List.getElem?_cons_zero, Option.some.injEq] at hx; subst hx; exact qr (hc 3 _ y rfl hy)
  | 4 => simp only [zr, List.getElem?_cons_succ, List.getElem?_cons_zero, Option.some.injEq] at hx; subst hx; exact qr (hc 4 _ y rfl hy)
  | 5 => simp only [zr, List.getElem?_cons_succ, List.getElem?_cons_zero, Option.some.injEq] at hx; subst hx; exact qr (hc 5 _ y rfl hy)
  | 6 => simp only [zr, List.getElem?_cons_succ, List.getElem?_cons_zero, Option.some.injEq] at hx; subst hx; exact qr (hc 6 _ y rfl hy)
  | 7 => simp only [zr, List.getElem?_cons_succ, List.getElem?_cons_zero, Option.some.injEq] at hx; subst hx; exact hv.borrow xb Mj sto (hc 7 _ y rfl hy)
  | i + 8 => simp [zr] at hx
/-- A slice with room that lies not in a block. -/
def qv (v : AV) (p : Nat) : Prop := ∀ b n c, v = .s (.slice (some ⟨b, 0, none⟩) n c) -> 0 < c -> b ≠ p
theorem RowsQ.set {α : Type} {f : α -> List AV} {k : Nat} {S : Store} {v : AV} {l : List α} (h : RowsQ k f S v l) {p : Nat} (hp : qv v p) (x : AObj) : RowsQ k f (S.setObj p x) v l := by
 rcases h with (h | ⟨b, cap, L, rfl, ho, h2, h3⟩) | h
 ·exact .inl (.inl h)
 ·by_cases hc : 0 < cap
  ·exact .inl (.inr ⟨b, cap, L, rfl, by rw [zq (hp b _ _ rfl hc)]; exact ho, h2, h3⟩)
  ·have h0 : cap = 0 := by omega
   subst h0
   have hl : l = [] := List.eq_nil_of_length_eq_zero (by omega)
   subst hl
   exact .inr ⟨_, fun x hx => by cases hx; rfl, rfl, rfl⟩
 ·exact .inr h
theorem Bc {α : Type} {f : α -> List AV} {k : Nat} {S : Store} {v : AV} {l : List α} (h : RowsQ k f S v l) {p : Nat} (hp : S.obj p = none) : qv v p := by
 rcases h with (⟨rfl, rfl⟩ | ⟨b, cap, L, rfl, ho, h2⟩) | ⟨a, ha, rfl, rfl⟩
 ·intro b n c e
  simp at e
 ·intro b' n c e _
  simp only [AV.s.injEq, Value.slice.injEq, Option.some.injEq, Addr.mk.injEq] at e
  obtain ⟨⟨rfl, _⟩, _⟩ := e
  intro e2
  subst e2
  rw [hp] at ho
  cases ho
 ·intro b n c e hc
  simp only [AV.s.injEq, Value.slice.injEq] at e
  omega
/-- What a unit more makes of a world. -/
def spU (w : Wld) (c : Cmd) : Unt := ⟨w.next, c.P, c.N, (c.X, c.Y), -1, -1, 0, 0, 0⟩
def spW (w : Wld) (c : Cmd) : Wld := { w with U := w.U ++ [spU w c], next := w.next + 1 }
def Oy (w : Wld) : Prop := 4096 <= w.U.length \/ 1099511627776 <= w.next
open Classical in
noncomputable def spE (w : Wld) (c : Cmd) : Int := if Oy w then 4 else if y5 w 0 c.N (c.X, c.Y) then 0 else 5
end Go.V
namespace Go.V
/-- The first thing that is not right of several ones. -/
def Ib (f : Int -> Int) : List Int -> Int
 | [] => 0
 | a :: l => if f a = 0 then Ib f l else f a
def v7 (l : List Unt) (id : Int) : Option Nat := l.findIdx? fun u => decide (u.id = id)
def unt0 : Unt := ⟨0, 0, 0, (0, 0), 0, 0, 0, 0, 0⟩
theorem cn {l : List Unt} {id : Int} {i : Nat} (h : v7 l id = some i) : ∃ hi : i < l.length, l[i].id = id := by
 unfold v7 at h
 rw [List.findIdx?_eq_some_iff_getElem] at h
 obtain ⟨h1, h2, _⟩ := h
 exact ⟨h1, of_decide_eq_true h2⟩
theorem co {l : List Unt} {id : Int} (h : v7 l id = none) : ∀ u ∈ l, u.id ≠ id := by
 unfold v7 at h
 rw [List.findIdx?_eq_none_iff] at h
 exact fun u hu => of_decide_eq_false (h u hu)
theorem zrn {l : List Unt} (hr : yf l) {id : Int} {i : Nat} (hi : i < l.length) (e : l[i].id = id) : v7 l id = some i := by
 cases h : v7 l id with
 | none => exact absurd e (co h _ (List.getElem_mem hi))
 | some k =>
  obtain ⟨hk, e2⟩ := cn h
  by_cases h1 : k < i
  ·have := vm hr h1 hi; omega
  ·by_cases h2 : i < k
   ·have := vm hr h2 hk; omega
   ·rw [show k = i by omega]
/-- The unit of an ID. -/
def uAt (w : Wld) (id : Int) : Unt := match v7 w.U id with | none => unt0 | some i => w.U.getD i unt0
/-- What a player is told who asks for a unit. -/
def Gk (w : Wld) (P id : Int) : Int := match v7 w.U id with | none => 3 | some i => if (w.U.getD i unt0).owner = P then (if (w.U.getD i unt0).inn = 0 then 0 else 9) else 6
def zk9 (u : Unt) : Unt := { u with goal := -1, next := -1, stuck := 0, state := 0 }
/-- Some units are changed. -/
def S5 (l : List Int) (g : Unt -> Unt) (U : List Unt) : List Unt := U.map fun u => if u.id ∈ l then g u else u
/-- Units that are stopped. -/
def stW (w : Wld) (c : Cmd) : Wld := { w with U := S5 c.U zk9 w.U }
def stE (w : Wld) (c : Cmd) : Int := Ib (Gk w c.P) c.U
theorem Vp {α : Type} {f : α -> List AV} {k : Nat} (hf : ∀ x, (f x).length = k) {U : List α} {i : Nat} (hi : i < U.length) (x : α) (J : List AV) : zy ((rws f U).flatten ++ J) (i * k) (f x) = (rws f (U.set i x)).flatten ++ J := by
 have := Fi (j := 0) (ys := f x) (L := J) (x' := x) hf hi (by rw [hf]; omega) (by
  unfold zy
  rw [hf x, List.take_zero, List.nil_append, Nat.zero_add, List.drop_of_length_le (by rw [hf]; exact Nat.le_refl _), List.append_nil])
 rw [Nat.add_zero] at this
 exact this
section
variable {P : Program} {c : Cfg} {st : Store}
/-- What an append's source reads as. -/
structure SrcOK (P : Program) (st : Store) (k m : Nat) (x : AV) (xs : List AV) : Prop where
  out : ∀ (Oth M : Nat -> Nat -> Prop) (w : World) (xv : Value), StoreOK st Oth M w -> VRel w (fun b o => M b o \/ Oth b o) x xv ->
    (Builtin.lenOf xv).run P w = .ok m w /\ ∃ new : Array Value, Reads w (fun b o => M b o \/ Oth b o) xs new.toList /\ (∀ v ∈ new.toList, y6 v = true) /\ new.size = m * k /\ ∀ w', w'.heap = w.heap -> (Builtin.firstCells k m xv).run P w' = .ok new w'
/-- A slice over an object, anywhere in it. -/
theorem SrcOK.obj {k m o b cp : Nat} {l : List AV} (ho : st.obj b = some (.cells l)) (hl : o + m * k <= l.length) (h1 : ∀ y ∈ (l.drop o).take (m * k), y.one = true) : SrcOK P st k m (.s (.slice (some ⟨b, o, none⟩) m cp)) ((l.drop o).take (m * k)) := by
  refine ⟨fun Oth M w xv sto hxv => ?_⟩
  have hxv := VRel.eq_s hxv
  subst hxv
  obtain ⟨cs, e, fr, hb, _, hlen, hrel⟩ := (sto.obj b _ ho).1
  have hreads : Reads w (fun b o => M b o \/ Oth b o) ((l.drop o).take (m * k)) ((List.range' 0 (m * k)).map fun i => cs.getD (o + i) undef) := by
    refine ⟨by simp; omega, fun i x y hx hy => ?_⟩
    have hi : i < m * k := by
      have := (List.getElem?_eq_some_iff.1 hx).1
      simp at this; omega
    rw [List.getElem?_take_of_lt hi, List.getElem?_drop] at hx
    simp [hi] at hy
    subst hy
    refine hrel (o + i) x _ hx ?_
    rw [Array.getElem?_eq_getElem (by omega)]
    simp [show o + i < cs.size by omega]
  refine ⟨by simp [Builtin.lenOf], ((List.range' 0 (m * k)).map fun i => cs.getD (o + i) undef).toArray, by simpa using hreads, by simpa using Wi hreads h1, by simp, fun w' hw => ?_⟩
  have := Fk (P := P) ⟨b, o, none⟩ w' (fun i => cs.getD (o + i) undef) (m * k) 0 #[] (fun p hp0 hp => by
    rw [jm, Ou hw]
    simp only [World.cell?, hb]
    have : o + p < cs.size := by omega
    simp [this])
  simp only [Builtin.firstCells, loadCells]
  simpa using this
end
section
variable {P : Program} {c : Cfg} {st : Store}
end
section
variable {α : Type} {f : α -> List AV} {k : Nat}
end
instance (a b : Bld) : Decidable (vr a b) := inferInstanceAs (Decidable (_ /\ _))
/-- The building that is to come. -/
def bdB (w : Wld) (c : Cmd) : Bld := ⟨w.next, c.P, c.T.tmod w.G.W, c.T.tdiv w.G.W, c.W, c.H⟩
open Classical in
noncomputable def Wa (g : Gnd) (l : List Bld) (b : Bld) : Int := if ¬ onP g b then 3 else if ∃ x ∈ l, vr x b then 12 else if ¬ Ak g b then 5 else if 256 <= l.length then 4 else 0
def zos (w : Wld) (b : Bld) : Prop := ∃ t : Nat, ((t : Int) < w.G.W * w.G.H /\ x5 w.G b t) /\ ∃ u ∈ w.U, u.inn = 0 /\ x4 w.G t u.pos (zm u.kind)
open Classical in
noncomputable def bdE (w : Wld) (c : Cmd) : Int := if ¬ (0 <= c.T /\ c.T < w.G.W * w.G.H) then 3 else if 1099511627776 <= w.next then 4 else if Wa w.G w.B (bdB w c) = 0 then (if zos w (bdB w c) then 5 else 0) else Wa w.G w.B (bdB w c)
def bdW (w : Wld) (c : Cmd) : Wld := { w with B := w.B ++ [bdB w c], next := w.next + 1 }
def ztz : Bld := ⟨0, 0, 0, 0, 0, 0⟩
def cq (l : List Bld) (id : Int) : Option Nat := l.findIdx? fun b => decide (b.id = id)
/-- A building less. -/
def drE (w : Wld) (c : Cmd) : Int := match cq w.B c.N with | none => 3 | some i => if (w.B.getD i ztz).owner = c.P then 0 else 6
def drW (w : Wld) (c : Cmd) : Wld := match cq w.B c.N with | none => w | some i => { w with B := w.B.eraseIdx i }
end Go.V
namespace Go.V
/-- A whole root, cut at the greatest number. -/
def Bh (m r : Int) : Prop := 0 <= r /\ r <= 9223372036854775807 /\ r * r <= m /\ (r = 9223372036854775807 \/ m < (r + 1) * (r + 1))
theorem zpb {m r r' : Int} (h : Bh m r) (h' : Bh m r') : r = r' := by
 obtain ⟨h0, h1, h2, h3⟩ := h
 obtain ⟨g0, g1, g2, g3⟩ := h'
 have a : ¬ r < r' := fun hlt => by
  rcases h3 with h3 | h3
  ·omega
  ·have := Int.mul_le_mul (show r + 1 <= r' by omega) (show r + 1 <= r' by omega) (by omega) g0
   omega
 have b : ¬ r' < r := fun hlt => by
  rcases g3 with h3 | h3
  ·omega
  ·have := Int.mul_le_mul (show r' + 1 <= r by omega) (show r' + 1 <= r by omega) (by omega) h0
   omega
 omega
/-- Farther than 2? -/
def O8 (p q : Vc) : Prop := 17180131329 <= sqr (y8 p q)
instance (p q : Vc) : Decidable (O8 p q) := inferInstanceAs (Decidable (_ <= _))
/-- Loading. -/
def Ll (w : Wld) (P N : Int) : Int := if Gk w P N = 0 then (if xl (uAt w N).kind = 0 then 7 else 0) else Gk w P N
def zol (x u : Unt) : Int := if 0 < xl u.kind then 7 else if O8 u.pos x.pos then 8 else 0
def ldA (w : Wld) (P N id : Int) : Int := if Gk w P id = 0 then zol (uAt w N) (uAt w id) else Gk w P id
def ldE (w : Wld) (c : Cmd) : Int := if Ll w c.P c.N = 0 then (if Ib (ldA w c.P c.N) c.U = 0 then (if xl (uAt w c.N).kind < ((yb w.U c.N).length : Int) + (c.U.length : Int) then 4 else 0) else Ib (ldA w c.P c.N) c.U) else Ll w c.P c.N
def ldU (n : Int) (u : Unt) : Unt := { u with pos := (0, 0), goal := -1, next := -1, stuck := 0, inn := n, state := 0 }
def ldW (w : Wld) (c : Cmd) : Wld := { w with U := S5 c.U (ldU c.N) w.U }
/-- One bit below a number's bits. -/
theorem znm {n : Int} {q m : Nat} (h0 : 0 <= n) (h1 : n < 2 ^ m) (h2 : n + q * 2 ^ m < 18446744073709551616) : xq .or .u64 (q * 2 ^ m) n = q * 2 ^ m + n := by
 obtain ⟨a, rfl⟩ := Int.eq_ofNat_of_zero_le h0
 have e : ((q : Int) * 2 ^ m) = ((q * 2 ^ m : Nat) : Int) := by simp
 have h1' : a < 2 ^ m := by exact_mod_cast h1
 rw [e] at h2 ⊢
 have h3 : a + q * 2 ^ m < 18446744073709551616 := by omega
 rw [(fe (q * 2 ^ m) a (by omega) (by omega)).2, Nat.or_comm, Ws a q m h1', kw (by omega) (by omega)]
 simp
 omega
theorem zip {k : Nat} (hk : k <= 62) : IntKind.u64.wrap (1 * 2 ^ (min ((k : Int)).toNat IntKind.u64.bits)) = 2 ^ k := by
 have : (min ((k : Int)).toNat IntKind.u64.bits) = k := by
  show min ((k : Int)).toNat 64 = k
  omega
 rw [this, Int.one_mul]
 have h : (2 : Int) ^ k <= 2 ^ 62 := by exact_mod_cast Nat.pow_le_pow_right (by decide) hk
 have h0 : (0 : Int) < 2 ^ k := Int.pow_pos (by decide)
 have h2 : (2 : Int) ^ 62 = 4611686018427387904 := by decide
 exact kw (by omega) (by omega)
/-- The road to a root: bits from k on are reckoned. -/
def By (m r : Int) (k : Nat) : Prop := ∃ q : Nat, r = q * 2 ^ k /\ r + 2 ^ k <= 9223372036854775808 /\ r * r <= m /\ (m < (r + 2 ^ k) * (r + 2 ^ k) \/ r + 2 ^ k = 9223372036854775808)
theorem zlm {m : Int} (hm : 0 <= m) : By m 0 63 := ⟨0, by simp, by decide, by simpa using hm, .inr (by decide)⟩
theorem zlo {m r : Int} (h : By m r 0) : Bh m r := by
 obtain ⟨q, e, h1, h2, h3⟩ := h
 have e1 : (2 : Int) ^ 0 = 1 := rfl
 rw [e1] at h1 h3 e
 exact ⟨by omega, by omega, h2, h3.symm.imp (fun h => by omega) id⟩
theorem zlp {m r : Int} {k : Nat} (h : By m r (k + 1)) : xq .or .u64 r (2 ^ k) = r + 2 ^ k /\ 0 <= r /\ (0 : Int) < 2 ^ k /\ r + 2 ^ k < 9223372036854775808 := by
 obtain ⟨q, e, h1, h2, h3⟩ := h
 have h0 : (0 : Int) < 2 ^ k := Int.pow_pos (by decide)
 have e2 : (2 : Int) ^ (k + 1) = 2 * 2 ^ k := by rw [Int.pow_succ, Int.mul_comm]
 have hr : 0 <= r := by rw [e]; exact Int.mul_nonneg (by omega) (by omega)
 rw [e2] at h1
 refine ⟨?_, hr, h0, by omega⟩
 rw [e]
 refine znm (by omega) (by rw [e2]; omega) ?_
 rw [<- e]; omega
theorem zln {m r : Int} {k : Nat} (h : By m r (k + 1)) (hn : m < (r + 2 ^ k) * (r + 2 ^ k)) : By m r k := by
 obtain ⟨q, e, h1, h2, h3⟩ := h
 have e2 : (2 : Int) ^ (k + 1) = 2 * 2 ^ k := by rw [Int.pow_succ, Int.mul_comm]
 have h0 : (0 : Int) < 2 ^ k := Int.pow_pos (by decide)
 rw [e2] at h1
 refine ⟨2 * q, ?_, by omega, h2, .inl hn⟩
 rw [e, e2]
 push_cast
 rw [<- Int.mul_assoc, Int.mul_comm (q : Int) 2]
theorem zll {m r : Int} {k : Nat} (h : By m r (k + 1)) (hn : (r + 2 ^ k) * (r + 2 ^ k) <= m) : By m (r + 2 ^ k) k := by
 obtain ⟨q, e, h1, h2, h3⟩ := h
 have e2 : (2 : Int) ^ (k + 1) = 2 * 2 ^ k := by rw [Int.pow_succ, Int.mul_comm]
 have h0 : (0 : Int) < 2 ^ k := Int.pow_pos (by decide)
 rw [e2] at h1 h3
 have e3 : r + 2 ^ k + 2 ^ k = r + 2 * 2 ^ k := by omega
 refine ⟨2 * q + 1, ?_, by omega, hn, by rw [e3]; exact h3⟩
 rw [e, e2]
 push_cast
 rw [Int.add_mul, Int.one_mul, <- Int.mul_assoc, Int.mul_comm (q : Int) 2]
def qf (g : Gnd) (t : Nat) : Vc := (tx g t + 32768, ty g t + 32768)
/-- Good places for a kind about a tile. -/
def Sy (w : Wld) (k tile : Int) (n : Nat) : List Nat := zil w.G (zv w.G w.B (yh k) (x3 k)) (x3 k) tile n
open Classical in
/-- Where a unit comes out. -/
noncomputable def zni (w : Wld) (u : Unt) (tile : Int) : Option Nat := (Sy w u.kind tile 64).find? fun t => decide (y5 w u.id u.kind (qf w.G t))
def lf (u : Unt) (p : Vc) : Unt := { u with pos := p, inn := 0 }
/-- One behind the other comes out. -/
noncomputable def unl (tile : Int) : List Int -> Wld -> Option Wld
 | [], w => some w
 | id :: l, w => match v7 w.U id with
  | none => none
  | some i => match zni w (w.U.getD i unt0) tile with
   | none => none
   | some t => unl tile l { w with U := w.U.set i (lf (w.U.getD i unt0) (qf w.G t)) }
open Classical in
noncomputable def ulE (w : Wld) (c : Cmd) : Int :=
 if Ll w c.P c.N = 0 then
  (if 0 <= c.T /\ c.T < w.G.W * w.G.H then
   (if O8 (qf w.G c.T.toNat) (uAt w c.N).pos then 8 else (match unl c.T (yb w.U c.N) w with | none => 5 | some _ => 0))
  else 3)
 else Ll w c.P c.N
noncomputable def ulW (w : Wld) (c : Cmd) : Wld := (unl c.T (yb w.U c.N) w).getD w
/-- The entries of a stand, when a unit is put. -/
def ve (L : List Ent) (u : Unt) : List Ent := if u.inn = 0 then yi L u.id ++ [(u.id, u.pos)] else yi L u.id
theorem Wl {w : Wld} {L : List Ent} (hF : j3 w L) (hr : yf w.U) {i : Nat} (hi : i < w.U.length) {u : Unt} (hid : w.U[i].id = u.id) : j3 { w with U := w.U.set i u } (ve L u) := by
 have old : ∀ e, e ∈ yi L u.id ↔ ∃ j, ∃ hj : j < w.U.length, j ≠ i /\ w.U[j].inn = 0 /\ e = (w.U[j].id, w.U[j].pos) := fun e => by
  rw [mem_dropId, hF e]
  constructor
  ·rintro ⟨⟨x, hx, h0, rfl⟩, hne⟩
   obtain ⟨j, hj, rfl⟩ := List.getElem_of_mem hx
   exact ⟨j, hj, fun e => hne (by subst e; exact hid), h0, rfl⟩
  ·rintro ⟨j, hj, hji, h0, rfl⟩
   refine ⟨⟨w.U[j], List.getElem_mem hj, h0, rfl⟩, fun e => hji ?_⟩
   have e : w.U[j].id = u.id := e
   by_cases h1 : j < i
   ·have := w8 hr h1 hi; omega
   ·by_cases h2 : i < j
    ·have := w8 hr h2 hj; omega
    ·omega
 intro e
 have key : (∃ y ∈ w.U.set i u, y.inn = 0 /\ e = (y.id, y.pos)) ↔ (u.inn = 0 /\ e = (u.id, u.pos)) \/ ∃ j, ∃ hj : j < w.U.length, j ≠ i /\ w.U[j].inn = 0 /\ e = (w.U[j].id, w.U[j].pos) := by
  constructor
  ·rintro ⟨y, hy, h0, he⟩
   obtain ⟨j, hj, rfl⟩ := List.getElem_of_mem hy
   rw [List.length_set] at hj
   rw [List.getElem_set] at h0 he
   split at h0
   ·rename_i hh
    rw [if_pos hh] at he
    exact .inl ⟨h0, he⟩
   ·rename_i hh
    rw [if_neg hh] at he
    exact .inr ⟨j, hj, Ne.symm hh, h0, he⟩
  ·rintro (⟨h0, he⟩ | ⟨j, hj, hji, h0, he⟩)
   ·exact ⟨u, List.mem_set hi u, h0, he⟩
   ·refine ⟨w.U[j], ?_, h0, he⟩
    have hj2 : j < (w.U.set i u).length := by rw [List.length_set]; exact hj
    have : (w.U.set i u)[j] = w.U[j] := by rw [List.getElem_set, if_neg (Ne.symm hji)]
    rw [<- this]
    exact List.getElem_mem hj2
 show e ∈ ve L u ↔ ∃ y ∈ w.U.set i u, y.inn = 0 /\ e = (y.id, y.pos)
 rw [key]
 unfold ve
 split
 ·rename_i h0
  rw [List.mem_append, old, List.mem_singleton]
  constructor
  ·rintro (h | h)
   ·exact .inr h
   ·exact .inl ⟨h0, h⟩
  ·rintro (h | h)
   ·exact .inr h.2
   ·exact .inl h
 ·rename_i h0
  rw [old]
  exact ⟨.inr, fun h => h.resolve_left fun hh => h0 hh.1⟩
theorem Wm {w : Wld} {L : List Ent} (hn : (L.map (·.1)).Nodup) (hF : j3 w L) : L.length <= w.U.length := by
 have := List.Nodup.length_le_of_subset (l₂ := w.U.map (·.id)) hn (fun id hid => by
  obtain ⟨e, he, rfl⟩ := List.mem_map.1 hid
  obtain ⟨u, hu, _, rfl⟩ := (hF e).1 he
  exact List.mem_map.2 ⟨u, hu, rfl⟩)
 rw [List.length_map, List.length_map] at this
 exact this
/-- A unit is put: IDs rise as before. -/
theorem zlw {U : List Unt} (hr : yf U) {i : Nat} (hi : i < U.length) {u : Unt} (hid : U[i].id = u.id) : yf (U.set i u) := by
 intro j hj h0
 rw [List.length_set] at hj
 have := hr j hj h0
 have id' : ∀ k, (hk : k < U.length) -> ((U.set i u)[k]'(by rw [List.length_set]; exact hk)).id = U[k].id := fun k hk => by
  rw [List.getElem_set]
  split
  ·rename_i e; subst e; exact hid.symm
  ·rfl
 rw [id' _ (by omega), id' _ hj]
 exact this
def mvG (g : Int) (u : Unt) : Unt := { u with goal := g, next := -1, stuck := 0, state := 1 }
def zoc (w : Wld) (c : Cmd) (k : Nat) (kd : Int) : Int := match (Sy w kd c.T c.U.length)[k]? with | some t => (t : Int) | none => c.T
def mvL (w : Wld) (c : Cmd) : Nat -> List Unt
 | 0 => w.U
 | k + 1 => match v7 w.U (c.U.getD k 0) with
  | some i => (mvL w c k).set i (mvG (zoc w c k (w.U.getD i unt0).kind) (w.U.getD i unt0))
  | none => mvL w c k
def mvE (w : Wld) (c : Cmd) : Int := if 0 <= c.T /\ c.T < w.G.W * w.G.H then Ib (Gk w c.P) c.U else 3
def mvW (w : Wld) (c : Cmd) : Wld := { w with U := mvL w c c.U.length }
theorem Wv {a b : Unt} (h : mvG 0 a = mvG 0 b) : a.id = b.id /\ a.owner = b.owner /\ a.kind = b.kind /\ a.pos = b.pos /\ a.inn = b.inn := by
 refine ⟨?_, ?_, ?_, ?_, ?_⟩
 ·have := congrArg Unt.id h
  exact this
 ·have := congrArg Unt.owner h
  exact this
 ·have := congrArg Unt.kind h
  exact this
 ·have := congrArg Unt.pos h
  exact this
 ·have := congrArg Unt.inn h
  exact this
noncomputable def aE (w : Wld) (c : Cmd) : Int := if c.K = 1 then spE w c else if c.K = 2 then mvE w c else if c.K = 3 then stE w c else if c.K = 4 then bdE w c else if c.K = 5 then drE w c else if c.K = 6 then ldE w c else ulE w c
noncomputable def aW (w : Wld) (c : Cmd) : Wld := if c.K = 1 then spW w c else if c.K = 2 then mvW w c else if c.K = 3 then stW w c else if c.K = 4 then bdW w c else if c.K = 5 then drW w c else if c.K = 6 then ldW w c else ulW w c
theorem a1 {w : Wld} {c : Cmd} (h : c.K = 1) : aE w c = spE w c /\ aW w c = spW w c := by unfold aE aW; rw [h]; exact ⟨rfl, rfl⟩
theorem a2 {w : Wld} {c : Cmd} (h : c.K = 2) : aE w c = mvE w c /\ aW w c = mvW w c := by unfold aE aW; rw [h]; exact ⟨rfl, rfl⟩
theorem a3 {w : Wld} {c : Cmd} (h : c.K = 3) : aE w c = stE w c /\ aW w c = stW w c := by unfold aE aW; rw [h]; exact ⟨rfl, rfl⟩
theorem a4 {w : Wld} {c : Cmd} (h : c.K = 4) : aE w c = bdE w c /\ aW w c = bdW w c := by unfold aE aW; rw [h]; exact ⟨rfl, rfl⟩
theorem a5 {w : Wld} {c : Cmd} (h : c.K = 5) : aE w c = drE w c /\ aW w c = drW w c := by unfold aE aW; rw [h]; exact ⟨rfl, rfl⟩
theorem a6 {w : Wld} {c : Cmd} (h : c.K = 6) : aE w c = ldE w c /\ aW w c = ldW w c := by unfold aE aW; rw [h]; exact ⟨rfl, rfl⟩
theorem a7 {w : Wld} {c : Cmd} (h : c.K = 7) : aE w c = ulE w c /\ aW w c = ulW w c := by unfold aE aW; rw [h]; exact ⟨rfl, rfl⟩
instance (g : Gnd) (t : Nat) (p : Vc) (r : Int) : Decidable (x4 g t p r) := by unfold x4; infer_instance
instance (g : Gnd) (b : Bld) : Decidable (Ak g b) := by unfold Ak; infer_instance
instance (g : Gnd) (b : Bld) : Decidable (onP g b) := by unfold onP; infer_instance
instance (b : Bld) : Decidable (z7 b) := by unfold z7; infer_instance
instance (a b : Bld) : Decidable (vr a b) := by unfold vr; infer_instance
instance (l : List Bld) : Decidable (Hd l) := by unfold Hd; infer_instance
instance (l : List Bld) : Decidable (Lu l) := by unfold Lu; infer_instance
instance (g : Gnd) : Decidable (zl g) := by unfold zl; infer_instance
instance (g : Gnd) (l : List Bld) : Decidable (Cs g l) := by unfold Cs; infer_instance
instance (g : Gnd) (l : List Bld) (c : Int) (p : Vc) (r : Int) : Decidable (ku g l c p r) := by unfold ku; infer_instance
instance (w : Wld) (id k : Int) (p : Vc) : Decidable (y5 w id k p) := by unfold y5; infer_instance
instance (k : Int) : Decidable (jt k) := by unfold jt; infer_instance
instance (g : Gnd) (t : Int) : Decidable (jq g t) := by unfold jq; infer_instance
instance (w : Wld) (u : Unt) : Decidable (jy w u) := by unfold jy; infer_instance
instance (w : Wld) : Decidable (Cl w) := by unfold Cl; infer_instance
instance (l : List Unt) : Decidable (yf l) := by unfold yf; infer_instance
instance (w : Wld) : Decidable (Cy w) := by unfold Cy; infer_instance
instance (w : Wld) (u : Unt) : Decidable (j2 w u) := by unfold j2; infer_instance
instance (w : Wld) : Decidable (yg w) := by unfold yg; infer_instance
instance (x y : Int) : Decidable (qu x y) := by unfold qu; infer_instance
instance (w : Wld) : Decidable (Oy w) := by unfold Oy; infer_instance
def qi (a b : Vc) : Vc := (yk a.1 b.1, yk a.2 b.2)
def ym (v : Vc) : Vc := (nrm v.1, nrm v.2)
def qz (v : Vc) (k : Nat) : Vc := (v.1.tdiv (2 ^ k : Nat), v.2.tdiv (2 ^ k : Nat))
/-- The root, bit by bit. -/
def I5 (m : Int) : Nat -> Int -> Int
 | 0, r => r
 | b + 1, r => I5 m b (if (r + (2 ^ b : Nat)) * (r + (2 ^ b : Nat)) <= m then r + (2 ^ b : Nat) else r)
def xc (m : Int) : Int := I5 m 63 0
theorem zlq {m : Int} (hm : 0 <= m) : ∀ (b : Nat) (r : Int), 0 <= r -> r * r <= m -> (r + (2 ^ b : Nat) = 9223372036854775808 \/ m < (r + (2 ^ b : Nat)) * (r + (2 ^ b : Nat))) -> r + (2 ^ b : Nat) <= 9223372036854775808 -> Bh m (I5 m b r) := by
 intro b
 induction b with
 | zero =>
  intro r h0 h1 h2 h3
  refine ⟨h0, ?_, h1, ?_⟩
  ·simp only [Nat.pow_zero] at h3
   show r <= _
   omega
  ·show r = _ \/ _
   simp only [Nat.pow_zero] at h2
   rcases h2 with h2 | h2
   ·exact .inl (by omega)
   ·exact .inr h2
 | succ b ih =>
  intro r h0 h1 h2 h3
  have hp : (2 ^ (b + 1) : Nat) = 2 ^ b + 2 ^ b := by rw [Nat.pow_succ]; omega
  have hq : 0 < 2 ^ b := Nat.pow_pos (by decide)
  rw [hp] at h2 h3
  generalize hB : 2 ^ b = B at *
  show Bh m (I5 m b (if _ then _ else _))
  rw [hB]
  split
  ·rename_i hle
   refine ih (r + (B : Nat)) (by omega) hle ?_ (by omega)
   rw [Int.add_assoc, show ((B : Nat) : Int) + (B : Nat) = ((B + B : Nat) : Int) by omega]
   exact h2
  ·rename_i hle
   exact ih r h0 h1 (.inr (by omega)) (by omega)
theorem Fl {m : Int} (hm : 0 <= m) : Bh m (xc m) := zlq hm 63 0 (by decide) (by simpa using hm) (.inl (by decide)) (by decide)
theorem Vs {m r : Int} (hm : 0 <= m) (h : Bh m r) : r = xc m := zpb h (Fl hm)
/-- A part of a way that is cut. -/
def Bm (c most long : Int) : Int := if c < 0 then -((-c) * most / long) else c * most / long
def xg (v : Vc) (most : Int) : Vc :=
 if xc (sqr v) <= max most 0 then ym v else (Bm (nrm v.1) (max most 0) (xc (sqr v)), Bm (nrm v.2) (max most 0) (xc (sqr v)))
def Ip (p q : Vc) (speed : Int) : Vc := xg (y8 q p) speed
/-- What pushes one away from another one. -/
def kg (p : Vc) (r : Int) (q : Vc) : Vc :=
 if near p q r then xg (if y8 p q = (0, 0) then (65536, 0) else y8 p q) (r - xc (sqr (y8 p q))) else (0, 0)
instance (w : Wld) (id k : Int) (p : Vc) : Decidable (y5 w id k p) := by unfold y5 ku; infer_instance
/-- Where a unit comes to by a step, and how often that was halved. -/
def yy (w : Wld) (u : Unt) (v : Vc) : Nat -> Nat -> Option (Nat × Vc)
 | 0, _ => none
 | n + 1, k => if qz v k = (0, 0) then none else if y5 w u.id u.kind (qi u.pos (qz v k)) then some (k, qi u.pos (qz v k)) else yy w u v n (k + 1)
def ya (w : Wld) (u : Unt) : Wld := { w with U := w.U.map fun x => if x.id = u.id then u else x }
def qt (w : Wld) (u : Unt) (v : Vc) : Int := match yy w u (ym v) 5 0 with | none => 5 | some (k, _) => (k : Int)
def yq (w : Wld) (u : Unt) (v : Vc) : Wld := match yy w u (ym v) 5 0 with | none => w | some (_, p) => ya w { u with pos := p }
/-- What pushes one without a goal. -/
def F4 (w : Wld) (u : Unt) : Vc := w.U.foldl (fun v x => if x.inn = 0 /\ x.id ≠ u.id then qi v (kg u.pos (zm u.kind + zm x.kind + 16384) x.pos) else v) (0, 0)
def Ag (w : Wld) (u : Unt) : Wld := yq w u (xg (F4 w u) ((kp u.kind).tdiv 4))
def j6 (s : Int) (u : Unt) : Unt := { u with goal := -1, next := -1, stuck := 0, state := s }
def okU (w : Wld) (u : Unt) (t : Nat) : Bool := zv w.G w.B (yh u.kind) (x3 u.kind) t
def Dk (w : Wld) (u : Unt) (own : Nat) : Bool :=
 decide (u.next = -1) || decide (u.pos = qf w.G u.next.toNat) || !okU w u u.next.toNat || (decide (u.next ≠ own) && !(Ae w.G own).contains u.next)
/-- The next tile; below 0: there is none. -/
noncomputable def Bd (w : Wld) (u : Unt) (own : Nat) : Int :=
 if u.pos ≠ qf w.G own then own else
  (let way := qh w.G (okU w u) (yh u.kind) (xd w.G (okU w u) (yh u.kind) u.goal.toNat) own
   if way < 0 then -1 else zx w.G own way.toNat)
/-- One step toward the next tile. -/
def Bx (w : Wld) (u : Unt) : Wld :=
 if qt (ya w { u with stuck := 0 }) { u with stuck := 0 } (Ip u.pos (qf w.G u.next.toNat) (kp u.kind)) < 5 then yq (ya w { u with stuck := 0 }) { u with stuck := 0 } (Ip u.pos (qf w.G u.next.toNat) (kp u.kind))
 else if u.stuck + 1 = 8 then ya w (j6 4 u) else ya w { u with stuck := u.stuck + 1, next := -1 }
noncomputable def Ds (w : Wld) (u : Unt) : Wld :=
 if u.pos = qf w.G u.goal.toNat then ya w (j6 2 u)
 else if Dk w u (ja w.G u.pos) then
  (if Bd w u (ja w.G u.pos) < 0 then ya w (j6 3 u) else Bx w { u with next := Bd w u (ja w.G u.pos) })
 else Bx w u
/-- What a unit on the field does in a tick. -/
noncomputable def kl (w : Wld) (u : Unt) : Wld := if u.goal = -1 then Ag w u else Ds w u
theorem Sr (x y : Int) : (x - y) * (x - y) = (y - x) * (y - x) := by
 have : y - x = -(x - y) := by omega
 rw [this, Int.neg_mul_neg]
theorem zug {g : Gnd} (hg : zl g) {l : List Bld} {c c' : Int} {p q : Vc} {k k' : Int} (hp : ku g l c p (zm k)) (hq : ku g l c' q (zm k')) : qo p (zm k) q (zm k') = qo q (zm k') p (zm k) := by
 have b1 := Kx hg hp
 have b2 := Kx hg hq
 have r1 := Hg k
 have r2 := Hg k'
 unfold qo
 rw [N4 (by omega) (by omega) (by omega) (by omega) (by omega), N4 (by omega) (by omega) (by omega) (by omega) (by omega), Sr p.1, Sr p.2, Int.add_comm (zm k)]
theorem d9 {w w' : Wld} {id k : Int} {p : Vc} (hG : w'.G = w.G) (hB : w'.B = w.B) (h : ∀ v ∈ w'.U, v.inn = 0 -> v.id ≠ id -> ∃ x ∈ w.U, x.inn = 0 /\ x.id ≠ id /\ x.pos = v.pos /\ x.kind = v.kind) (hc : y5 w id k p) : y5 w' id k p := by
 refine ⟨by rw [hG, hB]; exact hc.1, fun v hv h0 hid => ?_⟩
 obtain ⟨x, hx, e1, e2, e3, e4⟩ := h v hv h0 hid
 rw [<- e3, <- e4]
 exact hc.2 x hx e1 e2
theorem bh (l : List Unt) (id : Int) : yb l id = ((l.map fun u => (u.inn, u.id)).filter fun x => x.1 == id).map (·.2) := by
 unfold yb
 rw [List.filter_map, List.map_map]
 rfl
theorem zpo {U U' : List Unt} (hl : U'.length = U.length) (h : ∀ j, (hj : j < U.length) -> (U'[j]'(by omega)).inn = U[j].inn /\ (U'[j]'(by omega)).id = U[j].id) (id : Int) : yb U' id = yb U id := by
 rw [bh, bh]
 have : (U'.map fun u => (u.inn, u.id)) = U.map fun u => (u.inn, u.id) := by
  apply List.ext_getElem (by rw [List.length_map, List.length_map]; exact hl)
  intro j h1 h2
  rw [List.length_map] at h1 h2
  rw [List.getElem_map, List.getElem_map, (h j h2).1, (h j h2).2]
 rw [this]
theorem zlx {U U' : List Unt} (hl : U'.length = U.length) (h : ∀ j, (hj : j < U.length) -> (U'[j]'(by omega)).id = U[j].id) (hr : yf U) : yf U' := by
 intro j hj h0
 rw [hl] at hj
 have := hr j hj h0
 rw [h _ (by omega), h _ hj]
 exact this
/-- Orders are turned, of such as are on the field. -/
theorem zoy {w : Wld} (hm : yg w) {U : List Unt} (hl : U.length = w.U.length) (h1 : ∀ j, (hj : j < w.U.length) -> mvG 0 (U[j]'(by omega)) = mvG 0 w.U[j]) (h2 : ∀ j, (hj : j < w.U.length) -> w.U[j].inn ≠ 0 -> U[j]'(by omega) = w.U[j]) (h3 : ∀ j, (hj : j < w.U.length) -> jy w (U[j]'(by omega))) : yg { w with U := U } := by
 obtain ⟨⟨hh, hr, hu⟩, hc, hd⟩ := hm
 have same := fun j hj => Wv (h1 j hj)
 have back : ∀ v ∈ U, ∃ j, ∃ hj : j < w.U.length, v = U[j]'(by omega) := fun v hv => by
  obtain ⟨j, hj, rfl⟩ := List.getElem_of_mem hv
  exact ⟨j, by omega, rfl⟩
 have hin := zpo hl (fun j hj => ⟨(same j hj).2.2.2.2, (same j hj).1⟩)
 refine ⟨⟨⟨hh.1, ⟨hh.2.1.1, hh.2.1.2.1, by show U.length <= _; rw [hl]; exact hh.2.1.2.2⟩, hh.2.2⟩, zlx hl (fun j hj => (same j hj).1) hr, fun v hv => ?_⟩, fun v hv h0 => ?_, fun v hv h0 => ?_⟩
 ·obtain ⟨j, hj, rfl⟩ := back v hv
  refine ⟨h3 j hj, fun b hb => ?_⟩
  rw [(same j hj).1]
  exact (hu _ (List.getElem_mem hj)).2 b hb
 ·obtain ⟨j, hj, rfl⟩ := back v hv
  obtain ⟨e1, _, e3, e4, e5⟩ := same j hj
  rw [e1, e3, e4]
  refine d9 (w := w) rfl rfl (fun x hx hx0 hxi => ?_) (hc _ (List.getElem_mem hj) (by rw [<- e5]; exact h0))
  obtain ⟨k, hk, rfl⟩ := back x hx
  obtain ⟨f1, _, f3, f4, f5⟩ := same k hk
  exact ⟨_, List.getElem_mem hk, by rw [<- f5]; exact hx0, by rw [<- f1]; exact hxi, f4.symm, f3.symm⟩
 ·obtain ⟨j, hj, rfl⟩ := back v hv
  have e5 := (same j hj).2.2.2.2
  rw [e5] at h0
  rw [h2 j hj h0]
  obtain ⟨x, hx, g1, g2, g3, g4⟩ := hd _ (List.getElem_mem hj) h0
  obtain ⟨k, hk, rfl⟩ := List.getElem_of_mem hx
  obtain ⟨f1, f2, f3, f4, f5⟩ := same k hk
  refine ⟨U[k]'(by omega), List.getElem_mem _, by rw [f1]; exact g1, ⟨by rw [f5]; exact g2.1, by rw [f2]; exact g2.2⟩, ?_, g4⟩
  show ((yb U _).length : Int) <= _
  rw [hin, f3]
  exact g3
theorem ct {q : Unt -> Bool} {x : Unt} (hx : q x = false) : ∀ (U : List Unt) (i : Nat), ((U.set i x).filter q).length <= (U.filter q).length
 | [], _ => Nat.le_refl _
 | a :: l, 0 => by
  rw [List.set_cons_zero, List.filter_cons, List.filter_cons]
  simp only [hx, Bool.false_eq_true, if_false]
  split
  ·rw [List.length_cons]; omega
  ·exact Nat.le_refl _
 | a :: l, i + 1 => by
  rw [List.set_cons_succ, List.filter_cons, List.filter_cons]
  have := ct hx l i
  split
  ·simp only [List.length_cons]; omega
  ·exact this
/-- A unit is put where it is clear. -/
theorem zox {w : Wld} (hm : yg w) {i : Nat} (hi : i < w.U.length) {p : Vc} (hp : y5 w w.U[i].id w.U[i].kind p) : yg { w with U := w.U.set i { w.U[i] with pos := p, inn := 0 } } := by
 obtain ⟨⟨hh, hr, hu⟩, hc, hd⟩ := hm
 have hg := hh.2.1.1
 have hl : (w.U.set i { w.U[i] with pos := p, inn := 0 }).length = w.U.length := List.length_set
 have get : ∀ j, (hj : j < w.U.length) -> (w.U.set i { w.U[i] with pos := p, inn := 0 })[j]'(by omega) = if i = j then { w.U[i] with pos := p, inn := 0 } else w.U[j] := fun j hj => List.getElem_set ..
 have back : ∀ v ∈ w.U.set i { w.U[i] with pos := p, inn := 0 }, v = { w.U[i] with pos := p, inn := 0 } \/ ∃ j, ∃ hj : j < w.U.length, j ≠ i /\ v = w.U[j] := fun v hv => by
  obtain ⟨j, hj, rfl⟩ := List.getElem_of_mem hv
  rw [hl] at hj
  rw [get j hj]
  split
  ·exact .inl rfl
  ·rename_i e; exact .inr ⟨j, hj, Ne.symm e, rfl⟩
 have idne : ∀ j, (hj : j < w.U.length) -> j ≠ i -> w.U[j].id ≠ w.U[i].id := fun j hj hne e => by
  rcases Nat.lt_trichotomy j i with q | q | q
  ·have := w8 hr q hi; omega
  ·exact hne q
  ·have := w8 hr q hj; omega
 have hself : jy w { w.U[i] with pos := p, inn := 0 } /\ ∀ b ∈ w.B, b.id ≠ w.U[i].id := ⟨(hu _ (List.getElem_mem hi)).1, (hu _ (List.getElem_mem hi)).2⟩
 refine ⟨⟨⟨hh.1, ⟨hh.2.1.1, hh.2.1.2.1, by show (w.U.set i _).length <= _; rw [hl]; exact hh.2.1.2.2⟩, hh.2.2⟩, zlw hr hi rfl, fun v hv => ?_⟩, fun v hv h0 => ?_, fun v hv h0 => ?_⟩
 ·rcases back v hv with rfl | ⟨j, hj, _, rfl⟩
  ·exact hself
  ·exact hu _ (List.getElem_mem hj)
 ·rcases back v hv with rfl | ⟨j, hj, hne, rfl⟩
  ·refine d9 (w := w) rfl rfl (fun x hx hx0 hxi => ?_) hp
   rcases back x hx with rfl | ⟨k, hk, _, rfl⟩
   ·exact absurd rfl hxi
   ·exact ⟨_, List.getElem_mem hk, hx0, hxi, rfl, rfl⟩
  ·have hcj := hc _ (List.getElem_mem hj) h0
   refine ⟨hcj.1, fun x hx hx0 hxi => ?_⟩
   rcases back x hx with rfl | ⟨k, hk, _, rfl⟩
   ·have := hp.2 _ (List.getElem_mem hj) h0 (idne j hj hne)
    rw [zug hg hp.1 hcj.1] at this
    exact this
   ·exact hcj.2 _ (List.getElem_mem hk) hx0 hxi
 ·rcases back v hv with rfl | ⟨j, hj, hne, rfl⟩
  ·exact absurd rfl h0
  obtain ⟨x, hx, g1, g2, g3, g4⟩ := hd _ (List.getElem_mem hj) h0
  obtain ⟨k, hk, rfl⟩ := List.getElem_of_mem hx
  have hle : ((yb (w.U.set i { w.U[i] with pos := p, inn := 0 }) w.U[j].inn).length : Int) <= xl w.U[k].kind := by
   have h9 := ct (q := fun u => u.inn == w.U[j].inn) (x := { w.U[i] with pos := p, inn := 0 }) (by
    show ((0 : Int) == w.U[j].inn) = false
    simpa using fun e => h0 e.symm) w.U i
   unfold yb at g3 ⊢
   rw [List.length_map] at g3 ⊢
   omega
  by_cases e : k = i
  ·subst e
   exact ⟨{ w.U[k] with pos := p, inn := 0 }, List.mem_set hi _, g1, ⟨rfl, g2.2⟩, hle, g4⟩
  ·refine ⟨w.U[k], ?_, g1, g2, hle, g4⟩
   have : (w.U.set i { w.U[i] with pos := p, inn := 0 })[k]'(by omega) = w.U[k] := by rw [get k hk, if_neg (Ne.symm e)]
   rw [<- this]
   exact List.getElem_mem _
theorem Az {w : Wld} (hr : yf w.U) {i : Nat} (hi : i < w.U.length) {u : Unt} (hid : u.id = w.U[i].id) : ya w u = { w with U := w.U.set i u } := by
 unfold ya
 congr 1
 refine List.ext_getElem (by simp) fun j h1 h2 => ?_
 have hj : j < w.U.length := by simpa using h1
 rw [List.getElem_map, List.getElem_set]
 by_cases e : i = j
 ·subst e
  rw [if_pos hid.symm, if_pos rfl]
 ·rw [if_neg e, if_neg]
  intro hx
  rcases Nat.lt_or_gt_of_ne e with h | h
  ·have := vm hr h hj; omega
  ·have := vm hr h hi; omega
theorem V7 {w : Wld} (hr : yf w.U) {i : Nat} (hi : i < w.U.length) {u : Unt} (hid : u.id = w.U[i].id) : ∃ h2 : i < (ya w u).U.length, (ya w u).U[i] = u := by
 rw [Az hr hi hid]
 exact ⟨by simpa using hi, by simp⟩
theorem V6 (w : Wld) (u : Unt) : (ya w u).U.length = w.U.length := by simp [ya]
theorem zmz {w : Wld} (hr : yf w.U) {i : Nat} (hi : i < w.U.length) {u : Unt} (hid : u.id = w.U[i].id) {j : Nat} (hj : j < w.U.length) (hij : j ≠ i) : (ya w u).U[j]'(by rw [V6]; exact hj) = w.U[j] := by
 have h := Az hr hi hid
 have : (ya w u).U = w.U.set i u := by rw [h]
 simp only [this]
 rw [List.getElem_set, if_neg (Ne.symm hij)]
/-- New orders. -/
theorem zow {w : Wld} (hm : yg w) {i : Nat} (hi : i < w.U.length) (h0 : w.U[i].inn = 0) {u : Unt} (h1 : mvG 0 u = mvG 0 w.U[i]) (h2 : jy w u) : yg (ya w u) := by
 have hid : u.id = w.U[i].id := (Wv h1).1
 rw [Az hm.1.2.1 hi hid]
 have get : ∀ j, (hj : j < w.U.length) -> (w.U.set i u)[j]'(by simpa using hj) = if i = j then u else w.U[j] := fun j hj => List.getElem_set ..
 refine zoy hm (by simp) (fun j hj => ?_) (fun j hj hn => ?_) (fun j hj => ?_)
 ·rw [get j hj]
  split
  ·rename_i e; subst e; exact h1
  ·rfl
 ·rw [get j hj]
  split
  ·rename_i e; subst e; exact absurd h0 hn
  ·rfl
 ·rw [get j hj]
  split
  ·exact h2
  ·exact (hm.1.2.2 _ (List.getElem_mem hj)).1
theorem Io {w : Wld} {u : Unt} {v : Vc} : ∀ (n k : Nat) {r : Nat × Vc}, yy w u v n k = some r -> y5 w u.id u.kind r.2 /\ (k <= r.1 /\ r.1 < k + n) /\ r.2 = qi u.pos (qz v r.1)
 | 0, k, r, h => by cases h
 | n + 1, k, r, h => by
  unfold yy at h
  split at h
  ·cases h
  ·split at h
   ·cases h
    exact ⟨‹_›, by omega, rfl⟩
   ·obtain ⟨h1, h2, h3⟩ := Io n (k + 1) h
    exact ⟨h1, by omega, h3⟩
/-- A step. -/
theorem zov {w : Wld} (hm : yg w) {i : Nat} (hi : i < w.U.length) (h0 : w.U[i].inn = 0) (v : Vc) : yg (yq w w.U[i] v) := by
 unfold yq
 cases h : yy w w.U[i] (ym v) 5 0 with
 | none => exact hm
 | some r =>
  obtain ⟨k, p⟩ := r
  dsimp only
  obtain ⟨h1, _, _⟩ := Io 5 0 h
  rw [Az (u := { w.U[i] with pos := p }) hm.1.2.1 hi rfl]
  have := zox hm hi h1
  have e : ({ w.U[i] with pos := p, inn := 0 } : Unt) = { w.U[i] with pos := p } := by rw [<- h0]
  rw [e] at this
  exact this
theorem la {w : Wld} (hm : yg w) {i : Nat} (hi : i < w.U.length) : jy w w.U[i] := (hm.1.2.2 _ (List.getElem_mem hi)).1
theorem lc {w : Wld} {u : Unt} (h : jy w u) (hg : u.goal ≠ -1) {nx st : Int} (hn : jq w.G nx) (hs : 0 <= st /\ st < 8) : jy w { u with next := nx, stuck := st } := by
 obtain ⟨⟨a1, a2, a3⟩, ⟨b1, b2, b3⟩, c, d⟩ := h
 exact ⟨⟨a1, a2, a3⟩, ⟨b1, hn, hs⟩, c, fun e => absurd e hg⟩
theorem Wk {w : Wld} (hm : yg w) {i : Nat} (hi : i < w.U.length) (h0 : w.U[i].inn = 0) : (0 <= w.U[i].pos.1 /\ w.U[i].pos.1 < w.G.W * 65536) /\ (0 <= w.U[i].pos.2 /\ w.U[i].pos.2 < w.G.H * 65536) := by
 have := Kx hm.1.1.2.1.1 (hm.2.1 _ (List.getElem_mem hi) h0).1
 have := this.1
 have := this.2
 omega
theorem zne {w : Wld} (hm : yg w) {i : Nat} (hi : i < w.U.length) (h0 : w.U[i].inn = 0) : ja w.G w.U[i].pos < w.G.T.length := (Sd hm.1.1.2.1.1 (Wk hm hi h0)).2.1
theorem Mv {g : Gnd} (hg : zl g) {t : Nat} (h : t < g.T.length) : jq g (t : Int) := .inr (by have := hg.2.2.1; omega)
theorem im (g : Gnd) (ok : Nat -> Bool) (c : Int) (d : Nat -> Int) (t : Nat) : qh g ok c d t = -1 \/ ∃ way : Nat, way < 8 /\ qh g ok c d t = way /\ 0 < yl g ok c t way := by
 unfold qh
 split
 ·exact .inl rfl
 ·cases h : (List.range 8).find? fun way => decide (0 < yl g ok c t way /\ 0 <= d (zx g t way).toNat /\ yl g ok c t way + d (zx g t way).toNat = d t) with
  | none => exact .inl rfl
  | some way =>
   have h1 := List.mem_of_find?_eq_some h
   have h2 := List.find?_some h
   exact .inr ⟨way, by simpa using h1, rfl, (of_decide_eq_true h2).1⟩
theorem zn1 {w : Wld} (hg : zl w.G) {u : Unt} {own : Nat} (ho : own < w.G.T.length) : jq w.G (Bd w u own) := by
 unfold Bd
 split
 ·exact Mv hg ho
 ·dsimp only
  rcases im w.G (okU w u) (yh u.kind) (xd w.G (okU w u) (yh u.kind) u.goal.toNat) own with h | ⟨way, h1, h2, _⟩
  ·rw [h, if_pos (by decide)]; exact .inl rfl
  ·rw [h2, if_neg (by omega)]
   rcases Lp hg (t := own) (way := way) h1 with h3 | ⟨x, h3, h4⟩
   ·rw [Int.toNat_natCast, h3]; exact .inl rfl
   ·rw [Int.toNat_natCast, h3]; exact Mv hg h4
end Go.V
