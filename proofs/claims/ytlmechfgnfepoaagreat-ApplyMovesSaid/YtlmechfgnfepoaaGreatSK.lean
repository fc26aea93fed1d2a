/- The ground on which laws of thronglaw23 are proved: contracts of functions and plain lemmas; no condition beyond the row's own. -/
import Derived.Test.YtlmechfgnfepoaaGreatVG
import Derived.Test.YtlmechfgnfepoaaGreatVH
import Derived.Test.YtlmechfgnfepoaaGreatVE
set_option linter.unusedSimpArgs false
set_option linter.unusedVariables false
namespace Go.V
set_option linter.unusedVariables false
set_option linter.unusedSimpArgs false
def onG (g : Gnd) (x y : Int) : Prop := (0 ≤ x ∧ x < g.W) ∧ (0 ≤ y ∧ y < g.H)
instance (g : Gnd) (x y : Int) : Decidable (onG g x y) := inferInstanceAs (Decidable (_ ∧ _))
def tl (g : Gnd) (x y : Int) : Nat := (x + g.W * y).toNat
theorem tl_facts {g : Gnd} (hg : gndP g) {x y : Int} (h : onG g x y) : ((tl g x y : Nat) : Int) = x + g.W * y ∧ tl g x y < g.T.length ∧ (tl g x y : Int) % g.W = x ∧ (tl g x y : Int) / g.W = y := by
  obtain ⟨h1, h2, h3⟩ := gnd_area hg
  obtain ⟨⟨hx, hx2⟩, hy, hy2⟩ := h
  have hW : 1 ≤ g.W := hg.1.1
  have e0 : 0 ≤ g.W * y := Int.mul_nonneg (by omega) hy
  have e : ((tl g x y : Nat) : Int) = x + g.W * y := by unfold tl; omega
  have e1 : g.W * y ≤ g.W * (g.H - 1) := Int.mul_le_mul (Int.le_refl _) (by omega) hy (by omega)
  rw [Int.mul_sub, Int.mul_one] at e1
  refine ⟨e, by omega, ?_, ?_⟩
  · rw [e, Int.add_mul_emod_self_left, Int.emod_eq_of_lt hx hx2]
  · rw [e, Int.add_mul_ediv_left _ _ (by omega), Int.ediv_eq_zero_of_lt hx hx2, Int.zero_add]
theorem of_tile {g : Gnd} (hg : gndP g) {t : Nat} (ht : t < g.T.length) : onG g ((t : Int) % g.W) ((t : Int) / g.W) ∧ tl g ((t : Int) % g.W) ((t : Int) / g.W) = t := by
  obtain ⟨h1, h2, h3⟩ := gnd_area hg
  have hW : 1 ≤ g.W := hg.1.1
  have a := Int.emod_nonneg (t : Int) (show g.W ≠ 0 by omega)
  have b := Int.emod_lt_of_pos (t : Int) (show 0 < g.W by omega)
  have c := Int.ediv_nonneg (show 0 ≤ (t : Int) by omega) (show 0 ≤ g.W by omega)
  have d : (t : Int) / g.W < g.H := Int.ediv_lt_of_lt_mul (by omega) (by rw [Int.mul_comm]; omega)
  refine ⟨⟨⟨a, b⟩, c, d⟩, ?_⟩
  unfold tl
  rw [Int.emod_add_mul_ediv]
  omega
/-- All tiles of a square are good. -/
def sqP (g : Gnd) (f : Nat → Bool) (s : Nat) (x y : Int) : Prop := ∀ a b : Int, -(s : Int) ≤ a → a ≤ s → -(s : Int) ≤ b → b ≤ s → onG g (x + a) (y + b) ∧ f (tl g (x + a) (y + b)) = true
theorem sq_zero {g : Gnd} {f : Nat → Bool} {x y : Int} : sqP g f 0 x y ↔ onG g x y ∧ f (tl g x y) = true := by
  constructor
  · intro h
    have := h 0 0 (by decide) (by decide) (by decide) (by decide)
    simpa using this
  · intro h a b h1 h2 h3 h4
    have ea : a = 0 := by omega
    have eb : b = 0 := by omega
    subst ea eb
    simpa using h
theorem sq_succ {g : Gnd} {f : Nat → Bool} {s : Nat} {x y : Int} : sqP g f (s + 1) x y ↔ ∀ a b : Int, -1 ≤ a → a ≤ 1 → -1 ≤ b → b ≤ 1 → onG g (x + a) (y + b) ∧ sqP g f s (x + a) (y + b) := by
  constructor
  · intro h a b h1 h2 h3 h4
    refine ⟨(h a b (by omega) (by omega) (by omega) (by omega)).1, fun a' b' k1 k2 k3 k4 => ?_⟩
    have := h (a + a') (b + b') (by omega) (by omega) (by omega) (by omega)
    rw [← Int.add_assoc, ← Int.add_assoc] at this
    exact this
  · intro h a b h1 h2 h3 h4
    obtain ⟨a1, ha1, ha2, ha3, ha4⟩ : ∃ a1 : Int, -1 ≤ a1 ∧ a1 ≤ 1 ∧ -(s : Int) ≤ a - a1 ∧ a - a1 ≤ s := by
      by_cases c1 : a > s
      · exact ⟨1, by omega, by omega, by omega, by omega⟩
      · by_cases c2 : a < -s
        · exact ⟨-1, by omega, by omega, by omega, by omega⟩
        · exact ⟨0, by omega, by omega, by omega, by omega⟩
    obtain ⟨b1, hb1, hb2, hb3, hb4⟩ : ∃ b1 : Int, -1 ≤ b1 ∧ b1 ≤ 1 ∧ -(s : Int) ≤ b - b1 ∧ b - b1 ≤ s := by
      by_cases c1 : b > s
      · exact ⟨1, by omega, by omega, by omega, by omega⟩
      · by_cases c2 : b < -s
        · exact ⟨-1, by omega, by omega, by omega, by omega⟩
        · exact ⟨0, by omega, by omega, by omega, by omega⟩
    have := (h a1 b1 ha1 ha2 hb1 hb2).2 (a - a1) (b - b1) ha3 ha4 hb3 hb4
    rw [show x + a1 + (a - a1) = x + a by omega, show y + b1 + (b - b1) = y + b by omega] at this
    exact this
theorem sq_less {g : Gnd} {f : Nat → Bool} {s s' : Nat} (hs : s' ≤ s) {x y : Int} (h : sqP g f s x y) : sqP g f s' x y := fun a b h1 h2 h3 h4 => h a b (by omega) (by omega) (by omega) (by omega)
theorem sq_wide {g : Gnd} {f : Nat → Bool} {s : Nat} {x y : Int} (h : sqP g f s x y) : 2 * (s : Int) + 1 ≤ g.W := by
  have h1 := (h (-(s : Int)) 0 (by omega) (by omega) (by omega) (by omega)).1.1.1
  have h2 := (h s 0 (by omega) (by omega) (by omega) (by omega)).1.1.2
  omega
def m5 (a b c d e : Int) : Int := min (min (min (min a (b + 1)) (c + 1)) (d + 1)) (e + 1)
/-- Two sweeps tell how far it is to what is not good. -/
theorem cham {g : Gnd} {f : Nat → Bool} {A B : Int → Int → Int} (oA : ∀ x y, ¬ onG g x y → A x y = 0) (oB : ∀ x y, ¬ onG g x y → B x y = 0)
    (hA : ∀ x y, onG g x y → A x y = m5 (if f (tl g x y) then 128 else 0) (A (x - 1) y) (A (x - 1) (y - 1)) (A x (y - 1)) (A (x + 1) (y - 1)))
    (hB : ∀ x y, onG g x y → B x y = m5 (A x y) (B (x + 1) y) (B (x + 1) (y + 1)) (B x (y + 1)) (B (x - 1) (y + 1))) {x y : Int} (hxy : onG g x y) (s : Nat) (hs : s ≤ 127) : (s : Int) < B x y ↔ sqP g f s x y := by
  -- not below 0
  have nA : ∀ n : Nat, ∀ x y, onG g x y → y * 200 + x < n → 0 ≤ A x y := by
    intro n
    induction n with
    | zero => intro x y h hn; obtain ⟨⟨h1, h2⟩, h3, h4⟩ := h; omega
    | succ n ih =>
      intro x y h hn
      have any : ∀ x' y', y' * 200 + x' < y * 200 + x → 0 ≤ A x' y' := fun x' y' hl => by
        by_cases ho : onG g x' y'
        · exact ih x' y' ho (by omega)
        · rw [oA x' y' ho]; decide
      rw [hA x y h]
      have a1 := any (x - 1) y (by omega)
      have a2 := any (x - 1) (y - 1) (by omega)
      have a3 := any x (y - 1) (by omega)
      have a4 := any (x + 1) (y - 1) (by omega)
      have a5 : (0 : Int) ≤ (if f (tl g x y) then 128 else 0) := by split <;> decide
      unfold m5
      omega
  have pA : ∀ x y, 0 ≤ A x y := fun x y => by
    by_cases ho : onG g x y
    · exact nA (y * 200 + x + 1).toNat x y ho (by obtain ⟨⟨h1, h2⟩, h3, h4⟩ := ho; omega)
    · rw [oA x y ho]; decide
  have nB : ∀ n : Nat, ∀ x y, onG g x y → (g.H - y) * 200 + (g.W - x) < n → 0 ≤ B x y := by
    intro n
    induction n with
    | zero => intro x y h hn; obtain ⟨⟨h1, h2⟩, h3, h4⟩ := h; omega
    | succ n ih =>
      intro x y h hn
      have any : ∀ x' y', (g.H - y') * 200 + (g.W - x') < (g.H - y) * 200 + (g.W - x) → 0 ≤ B x' y' := fun x' y' hl => by
        by_cases ho : onG g x' y'
        · exact ih x' y' ho (by omega)
        · rw [oB x' y' ho]; decide
      rw [hB x y h]
      have a1 := any (x + 1) y (by omega)
      have a2 := any (x + 1) (y + 1) (by omega)
      have a3 := any x (y + 1) (by omega)
      have a4 := any (x - 1) (y + 1) (by omega)
      have a5 := pA x y
      unfold m5
      omega
  have pB : ∀ x y, 0 ≤ B x y := fun x y => by
    by_cases ho : onG g x y
    · exact nB ((g.H - y) * 200 + (g.W - x) + 1).toNat x y ho (by obtain ⟨⟨h1, h2⟩, h3, h4⟩ := ho; omega)
    · rw [oB x y ho]; decide
  constructor
  · -- what is bad is not farther than its steps
    have up1 : ∀ d : Nat, ∀ x y a b, onG g x y → -(d : Int) ≤ a → a ≤ d → -(d : Int) ≤ b → b ≤ 0 → a ≤ -b → ¬ (onG g (x + a) (y + b) ∧ f (tl g (x + a) (y + b)) = true) → A x y ≤ d := by
      intro d
      induction d with
      | zero =>
        intro x y a b h h1 h2 h3 h4 h5 hbad
        have ea : a = 0 := by omega
        have eb : b = 0 := by omega
        subst ea eb
        rw [Int.add_zero, Int.add_zero] at hbad
        have hf : ¬ f (tl g x y) = true := fun hf => hbad ⟨h, hf⟩
        rw [hA x y h, if_neg hf]
        unfold m5
        omega
      | succ d ih =>
        intro x y a b h h1 h2 h3 h4 h5 hbad
        have go : ∀ u v : Int, -(d : Int) ≤ a - u → a - u ≤ d → -(d : Int) ≤ b - v → b - v ≤ 0 → a - u ≤ -(b - v) → A (x + u) (y + v) ≤ d := fun u v g1 g2 g3 g4 g5 => by
          by_cases ho : onG g (x + u) (y + v)
          · refine ih (x + u) (y + v) (a - u) (b - v) ho g1 g2 g3 g4 g5 ?_
            rw [show x + u + (a - u) = x + a by omega, show y + v + (b - v) = y + b by omega]
            exact hbad
          · rw [oA _ _ ho]; omega
        have hk := hA x y h
        unfold m5 at hk
        by_cases cb : b = 0
        · by_cases ca : a = 0
          · subst ca cb
            rw [Int.add_zero, Int.add_zero] at hbad
            have hf : ¬ f (tl g x y) = true := fun hf => hbad ⟨h, hf⟩
            rw [if_neg hf] at hk
            omega
          · have := go (-1) 0 (by omega) (by omega) (by omega) (by omega) (by omega)
            rw [show x + -1 = x - 1 by omega, Int.add_zero] at this
            omega
        · by_cases ca : a = 0
          · have := go 0 (-1) (by omega) (by omega) (by omega) (by omega) (by omega)
            rw [show y + -1 = y - 1 by omega, Int.add_zero] at this
            omega
          · by_cases ca2 : a < 0
            · have := go (-1) (-1) (by omega) (by omega) (by omega) (by omega) (by omega)
              rw [show y + -1 = y - 1 by omega, show x + -1 = x - 1 by omega] at this
              omega
            · have := go 1 (-1) (by omega) (by omega) (by omega) (by omega) (by omega)
              rw [show y + -1 = y - 1 by omega] at this
              omega
    have up2 : ∀ d : Nat, ∀ x y a b, onG g x y → -(d : Int) ≤ a → a ≤ d → -(d : Int) ≤ b → b ≤ d → ¬ (onG g (x + a) (y + b) ∧ f (tl g (x + a) (y + b)) = true) → B x y ≤ d := by
      intro d
      induction d with
      | zero =>
        intro x y a b h h1 h2 h3 h4 hbad
        have := up1 0 x y a b h h1 h2 h3 (by omega) (by omega) hbad
        have hk := hB x y h
        unfold m5 at hk
        omega
      | succ d ih =>
        intro x y a b h h1 h2 h3 h4 hbad
        have hk := hB x y h
        unfold m5 at hk
        by_cases cone : b ≤ 0 ∧ a ≤ -b
        · have := up1 (d + 1) x y a b h h1 h2 h3 cone.1 cone.2 hbad
          omega
        have go : ∀ u v : Int, -(d : Int) ≤ a - u → a - u ≤ d → -(d : Int) ≤ b - v → b - v ≤ d → B (x + u) (y + v) ≤ d := fun u v g1 g2 g3 g4 => by
          by_cases ho : onG g (x + u) (y + v)
          · refine ih (x + u) (y + v) (a - u) (b - v) ho g1 g2 g3 g4 ?_
            rw [show x + u + (a - u) = x + a by omega, show y + v + (b - v) = y + b by omega]
            exact hbad
          · rw [oB _ _ ho]; omega
        by_cases cb : b ≤ 0
        · have := go 1 0 (by omega) (by omega) (by omega) (by omega)
          rw [Int.add_zero] at this
          omega
        · by_cases ca : a = 0
          · have := go 0 1 (by omega) (by omega) (by omega) (by omega)
            rw [Int.add_zero] at this
            omega
          · by_cases ca2 : a < 0
            · have := go (-1) 1 (by omega) (by omega) (by omega) (by omega)
              rw [show x + -1 = x - 1 by omega] at this
              omega
            · have := go 1 1 (by omega) (by omega) (by omega) (by omega)
              omega
    intro hlt a b h1 h2 h3 h4
    refine Classical.byContradiction fun hbad => ?_
    have := up2 s x y a b hxy h1 h2 h3 h4 hbad
    omega
  · -- what is good all about is far
    have loA : ∀ s : Nat, s ≤ 127 → ∀ x y, sqP g f s x y → (s : Int) < A x y := by
      intro s
      induction s with
      | zero =>
        intro _ x y h
        obtain ⟨ho, hf⟩ := sq_zero.1 h
        rw [hA x y ho, if_pos hf]
        have a1 := pA (x - 1) y
        have a2 := pA (x - 1) (y - 1)
        have a3 := pA x (y - 1)
        have a4 := pA (x + 1) (y - 1)
        unfold m5
        omega
      | succ s ih =>
        intro hs x y h
        have h2 := sq_succ.1 h
        have nb := fun (a b : Int) h3 h4 h5 h6 => ih (by omega) _ _ (h2 a b h3 h4 h5 h6).2
        obtain ⟨ho, hf⟩ := sq_zero.1 (sq_less (Nat.zero_le _) h)
        have a1 := nb (-1) 0 (by decide) (by decide) (by decide) (by decide)
        have a2 := nb (-1) (-1) (by decide) (by decide) (by decide) (by decide)
        have a3 := nb 0 (-1) (by decide) (by decide) (by decide) (by decide)
        have a4 := nb 1 (-1) (by decide) (by decide) (by decide) (by decide)
        rw [show x + -1 = x - 1 by omega] at a1 a2
        rw [show y + -1 = y - 1 by omega] at a2 a3 a4
        rw [Int.add_zero] at a1 a3
        rw [hA x y ho, if_pos hf]
        unfold m5
        omega
    have loB : ∀ s : Nat, s ≤ 127 → ∀ x y, sqP g f s x y → (s : Int) < B x y := by
      intro s
      induction s with
      | zero =>
        intro hs x y h
        obtain ⟨ho, hf⟩ := sq_zero.1 h
        rw [hB x y ho]
        have a1 := pB (x + 1) y
        have a2 := pB (x + 1) (y + 1)
        have a3 := pB x (y + 1)
        have a4 := pB (x - 1) (y + 1)
        have a5 := loA 0 hs x y h
        unfold m5
        omega
      | succ s ih =>
        intro hs x y h
        have h2 := sq_succ.1 h
        have nb := fun (a b : Int) h3 h4 h5 h6 => ih (by omega) _ _ (h2 a b h3 h4 h5 h6).2
        obtain ⟨ho, hf⟩ := sq_zero.1 (sq_less (Nat.zero_le _) h)
        have a1 := nb 1 0 (by decide) (by decide) (by decide) (by decide)
        have a2 := nb 1 1 (by decide) (by decide) (by decide) (by decide)
        have a3 := nb 0 1 (by decide) (by decide) (by decide) (by decide)
        have a4 := nb (-1) 1 (by decide) (by decide) (by decide) (by decide)
        rw [show x + -1 = x - 1 by omega] at a4
        rw [Int.add_zero] at a1 a3
        have a5 := loA (s + 1) hs x y h
        rw [hB x y ho]
        unfold m5
        omega
    exact loB s hs x y
end Go.V
namespace Go.V
set_option linter.unusedVariables false
set_option linter.unusedSimpArgs false
theorem filter_snoc {p q : Nat → Bool} {m : Nat} (hp : ∀ t, p t = true → t < m) : ∀ {N : Nat}, m < N → (∀ t, t < N → (q t = true ↔ p t = true ∨ t = m)) → (List.range N).filter q = (List.range N).filter p ++ [m]
  | 0, h, _ => absurd h (Nat.not_lt_zero m)
  | N + 1, h, hq => by
    rw [List.range_succ, List.filter_append, List.filter_append]
    have hpN : p N = false := Bool.eq_false_iff.2 fun hh => by have := hp N hh; omega
    by_cases e : m = N
    · subst e
      have h1 : (List.range m).filter q = (List.range m).filter p := List.filter_congr fun t ht => by
        have ht := List.mem_range.1 ht
        have := hq t (by omega)
        rw [Bool.eq_iff_iff, this]
        exact ⟨fun h => h.resolve_right (by omega), .inl⟩
      have h2 : q m = true := (hq m (by omega)).2 (.inr rfl)
      rw [h1]
      simp [hpN, h2]
    · have h2 : q N = false := Bool.eq_false_iff.2 fun hh => by
        rcases (hq N (by omega)).1 hh with h | h
        · rw [hpN] at h; cases h
        · omega
      rw [filter_snoc hp (by omega) (fun t ht => hq t (by omega))]
      simp [hpN, h2]
theorem filter_same {p q : Nat → Bool} {N : Nat} (h : ∀ t, t < N → (q t = true ↔ p t = true)) : (List.range N).filter q = (List.range N).filter p :=
  List.filter_congr fun t ht => by rw [Bool.eq_iff_iff]; exact h t (List.mem_range.1 ht)
theorem take_snoc {α : Type} (L : List α) (a : α) (n : Nat) : (L ++ [a]).take n = if L.length < n then L.take n ++ [a] else L.take n := by
  split
  · rw [List.take_of_length_le (by simp; omega), List.take_of_length_le (by omega)]
  · rw [List.take_append_of_le_length (by omega)]
theorem take_short {α : Type} (L : List α) (n : Nat) : (L.take n).length < n ↔ L.length < n := by rw [List.length_take]; omega
def natI (l : List Nat) : List Int := l.map fun (t : Nat) => (t : Int)
theorem natI_app (a b : List Nat) : natI (a ++ b) = natI a ++ natI b := List.map_append
/-- How far by rows and columns. -/
def absM (i j : Int) : Int := max (max i (-i)) (max j (-j))
/-- A tile at just this way from a place, by steps of k. -/
def ringB (g : Gnd) (x y k d : Int) (t : Nat) : Bool := decide (absM ((t : Int) % g.W - x) ((t : Int) / g.W - y) = d ∧ ((t : Int) % g.W - x).tmod k = 0 ∧ ((t : Int) / g.W - y).tmod k = 0)
def ringL (g : Gnd) (x y k d : Int) : List Nat := (List.range g.T.length).filter (ringB g x y k d)
/-- Those ahead of a place, row by row. -/
def beforeB (g : Gnd) (x y j i : Int) (t : Nat) : Bool := decide ((t : Int) / g.W < y + j ∨ ((t : Int) / g.W = y + j ∧ (t : Int) % g.W < x + i))
def ringTo (g : Gnd) (x y k d j i : Int) : List Nat := (List.range g.T.length).filter fun t => ringB g x y k d t && beforeB g x y j i t
theorem ringB_b {g : Gnd} {x y k d : Int} {t : Nat} (h : ringB g x y k d t = true) : (x - d ≤ (t : Int) % g.W ∧ (t : Int) % g.W ≤ x + d) ∧ (y - d ≤ (t : Int) / g.W ∧ (t : Int) / g.W ≤ y + d) := by
  have := (of_decide_eq_true h).1
  unfold absM at this
  omega
theorem ringTo_start (g : Gnd) (x y k d : Int) : ringTo g x y k d (-d) (-d) = [] := by
  unfold ringTo
  rw [List.filter_eq_nil_iff]
  intro t _ hh
  obtain ⟨h1, h2⟩ := (Bool.and_eq_true_iff).1 hh
  have := ringB_b h1
  have := of_decide_eq_true h2
  omega
theorem ringTo_row (g : Gnd) (x y k d j : Int) : ringTo g x y k d j (d + 1) = ringTo g x y k d (j + 1) (-d) := filter_same fun t ht => by
  rw [Bool.and_eq_true_iff, Bool.and_eq_true_iff]
  refine ⟨fun ⟨h1, h2⟩ => ⟨h1, ?_⟩, fun ⟨h1, h2⟩ => ⟨h1, ?_⟩⟩
  · have := ringB_b h1
    have := of_decide_eq_true h2
    exact decide_eq_true (by omega)
  · have := ringB_b h1
    have := of_decide_eq_true h2
    exact decide_eq_true (by omega)
theorem ringTo_end (g : Gnd) (x y k d : Int) : ringTo g x y k d (d + 1) (-d) = ringL g x y k d := filter_same fun t ht => by
  rw [Bool.and_eq_true_iff]
  refine ⟨fun h => h.1, fun h1 => ⟨h1, ?_⟩⟩
  have := ringB_b h1
  exact decide_eq_true (by omega)
theorem ringTo_yes {g : Gnd} (hg : gndP g) {x y k d j i : Int} (ho : onG g (x + i) (y + j)) (hd : absM i j = d) (hi : i.tmod k = 0) (hj : j.tmod k = 0) : ringTo g x y k d j (i + 1) = ringTo g x y k d j i ++ [tl g (x + i) (y + j)] := by
  obtain ⟨e1, e2, e3, e4⟩ := tl_facts hg ho
  have hW : 1 ≤ g.W := hg.1.1
  refine filter_snoc (m := tl g (x + i) (y + j)) (fun t hh => ?_) e2 (fun t ht => ?_)
  · obtain ⟨h1, h2⟩ := (Bool.and_eq_true_iff).1 hh
    have h2 := of_decide_eq_true h2
    have e5 := Int.emod_add_mul_ediv (t : Int) g.W
    rcases h2 with h2 | ⟨h2, h3⟩
    · have b1 := Int.emod_lt_of_pos (t : Int) (show 0 < g.W by omega)
      have : g.W * ((t : Int) / g.W + 1) ≤ g.W * (y + j) := Int.mul_le_mul_of_nonneg_left (by omega) (by omega)
      rw [Int.mul_add, Int.mul_one] at this
      have := ho.1.1
      omega
    · rw [h2] at e5
      omega
  · rw [Bool.and_eq_true_iff, Bool.and_eq_true_iff]
    constructor
    · rintro ⟨h1, h2⟩
      have h2 := of_decide_eq_true h2
      by_cases h3 : (t : Int) / g.W = y + j ∧ (t : Int) % g.W = x + i
      · right
        have := (of_tile hg ht).2
        rw [h3.1, h3.2] at this
        exact this.symm
      · exact .inl ⟨h1, decide_eq_true (by omega)⟩
    · rintro (⟨h1, h2⟩ | rfl)
      · have h2 := of_decide_eq_true h2
        exact ⟨h1, decide_eq_true (by omega)⟩
      · refine ⟨decide_eq_true ?_, decide_eq_true ?_⟩
        · rw [e3, e4, show x + i - x = i by omega, show y + j - y = j by omega]
          exact ⟨hd, hi, hj⟩
        · rw [e3, e4]; omega
theorem ringTo_no {g : Gnd} (hg : gndP g) {x y k d j i : Int} (hn : ¬ (absM i j = d ∧ i.tmod k = 0 ∧ j.tmod k = 0 ∧ onG g (x + i) (y + j))) : ringTo g x y k d j (i + 1) = ringTo g x y k d j i := filter_same fun t ht => by
  rw [Bool.and_eq_true_iff, Bool.and_eq_true_iff]
  refine ⟨fun ⟨h1, h2⟩ => ⟨h1, ?_⟩, fun ⟨h1, h2⟩ => ⟨h1, ?_⟩⟩
  · have h2 := of_decide_eq_true h2
    refine decide_eq_true ?_
    by_cases h3 : (t : Int) / g.W = y + j ∧ (t : Int) % g.W = x + i
    · exfalso
      obtain ⟨q1, q2, q3⟩ := of_decide_eq_true h1
      rw [h3.1, h3.2, show x + i - x = i by omega, show y + j - y = j by omega] at q1
      rw [h3.2, show x + i - x = i by omega] at q2
      rw [h3.1, show y + j - y = j by omega] at q3
      have := (of_tile hg ht).1
      rw [h3.1, h3.2] at this
      exact hn ⟨q1, q2, q3, this⟩
    · omega
  · have h2 := of_decide_eq_true h2
    exact decide_eq_true (by omega)
/-- Places about a goal: all that are less than d away, by ways. -/
def slotL (g : Gnd) (f : Nat → Bool) (x y k d : Int) : List Nat := (ringL g x y k d).filter f
def slotsTo (g : Gnd) (f : Nat → Bool) (x y k : Int) : Nat → List Nat
  | 0 => []
  | d + 1 => slotsTo g f x y k d ++ slotL g f x y k d
/-- Places about a goal. -/
def slotsL (g : Gnd) (f : Nat → Bool) (size goal : Int) (n : Nat) : List Nat := (slotsTo g f (goal % g.W) (goal / g.W) (2 * size + 1) (g.W + g.H + 1).toNat).take n
theorem slotsTo_app (g : Gnd) (f : Nat → Bool) (x y k : Int) (d : Nat) : ∀ e : Nat, ∃ m, slotsTo g f x y k (d + e) = slotsTo g f x y k d ++ m
  | 0 => ⟨[], by simp⟩
  | e + 1 => by
    obtain ⟨m, hm⟩ := slotsTo_app g f x y k d e
    exact ⟨m ++ slotL g f x y k ((d + e : Nat) : Int), by rw [← List.append_assoc, ← hm]; rfl⟩
theorem slotL_far {g : Gnd} (hg : gndP g) {f : Nat → Bool} {x y k d : Int} (hx : 0 ≤ x ∧ x < g.W) (hy : 0 ≤ y ∧ y < g.H) (hd : max g.W g.H ≤ d) : slotL g f x y k d = [] := by
  unfold slotL ringL
  rw [List.filter_filter, List.filter_eq_nil_iff]
  intro t ht hh
  obtain ⟨h1, h2⟩ := (Bool.and_eq_true_iff).1 hh
  have h3 := (of_decide_eq_true h2).1
  obtain ⟨⟨o1, o2⟩, o3, o4⟩ := (of_tile hg (List.mem_range.1 ht)).1
  unfold absM at h3
  omega
theorem slotL_odd {g : Gnd} {f : Nat → Bool} {x y k d : Int} (hd : ¬ k ∣ d) : slotL g f x y k d = [] := by
  unfold slotL ringL
  rw [List.filter_filter, List.filter_eq_nil_iff]
  intro t ht hh
  obtain ⟨h1, h2⟩ := (Bool.and_eq_true_iff).1 hh
  obtain ⟨h3, h4, h5⟩ := of_decide_eq_true h2
  have h4 := Int.dvd_of_tmod_eq_zero h4
  have h5 := Int.dvd_of_tmod_eq_zero h5
  refine hd ?_
  rw [← h3]
  unfold absM
  generalize (t : Int) % g.W - x = a at *
  generalize (t : Int) / g.W - y = b at *
  have ha := (Int.dvd_neg (a := k) (b := a)).2 h4
  have hb := (Int.dvd_neg (a := k) (b := b)).2 h5
  have mx : ∀ u v : Int, k ∣ u → k ∣ v → k ∣ max u v := fun u v h1 h2 => by
    by_cases h : u ≤ v
    · rw [Int.max_eq_right h]; exact h2
    · rw [Int.max_eq_left (by omega)]; exact h1
  exact mx _ _ (mx _ _ h4 ha) (mx _ _ h5 hb)
theorem slotsTo_step {g : Gnd} {f : Nat → Bool} {x y : Int} {k d : Nat} (hk : 0 < k) (hd : k ∣ d) : slotsTo g f x y k (d + k) = slotsTo g f x y k d ++ slotL g f x y k d := by
  have : ∀ e : Nat, e < k → slotsTo g f x y k (d + (e + 1)) = slotsTo g f x y k d ++ slotL g f x y k d := by
    intro e
    induction e with
    | zero => intro _; rfl
    | succ e ih =>
      intro he
      have h1 := ih (by omega)
      have h2 : slotL g f x y k ((d + (e + 1) : Nat) : Int) = [] := slotL_odd fun hh => by
        have hh : k ∣ d + (e + 1) := by exact_mod_cast hh
        have := (Nat.dvd_add_right hd).1 hh
        have := Nat.le_of_dvd (by omega) this
        omega
      show slotsTo g f x y k (d + (e + 1)) ++ slotL g f x y k ((d + (e + 1) : Nat) : Int) = _
      rw [h1, h2, List.append_nil]
  have := this (k - 1) (by omega)
  rw [show k - 1 + 1 = k by omega] at this
  exact this
theorem slots_done {g : Gnd} (hg : gndP g) {f : Nat → Bool} {size goal : Int} (hgl : 0 ≤ goal ∧ goal < g.W * g.H) {d n : Nat} (h : n ≤ (slotsTo g f (goal % g.W) (goal / g.W) (2 * size + 1) d).length ∨ max g.W g.H ≤ (d : Int)) :
    (slotsTo g f (goal % g.W) (goal / g.W) (2 * size + 1) d).take n = slotsL g f size goal n := by
  have hW : 1 ≤ g.W ∧ g.W ≤ 128 := hg.1
  have hH : 1 ≤ g.H ∧ g.H ≤ 128 := hg.2.1
  have hx : 0 ≤ goal % g.W ∧ goal % g.W < g.W := ⟨Int.emod_nonneg _ (by omega), Int.emod_lt_of_pos _ (by omega)⟩
  have hy : 0 ≤ goal / g.W ∧ goal / g.W < g.H := ⟨Int.ediv_nonneg hgl.1 (by omega), Int.ediv_lt_of_lt_mul (by omega) (by rw [Int.mul_comm]; exact hgl.2)⟩
  unfold slotsL
  generalize goal % g.W = x at *
  generalize goal / g.W = y at *
  generalize 2 * size + 1 = k at *
  generalize hm : (g.W + g.H + 1).toNat = m at *
  have hmI : (m : Int) = g.W + g.H + 1 := by omega
  -- from where nothing comes any more
  have flat : ∀ c : Nat, max g.W g.H ≤ (c : Int) → ∀ e : Nat, slotsTo g f x y k (c + e) = slotsTo g f x y k c := fun c hc e => by
    induction e with
    | zero => rfl
    | succ e ih =>
      show slotsTo g f x y k (c + e) ++ slotL g f x y k ((c + e : Nat) : Int) = _
      rw [ih, slotL_far hg hx hy (by omega), List.append_nil]
  rcases h with h | h
  · by_cases hdm : d ≤ m
    · obtain ⟨r, hr⟩ := slotsTo_app g f x y k d (m - d)
      rw [show d + (m - d) = m by omega] at hr
      rw [hr, List.take_append_of_le_length h]
    · have := flat m (by omega) (d - m)
      rw [show m + (d - m) = d by omega] at this
      rw [this]
  · by_cases hdm : d ≤ m
    · have := flat d h (m - d)
      rw [show d + (m - d) = m by omega] at this
      rw [this]
    · have := flat m (by omega) (d - m)
      rw [show m + (d - m) = d by omega] at this
      rw [this]
end Go.V
namespace Go.V
set_option linter.unusedVariables false
set_option linter.unusedSimpArgs false
/-- Cells of whole numbers. -/
def il (n : Nat) (f : Nat → Int) : List AV := (List.range n).map fun t => int (f t)
theorem il_len (n : Nat) (f : Nat → Int) : (il n f).length = n := by simp [il]
theorem il_get {n : Nat} {f : Nat → Int} {t : Nat} (h : t < n) : (il n f)[t]? = some (int (f t)) := by simp [il, h]
theorem il_head {n : Nat} {f : Nat → Int} {t : Nat} (h : t < n) : ((il n f).drop (0 + t * 1)).head? = some (int (f t)) := by
  rw [List.head?_drop, show 0 + t * 1 = t by omega, il_get h]
theorem bl_head {n : Nat} {f : Nat → Bool} {t : Nat} (h : t < n) : ((bl n f).drop (0 + t * 1)).head? = some (bool (f t)) := by
  rw [List.head?_drop, show 0 + t * 1 = t by omega, bl_get h]
theorem il_zero (n : Nat) : List.replicate n (AV.s (.int .i64 0)) = il n fun _ => 0 := by
  unfold il
  rw [List.map_const', List.length_range]
  rfl
def setI (f : Nat → Int) (t : Nat) (v : Int) : Nat → Int := fun s => if s = t then v else f s
theorem setI_self (f : Nat → Int) (t : Nat) (v : Int) : setI f t v t = v := if_pos rfl
theorem setI_ne (f : Nat → Int) {t s : Nat} (v : Int) (h : s ≠ t) : setI f t v s = f s := if_neg h
theorem setI_id (f : Nat → Int) (t : Nat) : setI f t (f t) = f := funext fun s => by
  unfold setI
  split
  · rename_i h; rw [h]
  · rfl
theorem setI_setI (f : Nat → Int) (t : Nat) (v u : Int) : setI (setI f t v) t u = setI f t u := funext fun s => by
  unfold setI
  split <;> simp_all
theorem il_set0 {n : Nat} {f : Nat → Int} {t : Nat} (h : t < n) (g : Nat → Int) (hg : ∀ s, s ≠ t → g s = f s) : splice (il n f) t [int (g t)] = il n g := by
  unfold splice
  apply List.ext_getElem?
  intro s
  by_cases h1 : s < t
  · rw [List.append_assoc, List.getElem?_append_left (by rw [List.length_take, il_len]; omega), List.getElem?_take_of_lt h1, il_get (by omega), il_get (by omega), hg s (by omega)]
  · by_cases h2 : s = t
    · subst h2
      rw [List.append_assoc, List.getElem?_append_right (by rw [List.length_take, il_len]; omega), List.length_take, il_len, show s - min s n = 0 by omega, il_get h]
      rfl
    · rw [List.getElem?_append_right (by rw [List.length_append, List.length_take, il_len]; simp; omega), List.length_append, List.length_take, il_len, List.getElem?_drop]
      by_cases h3 : s < n
      · have e : t + [int (g t)].length + (s - (min t n + [int (g t)].length)) = s := by simp; omega
        rw [e, il_get h3, il_get h3, hg s h2]
      · rw [List.getElem?_eq_none (by rw [il_len]; simp; omega), List.getElem?_eq_none (by rw [il_len]; omega)]
theorem il_set {n : Nat} {f : Nat → Int} {t : Nat} (h : t < n) (v : Int) : splice (il n f) t [int v] = il n (setI f t v) := by
  have := il_set0 h (setI f t v) (fun s hs => setI_ne f v hs)
  rw [setI_self] at this
  exact this
def ilL (n : Nat) (f : Nat → Int) : List Int := (List.range n).map f
theorem ilL_len (n : Nat) (f : Nat → Int) : (ilL n f).length = n := by simp [ilL]
theorem ilL_get {n : Nat} {f : Nat → Int} {t : Nat} (h : t < n) : (ilL n f)[t]'(by rw [ilL_len]; exact h) = f t := by simp [ilL]
theorem il_flat (n : Nat) (f : Nat → Int) : (rws intC (ilL n f)).flatten = il n f := by
  unfold rws ilL il
  rw [List.map_map]
  generalize List.range n = l
  induction l with
  | nil => rfl
  | cons a l ih => simp only [List.map_cons, List.flatten_cons, ih]; rfl
theorem il_congr {n : Nat} {f g : Nat → Int} (h : ∀ t, t < n → f t = g t) : il n f = il n g := List.map_congr_left fun t ht => by rw [h t (List.mem_range.1 ht)]
theorem bl_congr {n : Nat} {f g : Nat → Bool} (h : ∀ t, t < n → f t = g t) : bl n f = bl n g := List.map_congr_left fun t ht => by rw [h t (List.mem_range.1 ht)]
theorem blL_congr {n : Nat} {f g : Nat → Bool} (h : ∀ t, t < n → f t = g t) : blL n f = blL n g := List.map_congr_left fun t ht => h t (List.mem_range.1 ht)
/-- What a place reads as: nothing is there, or its number. -/
def gv (g : Gnd) (f : Nat → Int) (x y : Int) : Int := if onG g x y then f (tl g x y) else 0
def passV (g : Gnd) (f : Nat → Int) (x y : Int) (v : Int) (ws : List (Int × Int)) : Int := ws.foldl (fun v d => min v (gv g f (x + d.1) (y + d.2) + 1)) v
theorem gv_b {g : Gnd} (hg : gndP g) {f : Nat → Int} (hf : ∀ t, t < g.T.length → 0 ≤ f t ∧ f t ≤ 128) (x y : Int) : 0 ≤ gv g f x y ∧ gv g f x y ≤ 128 := by
  unfold gv
  split
  · rename_i h; exact hf _ (tl_facts hg h).2.1
  · omega
theorem passV_b {g : Gnd} (hg : gndP g) {f : Nat → Int} (hf : ∀ t, t < g.T.length → 0 ≤ f t ∧ f t ≤ 128) (x y : Int) : ∀ (ws : List (Int × Int)) (v : Int), 0 ≤ v ∧ v ≤ 128 → 0 ≤ passV g f x y v ws ∧ passV g f x y v ws ≤ 128
  | [], v, hv => hv
  | d :: r, v, hv => by
    have := gv_b hg hf (x + d.1) (y + d.2)
    exact passV_b hg hf x y r (min v (gv g f (x + d.1) (y + d.2) + 1)) (by omega)
theorem passV_snoc (g : Gnd) (f : Nat → Int) (x y v : Int) (ws : List (Int × Int)) {i : Nat} (hi : i < ws.length) : passV g f x y v (ws.take (i + 1)) = min (passV g f x y v (ws.take i)) (gv g f (x + ws[i].1) (y + ws[i].2) + 1) := by
  unfold passV
  rw [List.take_succ_eq_append_getElem hi, List.foldl_append]
  rfl
theorem setI_b {n : Nat} {f : Nat → Int} (hf : ∀ t, t < n → 0 ≤ f t ∧ f t ≤ 128) {t : Nat} {v : Int} (hv : 0 ≤ v ∧ v ≤ 128) : ∀ s, s < n → 0 ≤ setI f t v s ∧ setI f t v s ≤ 128 := fun s hs => by
  unfold setI
  split
  · exact hv
  · exact hf s hs
/-- Another place is not touched. -/
theorem gv_setI {g : Gnd} (hg : gndP g) (f : Nat → Int) {t : Nat} (v : Int) {dx dy : Int} (hd : dx ≠ 0 ∨ dy ≠ 0) : gv g (setI f t v) ((t : Int) % g.W + dx) ((t : Int) / g.W + dy) = gv g f ((t : Int) % g.W + dx) ((t : Int) / g.W + dy) := by
  unfold gv
  split
  · rename_i h
    obtain ⟨_, _, h3, h4⟩ := tl_facts hg h
    refine setI_ne f v fun e => ?_
    rw [e] at h3 h4
    omega
  · rfl
def fwdW : List (Int × Int) := [(-1, 0), (-1, -1), (0, -1), (1, -1)]
def bwdW : List (Int × Int) := [(1, 0), (1, 1), (0, 1), (-1, 1)]
def wayC (d : Int × Int) : List AV := [int d.1, int d.2]
def sweepT (g : Gnd) (f : Nat → Int) (ws : List (Int × Int)) (t : Nat) : Nat → Int := setI f t (passV g f ((t : Int) % g.W) ((t : Int) / g.W) (f t) ws)
def sweepA (g : Gnd) (f : Nat → Int) : Nat → Nat → Int
  | 0 => f
  | i + 1 => sweepT g (sweepA g f i) fwdW i
def sweepB (g : Gnd) (f : Nat → Int) (n : Nat) : Nat → Nat → Int
  | 0 => f
  | j + 1 => sweepT g (sweepB g f n j) bwdW (n - 1 - j)
theorem sweepT_b {g : Gnd} (hg : gndP g) {f : Nat → Int} (hf : ∀ t, t < g.T.length → 0 ≤ f t ∧ f t ≤ 128) {ws : List (Int × Int)} {t : Nat} (ht : t < g.T.length) : ∀ s, s < g.T.length → 0 ≤ sweepT g f ws t s ∧ sweepT g f ws t s ≤ 128 :=
  setI_b hf (passV_b hg hf _ _ _ _ (hf t ht))
theorem sweepA_b {g : Gnd} (hg : gndP g) {f : Nat → Int} (hf : ∀ t, t < g.T.length → 0 ≤ f t ∧ f t ≤ 128) : ∀ i, i ≤ g.T.length → ∀ s, s < g.T.length → 0 ≤ sweepA g f i s ∧ sweepA g f i s ≤ 128
  | 0, _ => hf
  | i + 1, hi => sweepT_b hg (sweepA_b hg hf i (by omega)) (by omega)
theorem sweepB_b {g : Gnd} (hg : gndP g) {f : Nat → Int} (hf : ∀ t, t < g.T.length → 0 ≤ f t ∧ f t ≤ 128) : ∀ i, i ≤ g.T.length → ∀ s, s < g.T.length → 0 ≤ sweepB g f g.T.length i s ∧ sweepB g f g.T.length i s ≤ 128
  | 0, _ => hf
  | i + 1, hi => sweepT_b hg (sweepB_b hg hf i (by omega)) (by omega)
theorem sweepA_out (g : Gnd) (f : Nat → Int) : ∀ i s, i ≤ s → sweepA g f i s = f s
  | 0, _, _ => rfl
  | i + 1, s, h => by
    show setI _ i _ s = _
    rw [setI_ne _ _ (by omega), sweepA_out g f i s (by omega)]
theorem sweepA_in (g : Gnd) (f : Nat → Int) : ∀ i s, s < i → sweepA g f i s = sweepA g f (s + 1) s
  | 0, _, h => absurd h (Nat.not_lt_zero _)
  | i + 1, s, h => by
    by_cases e : s = i
    · subst e; rfl
    · show setI _ i _ s = _
      rw [setI_ne _ _ e, sweepA_in g f i s (by omega)]
theorem sweepB_out (g : Gnd) (f : Nat → Int) (n : Nat) : ∀ j s, s + j < n → sweepB g f n j s = f s
  | 0, _, _ => rfl
  | j + 1, s, h => by
    show setI _ (n - 1 - j) _ s = _
    rw [setI_ne _ _ (by omega), sweepB_out g f n j s (by omega)]
theorem sweepB_in (g : Gnd) (f : Nat → Int) (n : Nat) : ∀ j s, s < n → j ≤ n → n ≤ s + j → sweepB g f n j s = sweepB g f n (n - 1 - s + 1) s
  | 0, s, h, _, h2 => absurd h2 (by omega)
  | j + 1, s, h, h1, h2 => by
    by_cases e : s = n - 1 - j
    · have : j + 1 = n - 1 - s + 1 := by omega
      rw [this]
    · show setI _ (n - 1 - j) _ s = _
      rw [setI_ne _ _ e, sweepB_in g f n j s h (by omega) (by omega)]
theorem passV_f (g : Gnd) (f : Nat → Int) (x y v : Int) : passV g f x y v fwdW = m5 v (gv g f (x - 1) y) (gv g f (x - 1) (y - 1)) (gv g f x (y - 1)) (gv g f (x + 1) (y - 1)) := by
  unfold passV fwdW m5
  simp only [List.foldl_cons, List.foldl_nil, Int.add_zero, ← Int.sub_eq_add_neg]
theorem passV_g (g : Gnd) (f : Nat → Int) (x y v : Int) : passV g f x y v bwdW = m5 v (gv g f (x + 1) y) (gv g f (x + 1) (y + 1)) (gv g f x (y + 1)) (gv g f (x - 1) (y + 1)) := by
  unfold passV bwdW m5
  simp only [List.foldl_cons, List.foldl_nil, Int.add_zero, ← Int.sub_eq_add_neg]
/-- How much room there is. -/
def roomF (g : Gnd) (o : Nat → Bool) : Nat → Int := sweepB g (sweepA g (fun t => if o t then 128 else 0) g.T.length) g.T.length g.T.length
theorem room_ok {g : Gnd} (hg : gndP g) (o : Nat → Bool) {t : Nat} (ht : t < g.T.length) (s : Nat) (hs : s ≤ 127) : (s : Int) < roomF g o t ↔ sqP g o s ((t : Int) % g.W) ((t : Int) / g.W) := by
  have hW : 1 ≤ g.W := hg.1.1
  obtain ⟨ho, he⟩ := of_tile hg ht
  have key := cham (g := g) (f := o) (A := gv g (sweepA g (fun t => if o t then 128 else 0) g.T.length)) (B := gv g (roomF g o))
    (fun x y h => if_neg h) (fun x y h => if_neg h) (fun x y h => ?_) (fun x y h => ?_) ho s hs
  · rw [← key]
    unfold gv
    rw [if_pos ho, he]
  · obtain ⟨e1, e2, e3, e4⟩ := tl_facts hg h
    have nb : ∀ dx dy : Int, (dy = -1 ∨ dy = 0 ∧ dx = -1) → dx ≤ 1 → gv g (sweepA g (fun t => if o t then 128 else 0) (tl g x y)) (x + dx) (y + dy) = gv g (sweepA g (fun t => if o t then 128 else 0) g.T.length) (x + dx) (y + dy) := fun dx dy hd hx => by
      unfold gv
      split
      · rename_i h2
        obtain ⟨f1, f2, f3, f4⟩ := tl_facts hg h2
        have hlt : tl g (x + dx) (y + dy) < tl g x y := by
          have hb := h.1
          have hb2 := h2.1
          rcases hd with rfl | ⟨rfl, rfl⟩
          · have : g.W * (y + -1) = g.W * y - g.W := by rw [Int.mul_add]; omega
            rw [this] at f1
            have hne : (tl g (x + dx) (y + -1) : Int) ≠ tl g x y := fun e => by
              rw [e, e4] at f4
              omega
            omega
          · rw [Int.add_zero] at f1 ⊢
            omega
        rw [sweepA_in g _ _ _ hlt, sweepA_in g _ _ _ f2]
      · rfl
    have h1 : gv g (sweepA g (fun t => if o t then 128 else 0) g.T.length) x y = passV g (sweepA g (fun t => if o t then 128 else 0) (tl g x y)) x y (if o (tl g x y) then 128 else 0) fwdW := by
      unfold gv
      rw [if_pos h, sweepA_in g _ _ _ e2]
      show setI _ _ _ _ = _
      rw [setI_self, e3, e4, sweepA_out g _ _ _ (Nat.le_refl _)]
    rw [h1, passV_f]
    have n1 := nb (-1) 0 (by omega) (by decide)
    have n2 := nb (-1) (-1) (by omega) (by decide)
    have n3 := nb 0 (-1) (by omega) (by decide)
    have n4 := nb 1 (-1) (by omega) (by decide)
    rw [Int.add_zero] at n1 n3
    rw [← Int.sub_eq_add_neg] at n1 n2 n3 n4
    rw [← Int.sub_eq_add_neg] at n2
    rw [n1, n2, n3, n4]
  · obtain ⟨e1, e2, e3, e4⟩ := tl_facts hg h
    have hj : g.T.length - 1 - (g.T.length - 1 - tl g x y) = tl g x y := by omega
    unfold roomF
    generalize hF : sweepA g (fun t => if o t then 128 else 0) g.T.length = F
    have nb : ∀ dx dy : Int, (dy = 1 ∨ dy = 0 ∧ dx = 1) → -1 ≤ dx → gv g (sweepB g F g.T.length (g.T.length - 1 - tl g x y)) (x + dx) (y + dy) = gv g (sweepB g F g.T.length g.T.length) (x + dx) (y + dy) := fun dx dy hd hx => by
      unfold gv
      split
      · rename_i h2
        obtain ⟨f1, f2, f3, f4⟩ := tl_facts hg h2
        have hlt : tl g x y < tl g (x + dx) (y + dy) := by
          have hb := h.1
          have hb2 := h2.1
          rcases hd with rfl | ⟨rfl, rfl⟩
          · have : g.W * (y + 1) = g.W * y + g.W := by rw [Int.mul_add]; omega
            rw [this] at f1
            have hne : (tl g (x + dx) (y + 1) : Int) ≠ tl g x y := fun e => by
              rw [e, e4] at f4
              omega
            omega
          · rw [Int.add_zero] at f1 ⊢
            omega
        rw [sweepB_in g _ _ _ _ f2 (by omega) (by omega), sweepB_in g _ _ _ _ f2 (Nat.le_refl _) (by omega)]
      · rfl
    have h1 : gv g (sweepB g F g.T.length g.T.length) x y = passV g (sweepB g F g.T.length (g.T.length - 1 - tl g x y)) x y (gv g F x y) bwdW := by
      unfold gv
      rw [if_pos h, if_pos h, sweepB_in g _ _ _ _ e2 (Nat.le_refl _) (by omega)]
      show setI _ _ _ _ = _
      rw [hj, setI_self, e3, e4, sweepB_out g _ _ _ _ (by omega)]
    rw [h1, passV_g]
    have n1 := nb 1 0 (by omega) (by decide)
    have n2 := nb 1 1 (by omega) (by decide)
    have n3 := nb 0 1 (by omega) (by decide)
    have n4 := nb (-1) 1 (by omega) (by decide)
    rw [Int.add_zero] at n1 n3
    rw [← Int.sub_eq_add_neg] at n4
    rw [n1, n2, n3, n4]
def sqB (g : Gnd) (f : Nat → Bool) (s : Nat) (x y : Int) : Bool := (List.range (2 * s + 1)).all fun a => (List.range (2 * s + 1)).all fun b => decide (onG g (x - s + a) (y - s + b)) && f (tl g (x - s + a) (y - s + b))
theorem sqB_iff {g : Gnd} {f : Nat → Bool} {s : Nat} {x y : Int} : sqB g f s x y = true ↔ sqP g f s x y := by
  unfold sqB
  rw [List.all_eq_true]
  constructor
  · intro h a b h1 h2 h3 h4
    have h5 := h (a + s).toNat (List.mem_range.2 (by omega))
    rw [List.all_eq_true] at h5
    have h6 := h5 (b + s).toNat (List.mem_range.2 (by omega))
    rw [show x - s + ((a + s).toNat : Int) = x + a by omega, show y - s + ((b + s).toNat : Int) = y + b by omega, Bool.and_eq_true_iff] at h6
    exact ⟨of_decide_eq_true h6.1, h6.2⟩
  · intro h a ha
    have ha := List.mem_range.1 ha
    rw [List.all_eq_true]
    intro b hb
    have hb := List.mem_range.1 hb
    have := h (a - s) (b - s) (by omega) (by omega) (by omega) (by omega)
    rw [show x - s + (a : Int) = x + (a - s) by omega, show y - s + (b : Int) = y + (b - s) by omega, Bool.and_eq_true_iff]
    exact ⟨decide_eq_true this.1, this.2⟩
/-- Is a tile good for a size? -/
def goodB (g : Gnd) (l : List Bld) (c s : Int) (t : Nat) : Bool := sqB g (openB g l c) s.toNat ((t : Int) % g.W) ((t : Int) / g.W)
theorem good_room {g : Gnd} (hg : gndP g) (l : List Bld) (c : Int) {s : Int} (hs : 0 ≤ s ∧ s ≤ 3) {t : Nat} (ht : t < g.T.length) : decide (s < roomF g (openB g l c) t) = goodB g l c s t := by
  rw [Bool.eq_iff_iff, decide_eq_true_iff]
  unfold goodB
  rw [sqB_iff, ← room_ok hg _ ht _ (by omega)]
  omega
def goodV (g : Gnd) (l : List Bld) (c s : Int) : AV := lst 1 boolC (blL g.T.length (goodB g l c s))
end Go.V
namespace Go.V
set_option linter.unusedVariables false
set_option linter.unusedSimpArgs false
def dirL : List (Int × Int) := [(0, -1), (1, 0), (0, 1), (-1, 0), (1, -1), (1, 1), (-1, 1), (-1, -1)]
def nearAt (g : Gnd) (x y : Int) (d : Int × Int) : Int := if onG g (x + d.1) (y + d.2) then x + d.1 + g.W * (y + d.2) else -1
def nearL (g : Gnd) (t : Nat) : List Int := dirL.map (nearAt g ((t : Int) % g.W) ((t : Int) / g.W))
theorem nearL_len (g : Gnd) (t : Nat) : (nearL g t).length = 8 := by simp [nearL, dirL]
theorem nearAt_b {g : Gnd} (hg : gndP g) (x y : Int) (d : Int × Int) : nearAt g x y d = -1 ∧ ¬ onG g (x + d.1) (y + d.2) ∨ onG g (x + d.1) (y + d.2) ∧ nearAt g x y d = (tl g (x + d.1) (y + d.2) : Nat) ∧ tl g (x + d.1) (y + d.2) < g.T.length := by
  unfold nearAt
  split
  · rename_i h
    exact .inr ⟨h, (tl_facts hg h).1.symm, (tl_facts hg h).2.1⟩
  · rename_i h
    exact .inl ⟨rfl, h⟩
theorem nearL_mem {g : Gnd} (hg : gndP g) {t : Nat} {u : Int} (h : u ∈ nearL g t) : u = -1 ∨ ∃ m : Nat, u = m ∧ m < g.T.length := by
  unfold nearL at h
  obtain ⟨d, _, rfl⟩ := List.mem_map.1 h
  rcases nearAt_b hg ((t : Int) % g.W) ((t : Int) / g.W) d with ⟨q1, _⟩ | ⟨_, q2, q3⟩
  · exact .inl q1
  · exact .inr ⟨_, q2, q3⟩
def sqT (g : Gnd) (o : Nat → Bool) (r t : Nat) : Bool := sqB g o r ((t : Int) % g.W) ((t : Int) / g.W)
theorem sqT_iff {g : Gnd} {o : Nat → Bool} {r t : Nat} : sqT g o r t = true ↔ sqP g o r ((t : Int) % g.W) ((t : Int) / g.W) := sqB_iff
theorem sqT_zero {g : Gnd} (hg : gndP g) (o : Nat → Bool) {t : Nat} (ht : t < g.T.length) : sqT g o 0 t = o t := by
  rw [Bool.eq_iff_iff, sqT_iff, sq_zero]
  obtain ⟨h1, h2⟩ := of_tile hg ht
  rw [h2]
  exact ⟨fun h => h.2, fun h => ⟨h1, h⟩⟩
theorem sqT_less {g : Gnd} {o : Nat → Bool} {r s t : Nat} (h : s ≤ r) (hi : sqT g o r t = true) : sqT g o s t = true := sqT_iff.2 (sq_less h (sqT_iff.1 hi))
theorem sqT_r {g : Gnd} (hg : gndP g) {o : Nat → Bool} {r t : Nat} (h : sqT g o r t = true) : r ≤ 63 := by
  have := sq_wide (sqT_iff.1 h)
  have := hg.1.2
  omega
def okB (g : Gnd) (o : Nat → Bool) (r : Nat) (u : Int) : Bool := decide (0 ≤ u) && sqT g o r u.toNat
theorem okB_iff {g : Gnd} (hg : gndP g) {o : Nat → Bool} {r : Nat} {x y : Int} {d : Int × Int} : okB g o r (nearAt g x y d) = true ↔ onG g (x + d.1) (y + d.2) ∧ sqP g o r (x + d.1) (y + d.2) := by
  unfold okB
  rw [Bool.and_eq_true_iff]
  rcases nearAt_b hg x y d with ⟨h1, h2⟩ | ⟨h1, h2, h3⟩
  · rw [h1]
    exact ⟨fun h => absurd (of_decide_eq_true h.1) (by decide), fun h => absurd h.1 h2⟩
  · obtain ⟨_, _, e3, e4⟩ := tl_facts hg h1
    rw [h2, Int.toNat_natCast, sqT_iff, e3, e4]
    exact ⟨fun h => ⟨h1, h.2⟩, fun h => ⟨decide_eq_true (by omega), h.2⟩⟩
theorem dir_mem {a b : Int} (h1 : -1 ≤ a) (h2 : a ≤ 1) (h3 : -1 ≤ b) (h4 : b ≤ 1) : (a = 0 ∧ b = 0) ∨ (a, b) ∈ dirL := by
  have ha : a = -1 ∨ a = 0 ∨ a = 1 := by omega
  have hb : b = -1 ∨ b = 0 ∨ b = 1 := by omega
  rcases ha with rfl | rfl | rfl <;> rcases hb with rfl | rfl | rfl <;> first | exact .inl ⟨rfl, rfl⟩ | exact .inr (by decide)
theorem sqT_next {g : Gnd} (hg : gndP g) {o : Nat → Bool} {r t : Nat} (ht : t < g.T.length) : sqT g o (r + 1) t = (sqT g o r t && (nearL g t).all (okB g o r)) := by
  rw [Bool.eq_iff_iff, Bool.and_eq_true_iff, sqT_iff, sqT_iff, sq_succ, List.all_eq_true]
  unfold nearL
  constructor
  · intro h
    refine ⟨by have := (h 0 0 (by decide) (by decide) (by decide) (by decide)).2; simpa using this, fun u hu => ?_⟩
    obtain ⟨d, hd, rfl⟩ := List.mem_map.1 hu
    refine (okB_iff hg).2 ?_
    have : ∀ d ∈ dirL, (-1 ≤ d.1 ∧ d.1 ≤ 1) ∧ (-1 ≤ d.2 ∧ d.2 ≤ 1) := by decide
    have := this d hd
    exact h d.1 d.2 this.1.1 this.1.2 this.2.1 this.2.2
  · rintro ⟨h0, h⟩ a b h1 h2 h3 h4
    rcases dir_mem h1 h2 h3 h4 with ⟨rfl, rfl⟩ | hd
    · rw [Int.add_zero, Int.add_zero]
      exact ⟨(of_tile hg ht).1, h0⟩
    · exact (okB_iff hg).1 (h _ (List.mem_map.2 ⟨(a, b), hd, rfl⟩))
/-- How often a tile was left, up to round r, and of the round's tiles the first i. -/
def gridP (g : Gnd) (o : Nat → Bool) (r i : Nat) (f : Nat → Int) : Prop := ∀ t, t < g.T.length → 0 ≤ f t ∧ f t ≤ ((if t < i then r + 1 else r : Nat) : Int) ∧ ∀ s : Nat, s < (if t < i then r + 1 else r) → ((s : Int) < f t ↔ sqT g o s t = true)
theorem gridP_zero (g : Gnd) (o : Nat → Bool) : gridP g o 0 0 fun _ => 0 := fun t _ => ⟨Int.le_refl _, by simp, fun s hs => absurd hs (by simp)⟩
theorem gridP_next {g : Gnd} {o : Nat → Bool} {r : Nat} {f : Nat → Int} (h : gridP g o r g.T.length f) : gridP g o (r + 1) 0 f := fun t ht => by
  have := h t ht
  rw [if_pos ht] at this
  rw [if_neg (Nat.not_lt_zero t)]
  exact this
theorem gridP_b {g : Gnd} {o : Nat → Bool} {r i : Nat} {f : Nat → Int} (h : gridP g o r i f) {t : Nat} (ht : t < g.T.length) : 0 ≤ f t ∧ f t ≤ r + 1 := by
  have := h t ht
  split at this <;> omega
theorem gridP_no {g : Gnd} {o : Nat → Bool} {r t : Nat} {f : Nat → Int} (h : gridP g o r t f) (hn : sqT g o r t = false) : gridP g o r (t + 1) f := fun s hs => by
  have h1 := h s hs
  by_cases e : s = t
  · subst e
    rw [if_neg (Nat.lt_irrefl s)] at h1
    rw [if_pos (by omega)]
    refine ⟨h1.1, by omega, fun q hq => ?_⟩
    by_cases e2 : q = r
    · subst e2
      rw [hn]
      exact ⟨fun hh => by omega, fun hh => by cases hh⟩
    · exact h1.2.2 q (by omega)
  · by_cases e2 : s < t
    · rw [if_pos e2] at h1
      rw [if_pos (by omega)]
      exact h1
    · rw [if_neg e2] at h1
      rw [if_neg (by omega)]
      exact h1
theorem gridP_yes {g : Gnd} {o : Nat → Bool} {r t : Nat} {f : Nat → Int} (h : gridP g o r t f) (ht : t < g.T.length) (hn : sqT g o r t = true) : gridP g o r (t + 1) (setI f t (f t + 1)) := fun s hs => by
  have h1 := h s hs
  by_cases e : s = t
  · subst e
    rw [if_neg (Nat.lt_irrefl s)] at h1
    rw [if_pos (by omega), setI_self]
    have hr : f s = r := by
      by_cases e0 : r = 0
      · subst e0; have := h1.1; have := h1.2.1; omega
      · have := (h1.2.2 (r - 1) (by omega)).2 (sqT_less (by omega) hn)
        have := h1.2.1
        omega
    rw [hr]
    refine ⟨by omega, by omega, fun q hq => ⟨fun _ => sqT_less (by omega) hn, fun _ => by omega⟩⟩
  · rw [setI_ne _ _ e]
    by_cases e2 : s < t
    · rw [if_pos e2] at h1
      rw [if_pos (by omega)]
      exact h1
    · rw [if_neg e2] at h1
      rw [if_neg (by omega)]
      exact h1
/-- In the end a tile's number tells which squares are good. -/
def gridQ (g : Gnd) (o : Nat → Bool) (f : Nat → Int) : Prop := ∀ t, t < g.T.length → ∀ s : Nat, (s : Int) < f t ↔ sqT g o s t = true
theorem gridP_end {g : Gnd} {o : Nat → Bool} {r : Nat} {f : Nat → Int} (h : gridP g o r 0 f) (hn : ∀ t, t < g.T.length → sqT g o r t = false) : gridQ g o f := fun t ht s => by
  have h1 := h t ht
  rw [if_neg (Nat.not_lt_zero t)] at h1
  by_cases e : s < r
  · exact h1.2.2 s e
  · constructor
    · intro hh; have := h1.2.1; omega
    · intro hh
      have := sqT_less (s := r) (by omega) hh
      rw [hn t ht] at this
      cases this
theorem gridQ_good {g : Gnd} {l : List Bld} {c : Int} {f : Nat → Int} (h : gridQ g (openB g l c) f) {s : Int} (hs : 0 ≤ s) {t : Nat} (ht : t < g.T.length) : decide (s < f t) = goodB g l c s t := by
  rw [Bool.eq_iff_iff, decide_eq_true_iff]
  have := h t ht s.toNat
  rw [show ((s.toNat : Nat) : Int) = s by omega] at this
  exact this
def nxF (g : Gnd) (o : Nat → Bool) (r t : Nat) (v : Bool) (s : Nat) : Bool := if s < t then sqT g o (r + 1) s else (decide (s = t) && v)
def leftB (g : Gnd) (o : Nat → Bool) (r t : Nat) : Bool := (List.range t).any (sqT g o (r + 1))
theorem leftB_succ (g : Gnd) (o : Nat → Bool) (r t : Nat) : leftB g o r (t + 1) = (leftB g o r t || sqT g o (r + 1) t) := by
  unfold leftB
  rw [List.range_succ, List.any_append]
  simp
theorem nxF_zero (g : Gnd) (o : Nat → Bool) (r : Nat) : nxF g o r 0 false = fun _ => false := funext fun s => by
  unfold nxF
  rw [if_neg (Nat.not_lt_zero s), Bool.and_false]
theorem nxF_step (g : Gnd) (o : Nat → Bool) (r t : Nat) : nxF g o r t (sqT g o (r + 1) t) = nxF g o r (t + 1) false := funext fun s => by
  unfold nxF
  by_cases h : s < t
  · rw [if_pos h, if_pos (by omega)]
  · rw [if_neg h]
    by_cases e : s = t
    · subst e
      rw [if_pos (by omega)]; simp
    · rw [if_neg (by omega)]; simp [e]
theorem nxF_end (g : Gnd) (o : Nat → Bool) (r n : Nat) : ∀ t, t < n → nxF g o r n false t = sqT g o (r + 1) t := fun t ht => if_pos ht
theorem nxF_self (g : Gnd) (o : Nat → Bool) (r t : Nat) (v : Bool) : nxF g o r t v t = v := by
  unfold nxF
  rw [if_neg (Nat.lt_irrefl t)]; simp
theorem nxF_ne (g : Gnd) (o : Nat → Bool) (r t : Nat) (v u : Bool) {s : Nat} (h : s ≠ t) : nxF g o r t v s = nxF g o r t u s := by
  unfold nxF
  split
  · rfl
  · simp [h]
end Go.V
namespace Go.V
set_option linter.unusedVariables false
set_option linter.unusedSimpArgs false
/-- The first thing that is not right of several ones. -/
def allE (f : Int → Int) : List Int → Int
  | [] => 0
  | a :: l => if f a = 0 then allE f l else f a
theorem allE_none {f : Int → Int} : ∀ {l : List Int}, (∀ j, (h : j < l.length) → f l[j] = 0) → allE f l = 0
  | [], _ => rfl
  | a :: l, h => by
    have h0 := h 0 (by simp)
    simp only [List.getElem_cons_zero] at h0
    unfold allE
    rw [if_pos h0]
    exact allE_none fun j hj => by
      have := h (j + 1) (by simp; omega)
      simpa using this
theorem allE_some {f : Int → Int} : ∀ {l : List Int} {i : Nat} (hi : i < l.length), (∀ j, (h : j < l.length) → j < i → f l[j] = 0) → f l[i] ≠ 0 → allE f l = f l[i]
  | [], i, hi, _, _ => absurd hi (Nat.not_lt_zero i)
  | a :: l, 0, hi, _, h => by
    simp only [List.getElem_cons_zero] at h ⊢
    unfold allE
    rw [if_neg h]
  | a :: l, i + 1, hi, h, h2 => by
    have h0 := h 0 (by simp) (by omega)
    simp only [List.getElem_cons_zero] at h0
    simp only [List.getElem_cons_succ] at h2 ⊢
    unfold allE
    rw [if_pos h0]
    exact allE_some (by simpa using hi) (fun j hj hji => by
      have := h (j + 1) (by simp; omega) (by omega)
      simpa using this) h2
theorem allE_zero {f : Int → Int} : ∀ {l : List Int}, allE f l = 0 → ∀ a ∈ l, f a = 0
  | [], _, a, ha => by cases ha
  | b :: l, h, a, ha => by
    unfold allE at h
    by_cases hb : f b = 0
    · rw [if_pos hb] at h
      rcases List.mem_cons.1 ha with rfl | ha
      · exact hb
      · exact allE_zero h a ha
    · rw [if_neg hb] at h
      exact absurd h hb
def findU (l : List Unt) (id : Int) : Option Nat := l.findIdx? fun u => decide (u.id = id)
def unt0 : Unt := ⟨0, 0, 0, (0, 0), 0, 0, 0, 0, 0⟩
theorem findU_some {l : List Unt} {id : Int} {i : Nat} (h : findU l id = some i) : ∃ hi : i < l.length, l[i].id = id := by
  unfold findU at h
  rw [List.findIdx?_eq_some_iff_getElem] at h
  obtain ⟨h1, h2, _⟩ := h
  exact ⟨h1, of_decide_eq_true h2⟩
theorem findU_none {l : List Unt} {id : Int} (h : findU l id = none) : ∀ u ∈ l, u.id ≠ id := by
  unfold findU at h
  rw [List.findIdx?_eq_none_iff] at h
  exact fun u hu => of_decide_eq_false (h u hu)
theorem findU_mk {l : List Unt} (hr : risesU l) {id : Int} {i : Nat} (hi : i < l.length) (e : l[i].id = id) : findU l id = some i := by
  cases h : findU l id with
  | none => exact absurd e (findU_none h _ (List.getElem_mem hi))
  | some k =>
    obtain ⟨hk, e2⟩ := findU_some h
    by_cases h1 : k < i
    · have := risesU_lt' hr h1 hi; omega
    · by_cases h2 : i < k
      · have := risesU_lt' hr h2 hk; omega
      · rw [show k = i by omega]
/-- The unit of an ID. -/
def uAt (w : Wld) (id : Int) : Unt := match findU w.U id with | none => unt0 | some i => w.U.getD i unt0
/-- What a player is told who asks for a unit. -/
def askE (w : Wld) (P id : Int) : Int := match findU w.U id with | none => 3 | some i => if (w.U.getD i unt0).owner = P then (if (w.U.getD i unt0).inn = 0 then 0 else 9) else 6
theorem uAt_some {w : Wld} {id : Int} {i : Nat} (h : findU w.U id = some i) : ∃ hi : i < w.U.length, w.U[i].id = id ∧ uAt w id = w.U[i] := by
  obtain ⟨hi, e⟩ := findU_some h
  refine ⟨hi, e, ?_⟩
  unfold uAt
  rw [h]
  simp [List.getD_eq_getElem?_getD, hi]
theorem askE_none {w : Wld} {P id : Int} (h : findU w.U id = none) : askE w P id = 3 ∧ uAt w id = unt0 := by
  unfold askE uAt
  rw [h]
  exact ⟨rfl, rfl⟩
theorem askE_some {w : Wld} {P id : Int} {i : Nat} (h : findU w.U id = some i) (hi : i < w.U.length) : askE w P id = if w.U[i].owner = P then (if w.U[i].inn = 0 then 0 else 9) else 6 := by
  unfold askE
  rw [h]
  simp [List.getD_eq_getElem?_getD, hi]
theorem askE_zero {w : Wld} {P id : Int} (h : askE w P id = 0) : ∃ i, ∃ hi : i < w.U.length, findU w.U id = some i ∧ w.U[i].id = id ∧ uAt w id = w.U[i] ∧ w.U[i].owner = P ∧ w.U[i].inn = 0 := by
  cases hf : findU w.U id with
  | none => rw [(askE_none (P := P) hf).1] at h; cases h
  | some i =>
    obtain ⟨hi, e, e2⟩ := uAt_some hf
    rw [askE_some hf hi] at h
    refine ⟨i, hi, rfl, e, e2, ?_⟩
    split at h
    · split at h
      · exact ⟨‹_›, ‹_›⟩
      · cases h
    · cases h
theorem rows_set {α : Type} {f : α → List AV} {k : Nat} (hf : ∀ x, (f x).length = k) {U : List α} {i : Nat} (hi : i < U.length) (x : α) (J : List AV) : splice ((rws f U).flatten ++ J) (i * k) (f x) = (rws f (U.set i x)).flatten ++ J := by
  have := splice_rows (j := 0) (ys := f x) (L := J) (x' := x) hf hi (by rw [hf]; omega) (by
    unfold splice
    rw [hf x, List.take_zero, List.nil_append, Nat.zero_add, List.drop_of_length_le (by rw [hf]; exact Nat.le_refl _), List.append_nil])
  rw [Nat.add_zero] at this
  exact this
end Go.V
namespace Go.V
set_option linter.unusedVariables false
set_option linter.unusedSimpArgs false
section
variable {P : Program} {c : Cfg} {st : Store}
/-- What an append's source reads as. -/
structure SrcOK (P : Program) (st : Store) (k m : Nat) (x : AV) (xs : List AV) : Prop where
  out : ∀ (Oth M : Nat → Nat → Prop) (w : World) (xv : Value), StoreOK st Oth M w → VRel w (fun b o => M b o ∨ Oth b o) x xv →
    (Builtin.lenOf xv).run P w = .ok m w ∧ ∃ new : Array Value, Reads w (fun b o => M b o ∨ Oth b o) xs new.toList ∧ (∀ v ∈ new.toList, oneCell v = true) ∧ new.size = m * k ∧ ∀ w', w'.heap = w.heap → (Builtin.firstCells k m xv).run P w' = .ok new w'
/-- A slice over an object, anywhere in it. -/
theorem SrcOK.obj {k m o b cp : Nat} {l : List AV} (ho : st.obj b = some (.cells l)) (hl : o + m * k ≤ l.length) (h1 : ∀ y ∈ (l.drop o).take (m * k), y.one = true) : SrcOK P st k m (.s (.slice (some ⟨b, o, none⟩) m cp)) ((l.drop o).take (m * k)) := by
  refine ⟨fun Oth M w xv sto hxv => ?_⟩
  have hxv := VRel.eq_s hxv
  subst hxv
  obtain ⟨cs, e, fr, hb, _, hlen, hrel⟩ := (sto.obj b _ ho).1
  have hreads : Reads w (fun b o => M b o ∨ Oth b o) ((l.drop o).take (m * k)) ((List.range' 0 (m * k)).map fun i => cs.getD (o + i) undef) := by
    refine ⟨by simp; omega, fun i x y hx hy => ?_⟩
    have hi : i < m * k := by
      have := (List.getElem?_eq_some_iff.1 hx).1
      simp at this; omega
    rw [List.getElem?_take_of_lt hi, List.getElem?_drop] at hx
    simp [hi] at hy
    subst hy
    refine hrel (o + i) x _ hx ?_
    rw [Array.getElem?_eq_getElem (by omega)]
    simp [show o + i < cs.size by omega]
  refine ⟨by simp [Builtin.lenOf], ((List.range' 0 (m * k)).map fun i => cs.getD (o + i) undef).toArray, by simpa using hreads, by simpa using oneCell_of hreads h1, by simp, fun w' hw => ?_⟩
  have := run_loadCellsFrom (P := P) ⟨b, o, none⟩ w' (fun i => cs.getD (o + i) undef) (m * k) 0 #[] (fun p hp0 hp => by
    rw [add_eq, heap_cell hw]
    simp only [World.cell?, hb]
    have : o + p < cs.size := by omega
    simp [this])
  simp only [Builtin.firstCells, loadCells]
  simpa using this
end
section
variable {P : Program} {c : Cfg} {st : Store}
end
end Go.V
namespace Go.V
set_option linter.unusedVariables false
set_option linter.unusedSimpArgs false
section
variable {α : Type} {f : α → List AV} {k : Nat}
end
instance (a b : Bld) : Decidable (meetP a b) := inferInstanceAs (Decidable (_ ∧ _))
end Go.V
namespace Go.V
set_option linter.unusedVariables false
set_option linter.unusedSimpArgs false
end Go.V
namespace Go.V
set_option linter.unusedVariables false
set_option linter.unusedSimpArgs false
end Go.V
namespace Go.V
set_option linter.unusedVariables false
set_option linter.unusedSimpArgs false
/-- Good places for a kind about a tile. -/
def slotsU (w : Wld) (k tile : Int) (n : Nat) : List Nat := slotsL w.G (goodB w.G w.B (kCls k) (kSize k)) (kSize k) tile n
/-- The entries of a stand, when a unit is put. -/
def entP (L : List Ent) (u : Unt) : List Ent := if u.inn = 0 then dropId L u.id ++ [(u.id, u.pos)] else dropId L u.id
theorem entP_len (L : List Ent) (u : Unt) : (entP L u).length ≤ L.length + 1 := by
  have : (dropId L u.id).length ≤ L.length := List.length_filter_le _ _
  unfold entP
  split
  · rw [List.length_append, List.length_singleton]; omega
  · omega
theorem entP_ok {L : List Ent} (hok : ∀ e ∈ L, e.2.ok) {u : Unt} (hp : u.pos.ok) : ∀ e ∈ entP L u, e.2.ok := fun e he => by
  unfold entP at he
  split at he
  · rcases List.mem_append.1 he with he | he
    · exact hok e (mem_dropId.1 he).1
    · simp at he; subst he; exact hp
  · exact hok e (mem_dropId.1 he).1
/-- A unit is put: IDs rise as before. -/
theorem rises_put {U : List Unt} (hr : risesU U) {i : Nat} (hi : i < U.length) {u : Unt} (hid : U[i].id = u.id) : risesU (U.set i u) := by
  intro j hj h0
  rw [List.length_set] at hj
  have := hr j hj h0
  have id' : ∀ k, (hk : k < U.length) → ((U.set i u)[k]'(by rw [List.length_set]; exact hk)).id = U[k].id := fun k hk => by
    rw [List.getElem_set]
    split
    · rename_i e; subst e; exact hid.symm
    · rfl
  rw [id' _ (by omega), id' _ hj]
  exact this
end Go.V
namespace Go.V
set_option linter.unusedVariables false
set_option linter.unusedSimpArgs false
def mvG (g : Int) (u : Unt) : Unt := { u with goal := g, next := -1, stuck := 0, state := 1 }
def mvGoal (w : Wld) (c : Cmd) (k : Nat) (kd : Int) : Int := match (slotsU w kd c.T c.U.length)[k]? with | some t => (t : Int) | none => c.T
def mvL (w : Wld) (c : Cmd) : Nat → List Unt
  | 0 => w.U
  | k + 1 => match findU w.U (c.U.getD k 0) with
    | some i => (mvL w c k).set i (mvG (mvGoal w c k (w.U.getD i unt0).kind) (w.U.getD i unt0))
    | none => mvL w c k
def mvE (w : Wld) (c : Cmd) : Int := if 0 ≤ c.T ∧ c.T < w.G.W * w.G.H then allE (askE w c.P) c.U else 3
def mvW (w : Wld) (c : Cmd) : Wld := { w with U := mvL w c c.U.length }
theorem mvL_step {w : Wld} {c : Cmd} {k i : Nat} (hk : k < c.U.length) (hf : findU w.U c.U[k] = some i) (hi : i < w.U.length) : mvL w c (k + 1) = (mvL w c k).set i (mvG (mvGoal w c k w.U[i].kind) w.U[i]) := by
  show (match findU w.U (c.U.getD k 0) with | some i => _ | none => _) = _
  rw [show c.U.getD k 0 = c.U[k] by simp [List.getD_eq_getElem?_getD, hk], hf]
  dsimp only
  rw [show w.U.getD i unt0 = w.U[i] by simp [List.getD_eq_getElem?_getD, hi]]
theorem mvL_len (w : Wld) (c : Cmd) : ∀ k, (mvL w c k).length = w.U.length
  | 0 => rfl
  | k + 1 => by
    show (match findU w.U (c.U.getD k 0) with | some i => _ | none => _ : List Unt).length = _
    cases findU w.U (c.U.getD k 0) with
    | none => exact mvL_len w c k
    | some i => dsimp only; rw [List.length_set]; exact mvL_len w c k
/-- All but the order stays. -/
theorem mvL_same (w : Wld) (c : Cmd) : ∀ k j, (hj : j < w.U.length) → mvG 0 ((mvL w c k)[j]'(by rw [mvL_len]; exact hj)) = mvG 0 w.U[j]
  | 0, j, hj => rfl
  | k + 1, j, hj => by
    have ih := mvL_same w c k j hj
    have key : ∀ L : List Unt, (hL : j < L.length) → L = mvL w c (k + 1) → mvG 0 L[j] = mvG 0 w.U[j] := fun L hL e => by
      have e2 : mvL w c (k + 1) = (match findU w.U (c.U.getD k 0) with
        | some i => (mvL w c k).set i (mvG (mvGoal w c k (w.U.getD i unt0).kind) (w.U.getD i unt0))
        | none => mvL w c k) := rfl
      rw [e2] at e
      cases hf : findU w.U (c.U.getD k 0) with
      | none => rw [hf] at e; subst e; exact ih
      | some i =>
        rw [hf] at e
        obtain ⟨hi, _⟩ := findU_some hf
        subst e
        rw [List.getElem_set]
        split
        · rename_i e3; subst e3
          rw [show w.U.getD i unt0 = w.U[i] by simp [List.getD_eq_getElem?_getD, hi]]
          rfl
        · exact ih
    exact key _ (by rw [mvL_len]; exact hj) rfl
theorem mvG_eq {a b : Unt} (h : mvG 0 a = mvG 0 b) (g : Int) : mvG g a = mvG g b := by
  have : ∀ u, mvG g u = { mvG 0 u with goal := g } := fun u => rfl
  rw [this a, this b, h]
theorem mvG_facts {a b : Unt} (h : mvG 0 a = mvG 0 b) : a.id = b.id ∧ a.owner = b.owner ∧ a.kind = b.kind ∧ a.pos = b.pos ∧ a.inn = b.inn := by
  refine ⟨?_, ?_, ?_, ?_, ?_⟩
  · have := congrArg Unt.id h
    exact this
  · have := congrArg Unt.owner h
    exact this
  · have := congrArg Unt.kind h
    exact this
  · have := congrArg Unt.pos h
    exact this
  · have := congrArg Unt.inn h
    exact this
theorem mvL_id (w : Wld) (c : Cmd) (k j : Nat) (hj : j < w.U.length) : ((mvL w c k)[j]'(by rw [mvL_len]; exact hj)).id = w.U[j].id := (mvG_facts (mvL_same w c k j hj)).1
theorem mvL_rises {w : Wld} (hr : risesU w.U) (c : Cmd) (k : Nat) : risesU (mvL w c k) := by
  intro j hj h0
  rw [mvL_len] at hj
  have := hr j hj h0
  rw [mvL_id w c k _ (by omega), mvL_id w c k _ hj]
  exact this
theorem mvL_find {w : Wld} (hr : risesU w.U) (c : Cmd) (k : Nat) (id : Int) : findU (mvL w c k) id = findU w.U id := by
  cases h : findU w.U id with
  | some i =>
    obtain ⟨hi, e⟩ := findU_some h
    exact findU_mk (mvL_rises hr c k) (by rw [mvL_len]; exact hi) (by rw [mvL_id w c k i hi]; exact e)
  | none =>
    cases h2 : findU (mvL w c k) id with
    | none => rfl
    | some i =>
      obtain ⟨hi, e⟩ := findU_some h2
      rw [mvL_len] at hi
      rw [mvL_id w c k i hi] at e
      exact absurd e (findU_none h _ (List.getElem_mem hi))
theorem mvL_mem {w : Wld} {c : Cmd} {k : Nat} {u : Unt} (h : u ∈ mvL w c k) : ∃ x ∈ w.U, u.id = x.id ∧ u.owner = x.owner ∧ u.kind = x.kind ∧ u.pos = x.pos ∧ u.inn = x.inn := by
  obtain ⟨j, hj, rfl⟩ := List.getElem_of_mem h
  have hj2 := hj
  rw [mvL_len] at hj2
  exact ⟨w.U[j], List.getElem_mem hj2, mvG_facts (mvL_same w c k j hj2)⟩
theorem mvE_1 {w : Wld} {c : Cmd} (h : ¬ (0 ≤ c.T ∧ c.T < w.G.W * w.G.H)) : mvE w c = 3 := by unfold mvE; rw [if_neg h]
theorem mvE_2 {w : Wld} {c : Cmd} (h : 0 ≤ c.T ∧ c.T < w.G.W * w.G.H) : mvE w c = allE (askE w c.P) c.U := by unfold mvE; rw [if_pos h]
/-- The goal, by the places told. -/
theorem mvGoal_some {w : Wld} {c : Cmd} {k : Nat} {kd : Int} (h : k < (slotsU w kd c.T c.U.length).length) : mvGoal w c k kd = ((slotsU w kd c.T c.U.length)[k] : Nat) := by
  unfold mvGoal
  rw [List.getElem?_eq_getElem h]
theorem mvGoal_none {w : Wld} {c : Cmd} {k : Nat} {kd : Int} (h : ¬ k < (slotsU w kd c.T c.U.length).length) : mvGoal w c k kd = c.T := by
  unfold mvGoal
  rw [List.getElem?_eq_none (by omega)]
theorem look_entT {α : Type} (f : α → AV) (cs : List (Int × α)) (k : Int) (z : AV) : lookAV true z ((cs.map (entI f)).find? (qA k)) = match getI cs k with | some v => .tup [f v, .s (.bool true)] | none => .tup [z, .s (.bool false)] := by
  rw [find_entI]
  unfold getI
  cases cs.find? fun e => k == e.1 with
  | none => rfl
  | some e => rfl
end Go.V
