/- The ground on which laws of thronglaw23 are proved: contracts of functions and plain lemmas; no condition beyond the row's own. -/
import Derived.Test.YtlmechfgnfepoaaGreatVC
import Derived.Test.YtlmechfgnfepoaaGreatVE
import Derived.Test.YtlmechfgnfepoaaGreatVG
import Derived.Test.YtlmechfgnfepoaaGreatVH
set_option linter.unusedSimpArgs false
set_option linter.unusedVariables false
namespace Go.V
/-- An object that is done with is a plain list in a box. -/
theorem AWp.freezeBx {P : Program} {c : Cfg} {code : Code} {Q : Exit → Fr → Store → Prop} {A : Fr} {st : Store} {d j b n cap k : Nat} {l : List AV} {rows : List (List AV)} {pad : List AV}
    (hA : A.bx d = some l) (hl : l[j]? = some (.s (.slice (some ⟨b, 0, none⟩) n cap))) (ho : st.obj b = some (.cells (rows.flatten ++ pad))) (ht : st.tok b = none) (hn : rows.length = n) (hcap : n ≤ cap)
    (hk : ∀ row ∈ rows, row.length = k) (hall : ∀ row ∈ rows, ∀ x ∈ row, ∃ v, x = AV.s v ∧ z6 v = true)
    (h : AWp P c code Q (A.setBx d (l.set j (.lst k rows none))) (st.delObj b)) : AWp P c code Q A st := by
  refine ⟨fun Oth M a w ⟨β, sim⟩ => ?_⟩
  have hs : ∀ b' o, ((M b' o ∧ b' ≠ b) ∨ Oth b' o) → (M b' o ∨ Oth b' o) := fun _ _ h => h.imp (·.1) id
  have hbd : β d ≠ b := sim.sep d b (fun e => by rw [hA] at e; cases e) (.inl (by rw [ho]; simp))
  obtain ⟨hcell, hM⟩ := sim.sto.obj b _ ho
  have sim' : SimB c.n Oth β (A.setBx d (l.set j (.lst k rows none))) (st.delObj b) (fun b' o => M b' o ∧ b' ≠ b) a w := by
    refine { tsz := sim.tsz, dfr := sim.dfr, tm := fun i => ?_, bx := fun q l' hq => ?_, inj := fun q q' h1 h2 => ?_, sep := fun q b' hq hb' => ?_, sto := ?_ }
    · have h1 := sim.tm i
      show LRel w _ β (A.t i) _
      generalize A.t i = x at h1
      cases x with
      | any => trivial
      | und => exact h1
      | av x => exact VRel.mono hs h1
      | bx k off => exact h1
    · have hq2 : (bif Nat.beq q d then some (l.set j (.lst k rows none)) else A.bx q) = some l' := hq
      clear hq
      cases hb : Nat.beq q d with
      | true =>
        rw [hb] at hq2
        have hqd := (yl _ _).1 hb
        subst hqd
        have hq3 : l.set j (.lst k rows none) = l' := Option.some.inj hq2
        subst hq3
        obtain ⟨⟨cs, e, fr, h1, h2, h3, h4⟩, h5⟩ := sim.bx q l hA
        refine ⟨⟨cs, e, fr, h1, h2, by rw [List.length_set]; exact h3, fun i x y hx hy => ?_⟩, fun o => ⟨h5 o, hbd⟩⟩
        rw [List.getElem?_set] at hx
        by_cases e9 : j = i
        · subst e9
          rw [if_pos rfl] at hx
          have hjl := (List.getElem?_eq_some_iff.1 hl).1
          rw [if_pos hjl] at hx
          have hx := Option.some.inj hx
          subst hx
          have h6 := h4 j _ y hl hy
          cases h6
          exact zfi hcell (fun o hT => hT.elim (fun q => q.2 rfl) (fun q => sim.sto.dis _ _ q (hM o))) hn hcap hk hall
        · rw [if_neg e9] at hx
          exact (h4 i x y hx hy).mono hs
      | false =>
        rw [hb] at hq2
        have hqb : β q ≠ b := sim.sep q b (fun e => by rw [show A.bx q = some l' from hq2] at e; cases e) (.inl (by rw [ho]; simp))
        obtain ⟨⟨cs, e, fr, h1, h2, h3, h4⟩, h5⟩ := sim.bx q l' hq2
        exact ⟨⟨cs, e, fr, h1, h2, h3, fun i x y hx hy => (h4 i x y hx hy).mono hs⟩, fun o => ⟨h5 o, hqb⟩⟩
    · refine sim.inj q q' (fun e => ?_) (fun e => ?_)
      · refine h1 ?_
        show (bif Nat.beq q d then some (l.set j (.lst k rows none)) else A.bx q) = none
        cases hb : Nat.beq q d with
        | true =>
          have := (yl _ _).1 hb
          subst this
          rw [hA] at e; cases e
        | false => exact e
      · refine h2 ?_
        show (bif Nat.beq q' d then some (l.set j (.lst k rows none)) else A.bx q') = none
        cases hb : Nat.beq q' d with
        | true =>
          have := (yl _ _).1 hb
          subst this
          rw [hA] at e; cases e
        | false => exact e
    · refine sim.sep q b' (fun e => ?_) ?_
      · refine hq ?_
        show (bif Nat.beq q d then some (l.set j (.lst k rows none)) else A.bx q) = none
        cases hb : Nat.beq q d with
        | true =>
          have := (yl _ _).1 hb
          subst this
          rw [hA] at e; cases e
        | false => exact e
      · rcases hb' with hb' | hb'
        · cases hx : (st.delObj b).obj b' with
          | none => exact absurd hx hb'
          | some y => exact .inl (by rw [(qf hx).2]; simp)
        · exact .inr hb'
    · exact { obj := fun b' y hy => ⟨(sim.sto.obj b' y (qf hy).2).1.mono hs, fun o => ⟨(sim.sto.obj b' y (qf hy).2).2 o, (qf hy).1⟩⟩
              tok := fun b' top htk => by
                obtain ⟨c, e, fr, h1, h2, h3, h4⟩ := sim.sto.tok b' top htk
                exact ⟨c, e, fr, h1, h2, h3, fun o ho => ⟨h4 o ho, fun e => by subst e; rw [show st.tok b' = some top from htk] at ht; cases ht⟩⟩
              mlt := fun b' o hm => sim.sto.mlt b' o hm.1, olt := sim.sto.olt, dis := fun b' o ho hm => sim.sto.dis b' o ho hm.1 }
  refine Code.wp_mono ?_ (h.out Oth _ a w ⟨β, sim'⟩)
  rintro e a' w' ⟨A', st', M', h1, h2, h3⟩
  exact ⟨A', st', M', h1, h2, { size := h3.size, keep := fun b' o hb hm => h3.keep b' o hb fun h => hm h.1, blk := fun b' hb hm => h3.blk b' hb fun o h => hm o h.1, shp := h3.shp, sub := fun b' o hm hb => (h3.sub b' o hm hb).1, tape := h3.tape, os := h3.os, output := h3.output }⟩
end Go.V
namespace Go.V
def onG (g : Gnd) (x y : Int) : Prop := (0 ≤ x ∧ x < g.W) ∧ (0 ≤ y ∧ y < g.H)
instance (g : Gnd) (x y : Int) : Decidable (onG g x y) := inferInstanceAs (Decidable (_ ∧ _))
def tl (g : Gnd) (x y : Int) : Nat := (x + g.W * y).toNat
theorem x9 {g : Gnd} (hg : gndP g) {x y : Int} (h : onG g x y) : ((tl g x y : Nat) : Int) = x + g.W * y ∧ tl g x y < g.T.length ∧ (tl g x y : Int) % g.W = x ∧ (tl g x y : Int) / g.W = y := by
 obtain ⟨h1, h2, h3⟩ := zq hg
 obtain ⟨⟨hx, hx2⟩, hy, hy2⟩ := h
 have hW : 1 ≤ g.W := hg.1.1
 have e0 : 0 ≤ g.W * y := Int.mul_nonneg (by omega) hy
 have e : ((tl g x y : Nat) : Int) = x + g.W * y := by unfold tl; omega
 have e1 : g.W * y ≤ g.W * (g.H - 1) := Int.mul_le_mul (Int.le_refl _) (by omega) hy (by omega)
 rw [Int.mul_sub, Int.mul_one] at e1
 refine ⟨e, by omega, ?_, ?_⟩
 ·rw [e, Int.add_mul_emod_self_left, Int.emod_eq_of_lt hx hx2]
 ·rw [e, Int.add_mul_ediv_left _ _ (by omega), Int.ediv_eq_zero_of_lt hx hx2, Int.zero_add]
theorem zf3 {g : Gnd} (hg : gndP g) {t : Nat} (ht : t < g.T.length) : onG g ((t : Int) % g.W) ((t : Int) / g.W) ∧ tl g ((t : Int) % g.W) ((t : Int) / g.W) = t := by
 obtain ⟨h1, h2, h3⟩ := zq hg
 have hW : 1 ≤ g.W := hg.1.1
 have a := Int.emod_nonneg (t : Int) (show g.W ≠ 0 by omega)
 have b := Int.emod_lt_of_pos (t : Int) (show 0 < g.W by omega)
 have c := Int.ediv_nonneg (show 0 ≤ (t : Int) by omega) (show 0 ≤ g.W by omega)
 have d : (t : Int) / g.W < g.H := Int.ediv_lt_of_lt_mul (by omega) (by rw [Int.mul_comm]; omega)
 refine ⟨⟨⟨a, b⟩, c, d⟩, ?_⟩
 unfold tl
 rw [Int.emod_add_mul_ediv]
 omega
/-- All tiles of a square are good. -/
def sqP (g : Gnd) (f : Nat → Bool) (s : Nat) (x y : Int) : Prop := ∀ a b : Int, -(s : Int) ≤ a → a ≤ s → -(s : Int) ≤ b → b ≤ s → onG g (x + a) (y + b) ∧ f (tl g (x + a) (y + b)) = true
theorem sq_zero {g : Gnd} {f : Nat → Bool} {x y : Int} : sqP g f 0 x y ↔ onG g x y ∧ f (tl g x y) = true := by
 constructor
 ·intro h
  have := h 0 0 (by decide) (by decide) (by decide) (by decide)
  simpa using this
 ·intro h a b h1 h2 h3 h4
  have ea : a = 0 := by omega
  have eb : b = 0 := by omega
  subst ea eb
  simpa using h
theorem sq_succ {g : Gnd} {f : Nat → Bool} {s : Nat} {x y : Int} : sqP g f (s + 1) x y ↔ ∀ a b : Int, -1 ≤ a → a ≤ 1 → -1 ≤ b → b ≤ 1 → onG g (x + a) (y + b) ∧ sqP g f s (x + a) (y + b) := by
 constructor
 ·intro h a b h1 h2 h3 h4
  refine ⟨(h a b (by omega) (by omega) (by omega) (by omega)).1, fun a' b' k1 k2 k3 k4 => ?_⟩
  have := h (a + a') (b + b') (by omega) (by omega) (by omega) (by omega)
  rw [← Int.add_assoc, ← Int.add_assoc] at this
  exact this
 ·intro h a b h1 h2 h3 h4
  obtain ⟨a1, ha1, ha2, ha3, ha4⟩ : ∃ a1 : Int, -1 ≤ a1 ∧ a1 ≤ 1 ∧ -(s : Int) ≤ a - a1 ∧ a - a1 ≤ s := by
   by_cases c1 : a > s
   ·exact ⟨1, by omega, by omega, by omega, by omega⟩
   ·by_cases c2 : a < -s
    ·exact ⟨-1, by omega, by omega, by omega, by omega⟩
    ·exact ⟨0, by omega, by omega, by omega, by omega⟩
  obtain ⟨b1, hb1, hb2, hb3, hb4⟩ : ∃ b1 : Int, -1 ≤ b1 ∧ b1 ≤ 1 ∧ -(s : Int) ≤ b - b1 ∧ b - b1 ≤ s := by
   by_cases c1 : b > s
   ·exact ⟨1, by omega, by omega, by omega, by omega⟩
   ·by_cases c2 : b < -s
    ·exact ⟨-1, by omega, by omega, by omega, by omega⟩
    ·exact ⟨0, by omega, by omega, by omega, by omega⟩
  have := (h a1 b1 ha1 ha2 hb1 hb2).2 (a - a1) (b - b1) ha3 ha4 hb3 hb4
  rw [show x + a1 + (a - a1) = x + a by omega, show y + b1 + (b - b1) = y + b by omega] at this
  exact this
theorem zn8 {g : Gnd} {f : Nat → Bool} {s s' : Nat} (hs : s' ≤ s) {x y : Int} (h : sqP g f s x y) : sqP g f s' x y := fun a b h1 h2 h3 h4 => h a b (by omega) (by omega) (by omega) (by omega)
def m5 (a b c d e : Int) : Int := min (min (min (min a (b + 1)) (c + 1)) (d + 1)) (e + 1)
/-- Two sweeps tell how far it is to what is not good. -/
theorem cham {g : Gnd} {f : Nat → Bool} {A B : Int → Int → Int} (oA : ∀ x y, ¬ onG g x y → A x y = 0) (oB : ∀ x y, ¬ onG g x y → B x y = 0)
  (hA : ∀ x y, onG g x y → A x y = m5 (if f (tl g x y) then 128 else 0) (A (x - 1) y) (A (x - 1) (y - 1)) (A x (y - 1)) (A (x + 1) (y - 1)))
  (hB : ∀ x y, onG g x y → B x y = m5 (A x y) (B (x + 1) y) (B (x + 1) (y + 1)) (B x (y + 1)) (B (x - 1) (y + 1))) {x y : Int} (hxy : onG g x y) (s : Nat) (hs : s ≤ 127) : (s : Int) < B x y ↔ sqP g f s x y := by
 -- not below 0
 have nA : ∀ n : Nat, ∀ x y, onG g x y → y * 200 + x < n → 0 ≤ A x y := by
  intro n
  induction n with
  | zero => intro x y h hn; obtain ⟨⟨h1, h2⟩, h3, h4⟩ := h; omega
  | succ n ih =>
   intro x y h hn
   have any : ∀ x' y', y' * 200 + x' < y * 200 + x → 0 ≤ A x' y' := fun x' y' hl => by
    by_cases ho : onG g x' y'
    ·exact ih x' y' ho (by omega)
    ·rw [oA x' y' ho]; decide
   rw [hA x y h]
   have a1 := any (x - 1) y (by omega)
   have a2 := any (x - 1) (y - 1) (by omega)
   have a3 := any x (y - 1) (by omega)
   have a4 := any (x + 1) (y - 1) (by omega)
   have a5 : (0 : Int) ≤ (if f (tl g x y) then 128 else 0) := by split <;> decide
   unfold m5
   omega
 have pA : ∀ x y, 0 ≤ A x y := fun x y => by
  by_cases ho : onG g x y
  ·exact nA (y * 200 + x + 1).toNat x y ho (by obtain ⟨⟨h1, h2⟩, h3, h4⟩ := ho; omega)
  ·rw [oA x y ho]; decide
 have nB : ∀ n : Nat, ∀ x y, onG g x y → (g.H - y) * 200 + (g.W - x) < n → 0 ≤ B x y := by
  intro n
  induction n with
  | zero => intro x y h hn; obtain ⟨⟨h1, h2⟩, h3, h4⟩ := h; omega
  | succ n ih =>
   intro x y h hn
   have any : ∀ x' y', (g.H - y') * 200 + (g.W - x') < (g.H - y) * 200 + (g.W - x) → 0 ≤ B x' y' := fun x' y' hl => by
    by_cases ho : onG g x' y'
    ·exact ih x' y' ho (by omega)
    ·rw [oB x' y' ho]; decide
   rw [hB x y h]
   have a1 := any (x + 1) y (by omega)
   have a2 := any (x + 1) (y + 1) (by omega)
   have a3 := any x (y + 1) (by omega)
   have a4 := any (x - 1) (y + 1) (by omega)
   have a5 := pA x y
   unfold m5
   omega
 have pB : ∀ x y, 0 ≤ B x y := fun x y => by
  by_cases ho : onG g x y
  ·exact nB ((g.H - y) * 200 + (g.W - x) + 1).toNat x y ho (by obtain ⟨⟨h1, h2⟩, h3, h4⟩ := ho; omega)
  ·rw [oB x y ho]; decide
 constructor
 ·-- what is bad is not farther than its steps
  have up1 : ∀ d : Nat, ∀ x y a b, onG g x y → -(d : Int) ≤ a → a ≤ d → -(d : Int) ≤ b → b ≤ 0 → a ≤ -b → ¬ (onG g (x + a) (y + b) ∧ f (tl g (x + a) (y + b)) = true) → A x y ≤ d := by
   intro d
   induction d with
   | zero =>
    intro x y a b h h1 h2 h3 h4 h5 hbad
    have ea : a = 0 := by omega
    have eb : b = 0 := by omega
    subst ea eb
    rw [Int.add_zero, Int.add_zero] at hbad
    have hf : ¬ f (tl g x y) = true := fun hf => hbad ⟨h, hf⟩
    rw [hA x y h, if_neg hf]
    unfold m5
    omega
   | succ d ih =>
    intro x y a b h h1 h2 h3 h4 h5 hbad
    have go : ∀ u v : Int, -(d : Int) ≤ a - u → a - u ≤ d → -(d : Int) ≤ b - v → b - v ≤ 0 → a - u ≤ -(b - v) → A (x + u) (y + v) ≤ d := fun u v g1 g2 g3 g4 g5 => by
     by_cases ho : onG g (x + u) (y + v)
     ·refine ih (x + u) (y + v) (a - u) (b - v) ho g1 g2 g3 g4 g5 ?_
      rw [show x + u + (a - u) = x + a by omega, show y + v + (b - v) = y + b by omega]
      exact hbad
     ·rw [oA _ _ ho]; omega
    have hk := hA x y h
    unfold m5 at hk
    by_cases cb : b = 0
    ·by_cases ca : a = 0
     ·subst ca cb
      rw [Int.add_zero, Int.add_zero] at hbad
      have hf : ¬ f (tl g x y) = true := fun hf => hbad ⟨h, hf⟩
      rw [if_neg hf] at hk
      omega
     ·have := go (-1) 0 (by omega) (by omega) (by omega) (by omega) (by omega)
      rw [show x + -1 = x - 1 by omega, Int.add_zero] at this
      omega
    ·by_cases ca : a = 0
     ·have := go 0 (-1) (by omega) (by omega) (by omega) (by omega) (by omega)
      rw [show y + -1 = y - 1 by omega, Int.add_zero] at this
      omega
     ·by_cases ca2 : a < 0
      ·have := go (-1) (-1) (by omega) (by omega) (by omega) (by omega) (by omega)
       rw [show y + -1 = y - 1 by omega, show x + -1 = x - 1 by omega] at this
       omega
      ·have := go 1 (-1) (by omega) (by omega) (by omega) (by omega) (by omega)
       rw [show y + -1 = y - 1 by omega] at this
       omega
  have up2 : ∀ d : Nat, ∀ x y a b, onG g x y → -(d : Int) ≤ a → a ≤ d → -(d : Int) ≤ b → b ≤ d → ¬ (onG g (x + a) (y + b) ∧ f (tl g (x + a) (y + b)) = true) → B x y ≤ d := by
   intro d
   induction d with
   | zero =>
    intro x y a b h h1 h2 h3 h4 hbad
    have := up1 0 x y a b h h1 h2 h3 (by omega) (by omega) hbad
    have hk := hB x y h
    unfold m5 at hk
    omega
   | succ d ih =>
    intro x y a b h h1 h2 h3 h4 hbad
    have hk := hB x y h
    unfold m5 at hk
    by_cases cone : b ≤ 0 ∧ a ≤ -b
    ·have := up1 (d + 1) x y a b h h1 h2 h3 cone.1 cone.2 hbad
     omega
    have go : ∀ u v : Int, -(d : Int) ≤ a - u → a - u ≤ d → -(d : Int) ≤ b - v → b - v ≤ d → B (x + u) (y + v) ≤ d := fun u v g1 g2 g3 g4 => by
     by_cases ho : onG g (x + u) (y + v)
     ·refine ih (x + u) (y + v) (a - u) (b - v) ho g1 g2 g3 g4 ?_
      rw [show x + u + (a - u) = x + a by omega, show y + v + (b - v) = y + b by omega]
      exact hbad
     ·rw [oB _ _ ho]; omega
    by_cases cb : b ≤ 0
    ·have := go 1 0 (by omega) (by omega) (by omega) (by omega)
     rw [Int.add_zero] at this
     omega
    ·by_cases ca : a = 0
     ·have := go 0 1 (by omega) (by omega) (by omega) (by omega)
      rw [Int.add_zero] at this
      omega
     ·by_cases ca2 : a < 0
      ·have := go (-1) 1 (by omega) (by omega) (by omega) (by omega)
       rw [show x + -1 = x - 1 by omega] at this
       omega
      ·have := go 1 1 (by omega) (by omega) (by omega) (by omega)
       omega
  intro hlt a b h1 h2 h3 h4
  refine Classical.byContradiction fun hbad => ?_
  have := up2 s x y a b hxy h1 h2 h3 h4 hbad
  omega
 ·-- what is good all about is far
  have loA : ∀ s : Nat, s ≤ 127 → ∀ x y, sqP g f s x y → (s : Int) < A x y := by
   intro s
   induction s with
   | zero =>
    intro _ x y h
    obtain ⟨ho, hf⟩ := sq_zero.1 h
    rw [hA x y ho, if_pos hf]
    have a1 := pA (x - 1) y
    have a2 := pA (x - 1) (y - 1)
    have a3 := pA x (y - 1)
    have a4 := pA (x + 1) (y - 1)
    unfold m5
    omega
   | succ s ih =>
    intro hs x y h
    have h2 := sq_succ.1 h
    have nb := fun (a b : Int) h3 h4 h5 h6 => ih (by omega) _ _ (h2 a b h3 h4 h5 h6).2
    obtain ⟨ho, hf⟩ := sq_zero.1 (zn8 (Nat.zero_le _) h)
    have a1 := nb (-1) 0 (by decide) (by decide) (by decide) (by decide)
    have a2 := nb (-1) (-1) (by decide) (by decide) (by decide) (by decide)
    have a3 := nb 0 (-1) (by decide) (by decide) (by decide) (by decide)
    have a4 := nb 1 (-1) (by decide) (by decide) (by decide) (by decide)
    rw [show x + -1 = x - 1 by omega] at a1 a2
    rw [show y + -1 = y - 1 by omega] at a2 a3 a4
    rw [Int.add_zero] at a1 a3
    rw [hA x y ho, if_pos hf]
    unfold m5
    omega
  have loB : ∀ s : Nat, s ≤ 127 → ∀ x y, sqP g f s x y → (s : Int) < B x y := by
   intro s
   induction s with
   | zero =>
    intro hs x y h
    obtain ⟨ho, hf⟩ := sq_zero.1 h
    rw [hB x y ho]
    have a1 := pB (x + 1) y
    have a2 := pB (x + 1) (y + 1)
    have a3 := pB x (y + 1)
    have a4 := pB (x - 1) (y + 1)
    have a5 := loA 0 hs x y h
    unfold m5
    omega
   | succ s ih =>
    intro hs x y h
    have h2 := sq_succ.1 h
    have nb := fun (a b : Int) h3 h4 h5 h6 => ih (by omega) _ _ (h2 a b h3 h4 h5 h6).2
    obtain ⟨ho, hf⟩ := sq_zero.1 (zn8 (Nat.zero_le _) h)
    have a1 := nb 1 0 (by decide) (by decide) (by decide) (by decide)
    have a2 := nb 1 1 (by decide) (by decide) (by decide) (by decide)
    have a3 := nb 0 1 (by decide) (by decide) (by decide) (by decide)
    have a4 := nb (-1) 1 (by decide) (by decide) (by decide) (by decide)
    rw [show x + -1 = x - 1 by omega] at a4
    rw [Int.add_zero] at a1 a3
    have a5 := loA (s + 1) hs x y h
    rw [hB x y ho]
    unfold m5
    omega
  exact loB s hs x y
end Go.V
namespace Go.V
theorem zd1 {p q : Nat → Bool} {m : Nat} (hp : ∀ t, p t = true → t < m) : ∀ {N : Nat}, m < N → (∀ t, t < N → (q t = true ↔ p t = true ∨ t = m)) → (List.range N).filter q = (List.range N).filter p ++ [m]
 | 0, h, _ => absurd h (Nat.not_lt_zero m)
 | N + 1, h, hq => by
  rw [List.range_succ, List.filter_append, List.filter_append]
  have hpN : p N = false := Bool.eq_false_iff.2 fun hh => by have := hp N hh; omega
  by_cases e : m = N
  ·subst e
   have h1 : (List.range m).filter q = (List.range m).filter p := List.filter_congr fun t ht => by
    have ht := List.mem_range.1 ht
    have := hq t (by omega)
    rw [Bool.eq_iff_iff, this]
    exact ⟨fun h => h.resolve_right (by omega), .inl⟩
   have h2 : q m = true := (hq m (by omega)).2 (.inr rfl)
   rw [h1]
   simp [hpN, h2]
  ·have h2 : q N = false := Bool.eq_false_iff.2 fun hh => by
    rcases (hq N (by omega)).1 hh with h | h
    ·rw [hpN] at h; cases h
    ·omega
   rw [zd1 hp (by omega) (fun t ht => hq t (by omega))]
   simp [hpN, h2]
theorem zau {p q : Nat → Bool} {N : Nat} (h : ∀ t, t < N → (q t = true ↔ p t = true)) : (List.range N).filter q = (List.range N).filter p :=
 List.filter_congr fun t ht => by rw [Bool.eq_iff_iff]; exact h t (List.mem_range.1 ht)
theorem zn6 {α : Type} (L : List α) (a : α) (n : Nat) : (L ++ [a]).take n = if L.length < n then L.take n ++ [a] else L.take n := by
 split
 ·rw [List.take_of_length_le (by simp; omega), List.take_of_length_le (by omega)]
 ·rw [List.take_append_of_le_length (by omega)]
theorem zeu {α : Type} (L : List α) (n : Nat) : (L.take n).length < n ↔ L.length < n := by rw [List.length_take]; omega
def natI (l : List Nat) : List Int := l.map fun (t : Nat) => (t : Int)
theorem zlc (a b : List Nat) : natI (a ++ b) = natI a ++ natI b := List.map_append
/-- How far by rows and columns. -/
def absM (i j : Int) : Int := max (max i (-i)) (max j (-j))
/-- A tile at just this way from a place, by steps of k. -/
def zoz (g : Gnd) (x y k d : Int) (t : Nat) : Bool := decide (absM ((t : Int) % g.W - x) ((t : Int) / g.W - y) = d ∧ ((t : Int) % g.W - x).tmod k = 0 ∧ ((t : Int) / g.W - y).tmod k = 0)
def zeh (g : Gnd) (x y k d : Int) : List Nat := (List.range g.T.length).filter (zoz g x y k d)
/-- Those ahead of a place, row by row. -/
def zra (g : Gnd) (x y j i : Int) (t : Nat) : Bool := decide ((t : Int) / g.W < y + j ∨ ((t : Int) / g.W = y + j ∧ (t : Int) % g.W < x + i))
def jn (g : Gnd) (x y k d j i : Int) : List Nat := (List.range g.T.length).filter fun t => zoz g x y k d t && zra g x y j i t
theorem zf0 {g : Gnd} {x y k d : Int} {t : Nat} (h : zoz g x y k d t = true) : (x - d ≤ (t : Int) % g.W ∧ (t : Int) % g.W ≤ x + d) ∧ (y - d ≤ (t : Int) / g.W ∧ (t : Int) / g.W ≤ y + d) := by
 have := (of_decide_eq_true h).1
 unfold absM at this
 omega
theorem zho (g : Gnd) (x y k d : Int) : jn g x y k d (-d) (-d) = [] := by
 unfold jn
 rw [List.filter_eq_nil_iff]
 intro t _ hh
 obtain ⟨h1, h2⟩ := (Bool.and_eq_true_iff).1 hh
 have := zf0 h1
 have := of_decide_eq_true h2
 omega
theorem zmj (g : Gnd) (x y k d j : Int) : jn g x y k d j (d + 1) = jn g x y k d (j + 1) (-d) := zau fun t ht => by
 rw [Bool.and_eq_true_iff, Bool.and_eq_true_iff]
 refine ⟨fun ⟨h1, h2⟩ => ⟨h1, ?_⟩, fun ⟨h1, h2⟩ => ⟨h1, ?_⟩⟩
 ·have := zf0 h1
  have := of_decide_eq_true h2
  exact decide_eq_true (by omega)
 ·have := zf0 h1
  have := of_decide_eq_true h2
  exact decide_eq_true (by omega)
theorem zml (g : Gnd) (x y k d : Int) : jn g x y k d (d + 1) (-d) = zeh g x y k d := zau fun t ht => by
 rw [Bool.and_eq_true_iff]
 refine ⟨fun h => h.1, fun h1 => ⟨h1, ?_⟩⟩
 have := zf0 h1
 exact decide_eq_true (by omega)
theorem zmi {g : Gnd} (hg : gndP g) {x y k d j i : Int} (ho : onG g (x + i) (y + j)) (hd : absM i j = d) (hi : i.tmod k = 0) (hj : j.tmod k = 0) : jn g x y k d j (i + 1) = jn g x y k d j i ++ [tl g (x + i) (y + j)] := by
 obtain ⟨e1, e2, e3, e4⟩ := x9 hg ho
 have hW : 1 ≤ g.W := hg.1.1
 refine zd1 (m := tl g (x + i) (y + j)) (fun t hh => ?_) e2 (fun t ht => ?_)
 ·obtain ⟨h1, h2⟩ := (Bool.and_eq_true_iff).1 hh
  have h2 := of_decide_eq_true h2
  have e5 := Int.emod_add_mul_ediv (t : Int) g.W
  rcases h2 with h2 | ⟨h2, h3⟩
  ·have b1 := Int.emod_lt_of_pos (t : Int) (show 0 < g.W by omega)
   have : g.W * ((t : Int) / g.W + 1) ≤ g.W * (y + j) := Int.mul_le_mul_of_nonneg_left (by omega) (by omega)
   rw [Int.mul_add, Int.mul_one] at this
   have := ho.1.1
   omega
  ·rw [h2] at e5
   omega
 ·rw [Bool.and_eq_true_iff, Bool.and_eq_true_iff]
  constructor
  ·rintro ⟨h1, h2⟩
   have h2 := of_decide_eq_true h2
   by_cases h3 : (t : Int) / g.W = y + j ∧ (t : Int) % g.W = x + i
   ·right
    have := (zf3 hg ht).2
    rw [h3.1, h3.2] at this
    exact this.symm
   ·exact .inl ⟨h1, decide_eq_true (by omega)⟩
  ·rintro (⟨h1, h2⟩ | rfl)
   ·have h2 := of_decide_eq_true h2
    exact ⟨h1, decide_eq_true (by omega)⟩
   ·refine ⟨decide_eq_true ?_, decide_eq_true ?_⟩
    ·rw [e3, e4, show x + i - x = i by omega, show y + j - y = j by omega]
     exact ⟨hd, hi, hj⟩
    ·rw [e3, e4]; omega
theorem zoy {g : Gnd} (hg : gndP g) {x y k d j i : Int} (hn : ¬ (absM i j = d ∧ i.tmod k = 0 ∧ j.tmod k = 0 ∧ onG g (x + i) (y + j))) : jn g x y k d j (i + 1) = jn g x y k d j i := zau fun t ht => by
 rw [Bool.and_eq_true_iff, Bool.and_eq_true_iff]
 refine ⟨fun ⟨h1, h2⟩ => ⟨h1, ?_⟩, fun ⟨h1, h2⟩ => ⟨h1, ?_⟩⟩
 ·have h2 := of_decide_eq_true h2
  refine decide_eq_true ?_
  by_cases h3 : (t : Int) / g.W = y + j ∧ (t : Int) % g.W = x + i
  ·exfalso
   obtain ⟨q1, q2, q3⟩ := of_decide_eq_true h1
   rw [h3.1, h3.2, show x + i - x = i by omega, show y + j - y = j by omega] at q1
   rw [h3.2, show x + i - x = i by omega] at q2
   rw [h3.1, show y + j - y = j by omega] at q3
   have := (zf3 hg ht).1
   rw [h3.1, h3.2] at this
   exact hn ⟨q1, q2, q3, this⟩
  ·omega
 ·have h2 := of_decide_eq_true h2
  exact decide_eq_true (by omega)
/-- Places about a goal: all that are less than d away, by ways. -/
def za4 (g : Gnd) (f : Nat → Bool) (x y k d : Int) : List Nat := (zeh g x y k d).filter f
def yy (g : Gnd) (f : Nat → Bool) (x y k : Int) : Nat → List Nat
 | 0 => []
 | d + 1 => yy g f x y k d ++ za4 g f x y k d
/-- Places about a goal. -/
def zez (g : Gnd) (f : Nat → Bool) (size goal : Int) (n : Nat) : List Nat := (yy g f (goal % g.W) (goal / g.W) (2 * size + 1) (g.W + g.H + 1).toNat).take n
theorem zdf (g : Gnd) (f : Nat → Bool) (x y k : Int) (d : Nat) : ∀ e : Nat, ∃ m, yy g f x y k (d + e) = yy g f x y k d ++ m
 | 0 => ⟨[], by simp⟩
 | e + 1 => by
  obtain ⟨m, hm⟩ := zdf g f x y k d e
  exact ⟨m ++ za4 g f x y k ((d + e : Nat) : Int), by rw [← List.append_assoc, ← hm]; rfl⟩
theorem zoc {g : Gnd} (hg : gndP g) {f : Nat → Bool} {x y k d : Int} (hx : 0 ≤ x ∧ x < g.W) (hy : 0 ≤ y ∧ y < g.H) (hd : max g.W g.H ≤ d) : za4 g f x y k d = [] := by
 unfold za4 zeh
 rw [List.filter_filter, List.filter_eq_nil_iff]
 intro t ht hh
 obtain ⟨h1, h2⟩ := (Bool.and_eq_true_iff).1 hh
 have h3 := (of_decide_eq_true h2).1
 obtain ⟨⟨o1, o2⟩, o3, o4⟩ := (zf3 hg (List.mem_range.1 ht)).1
 unfold absM at h3
 omega
theorem zob {g : Gnd} {f : Nat → Bool} {x y k d : Int} (hd : ¬ k ∣ d) : za4 g f x y k d = [] := by
 unfold za4 zeh
 rw [List.filter_filter, List.filter_eq_nil_iff]
 intro t ht hh
 obtain ⟨h1, h2⟩ := (Bool.and_eq_true_iff).1 hh
 obtain ⟨h3, h4, h5⟩ := of_decide_eq_true h2
 have h4 := Int.dvd_of_tmod_eq_zero h4
 have h5 := Int.dvd_of_tmod_eq_zero h5
 refine hd ?_
 rw [← h3]
 unfold absM
 generalize (t : Int) % g.W - x = a at *
 generalize (t : Int) / g.W - y = b at *
 have ha := (Int.dvd_neg (a := k) (b := a)).2 h4
 have hb := (Int.dvd_neg (a := k) (b := b)).2 h5
 have mx : ∀ u v : Int, k ∣ u → k ∣ v → k ∣ max u v := fun u v h1 h2 => by
  by_cases h : u ≤ v
  ·rw [Int.max_eq_right h]; exact h2
  ·rw [Int.max_eq_left (by omega)]; exact h1
 exact mx _ _ (mx _ _ h4 ha) (mx _ _ h5 hb)
theorem zhf {g : Gnd} {f : Nat → Bool} {x y : Int} {k d : Nat} (hk : 0 < k) (hd : k ∣ d) : yy g f x y k (d + k) = yy g f x y k d ++ za4 g f x y k d := by
 have : ∀ e : Nat, e < k → yy g f x y k (d + (e + 1)) = yy g f x y k d ++ za4 g f x y k d := by
  intro e
  induction e with
  | zero => intro _; rfl
  | succ e ih =>
   intro he
   have h1 := ih (by omega)
   have h2 : za4 g f x y k ((d + (e + 1) : Nat) : Int) = [] := zob fun hh => by
    have hh : k ∣ d + (e + 1) := by exact_mod_cast hh
    have := (Nat.dvd_add_right hd).1 hh
    have := Nat.le_of_dvd (by omega) this
    omega
   show yy g f x y k (d + (e + 1)) ++ za4 g f x y k ((d + (e + 1) : Nat) : Int) = _
   rw [h1, h2, List.append_nil]
 have := this (k - 1) (by omega)
 rw [show k - 1 + 1 = k by omega] at this
 exact this
theorem zl7 {g : Gnd} (hg : gndP g) {f : Nat → Bool} {size goal : Int} (hgl : 0 ≤ goal ∧ goal < g.W * g.H) {d n : Nat} (h : n ≤ (yy g f (goal % g.W) (goal / g.W) (2 * size + 1) d).length ∨ max g.W g.H ≤ (d : Int)) :
  (yy g f (goal % g.W) (goal / g.W) (2 * size + 1) d).take n = zez g f size goal n := by
 have hW : 1 ≤ g.W ∧ g.W ≤ 128 := hg.1
 have hH : 1 ≤ g.H ∧ g.H ≤ 128 := hg.2.1
 have hx : 0 ≤ goal % g.W ∧ goal % g.W < g.W := ⟨Int.emod_nonneg _ (by omega), Int.emod_lt_of_pos _ (by omega)⟩
 have hy : 0 ≤ goal / g.W ∧ goal / g.W < g.H := ⟨Int.ediv_nonneg hgl.1 (by omega), Int.ediv_lt_of_lt_mul (by omega) (by rw [Int.mul_comm]; exact hgl.2)⟩
 unfold zez
 generalize goal % g.W = x at *
 generalize goal / g.W = y at *
 generalize 2 * size + 1 = k at *
 generalize hm : (g.W + g.H + 1).toNat = m at *
 have hmI : (m : Int) = g.W + g.H + 1 := by omega
 -- from where nothing comes any more
 have flat : ∀ c : Nat, max g.W g.H ≤ (c : Int) → ∀ e : Nat, yy g f x y k (c + e) = yy g f x y k c := fun c hc e => by
  induction e with
  | zero => rfl
  | succ e ih =>
   show yy g f x y k (c + e) ++ za4 g f x y k ((c + e : Nat) : Int) = _
   rw [ih, zoc hg hx hy (by omega), List.append_nil]
 rcases h with h | h
 ·by_cases hdm : d ≤ m
  ·obtain ⟨r, hr⟩ := zdf g f x y k d (m - d)
   rw [show d + (m - d) = m by omega] at hr
   rw [hr, List.take_append_of_le_length h]
  ·have := flat m (by omega) (d - m)
   rw [show m + (d - m) = d by omega] at this
   rw [this]
 ·by_cases hdm : d ≤ m
  ·have := flat d h (m - d)
   rw [show d + (m - d) = m by omega] at this
   rw [this]
  ·have := flat m (by omega) (d - m)
   rw [show m + (d - m) = d by omega] at this
   rw [this]
end Go.V
namespace Go.V
/-- Cells of whole numbers. -/
def il (n : Nat) (f : Nat → Int) : List AV := (List.range n).map fun t => int (f t)
theorem zae (n : Nat) (f : Nat → Int) : (il n f).length = n := by simp [il]
theorem ze6 {n : Nat} {f : Nat → Int} {t : Nat} (h : t < n) : (il n f)[t]? = some (int (f t)) := by simp [il, h]
theorem zj5 {n : Nat} {f : Nat → Int} {t : Nat} (h : t < n) : ((il n f).drop (0 + t * 1)).head? = some (int (f t)) := by
 rw [List.head?_drop, show 0 + t * 1 = t by omega, ze6 h]
theorem ycl (n : Nat) : List.replicate n (AV.s (.int .i64 0)) = il n fun _ => 0 := by
 unfold il
 rw [List.map_const', List.length_range]
 rfl
def setI (f : Nat → Int) (t : Nat) (v : Int) : Nat → Int := fun s => if s = t then v else f s
theorem vq (f : Nat → Int) (t : Nat) (v : Int) : setI f t v t = v := if_pos rfl
theorem zbp (f : Nat → Int) {t s : Nat} (v : Int) (h : s ≠ t) : setI f t v s = f s := if_neg h
theorem ybx (f : Nat → Int) (t : Nat) : setI f t (f t) = f := funext fun s => by
 unfold setI
 split
 ·rename_i h; rw [h]
 ·rfl
theorem zhh (f : Nat → Int) (t : Nat) (v u : Int) : setI (setI f t v) t u = setI f t u := funext fun s => by
 unfold setI
 split <;> simp_all
theorem zp8 {n : Nat} {f : Nat → Int} {t : Nat} (h : t < n) (g : Nat → Int) (hg : ∀ s, s ≠ t → g s = f s) : zn (il n f) t [int (g t)] = il n g := by
 unfold zn
 apply List.ext_getElem?
 intro s
 by_cases h1 : s < t
 ·rw [List.append_assoc, List.getElem?_append_left (by rw [List.length_take, zae]; omega), List.getElem?_take_of_lt h1, ze6 (by omega), ze6 (by omega), hg s (by omega)]
 ·by_cases h2 : s = t
  ·subst h2
   rw [List.append_assoc, List.getElem?_append_right (by rw [List.length_take, zae]; omega), List.length_take, zae, show s - min s n = 0 by omega, ze6 h]
   rfl
  ·rw [List.getElem?_append_right (by rw [List.length_append, List.length_take, zae]; simp; omega), List.length_append, List.length_take, zae, List.getElem?_drop]
   by_cases h3 : s < n
   ·have e : t + [int (g t)].length + (s - (min t n + [int (g t)].length)) = s := by simp; omega
    rw [e, ze6 h3, ze6 h3, hg s h2]
   ·rw [List.getElem?_eq_none (by rw [zae]; simp; omega), List.getElem?_eq_none (by rw [zae]; omega)]
theorem zy7 {n : Nat} {f : Nat → Int} {t : Nat} (h : t < n) (v : Int) : zn (il n f) t [int v] = il n (setI f t v) := by
 have := zp8 h (setI f t v) (fun s hs => zbp f v hs)
 rw [vq] at this
 exact this
def ilL (n : Nat) (f : Nat → Int) : List Int := (List.range n).map f
theorem zgb (n : Nat) (f : Nat → Int) : (ilL n f).length = n := by simp [ilL]
theorem ycn {n : Nat} {f : Nat → Int} {t : Nat} (h : t < n) : (ilL n f)[t]'(by rw [zgb]; exact h) = f t := by simp [ilL]
theorem ycm (n : Nat) (f : Nat → Int) : (rws intC (ilL n f)).flatten = il n f := by
 unfold rws ilL il
 rw [List.map_map]
 generalize List.range n = l
 induction l with
 | nil => rfl
 | cons a l ih => simp only [List.map_cons, List.flatten_cons, ih]; rfl
theorem zx5 {n : Nat} {f g : Nat → Int} (h : ∀ t, t < n → f t = g t) : il n f = il n g := List.map_congr_left fun t ht => by rw [h t (List.mem_range.1 ht)]
theorem zyr {n : Nat} {f g : Nat → Bool} (h : ∀ t, t < n → f t = g t) : bl n f = bl n g := List.map_congr_left fun t ht => by rw [h t (List.mem_range.1 ht)]
/-- What a place reads as: nothing is there, or its number. -/
def gv (g : Gnd) (f : Nat → Int) (x y : Int) : Int := if onG g x y then f (tl g x y) else 0
def vh (g : Gnd) (f : Nat → Int) (x y : Int) (v : Int) (ws : List (Int × Int)) : Int := ws.foldl (fun v d => min v (gv g f (x + d.1) (y + d.2) + 1)) v
theorem gv_b {g : Gnd} (hg : gndP g) {f : Nat → Int} (hf : ∀ t, t < g.T.length → 0 ≤ f t ∧ f t ≤ 128) (x y : Int) : 0 ≤ gv g f x y ∧ gv g f x y ≤ 128 := by
 unfold gv
 split
 ·rename_i h; exact hf _ (x9 hg h).2.1
 ·omega
theorem zju {g : Gnd} (hg : gndP g) {f : Nat → Int} (hf : ∀ t, t < g.T.length → 0 ≤ f t ∧ f t ≤ 128) (x y : Int) : ∀ (ws : List (Int × Int)) (v : Int), 0 ≤ v ∧ v ≤ 128 → 0 ≤ vh g f x y v ws ∧ vh g f x y v ws ≤ 128
 | [], v, hv => hv
 | d :: r, v, hv => by
  have := gv_b hg hf (x + d.1) (y + d.2)
  exact zju hg hf x y r (min v (gv g f (x + d.1) (y + d.2) + 1)) (by omega)
theorem zmv (g : Gnd) (f : Nat → Int) (x y v : Int) (ws : List (Int × Int)) {i : Nat} (hi : i < ws.length) : vh g f x y v (ws.take (i + 1)) = min (vh g f x y v (ws.take i)) (gv g f (x + ws[i].1) (y + ws[i].2) + 1) := by
 unfold vh
 rw [List.take_succ_eq_append_getElem hi, List.foldl_append]
 rfl
theorem ydb {n : Nat} {f : Nat → Int} (hf : ∀ t, t < n → 0 ≤ f t ∧ f t ≤ 128) {t : Nat} {v : Int} (hv : 0 ≤ v ∧ v ≤ 128) : ∀ s, s < n → 0 ≤ setI f t v s ∧ setI f t v s ≤ 128 := fun s hs => by
 unfold setI
 split
 ·exact hv
 ·exact hf s hs
/-- Another place is not touched. -/
theorem ycp {g : Gnd} (hg : gndP g) (f : Nat → Int) {t : Nat} (v : Int) {dx dy : Int} (hd : dx ≠ 0 ∨ dy ≠ 0) : gv g (setI f t v) ((t : Int) % g.W + dx) ((t : Int) / g.W + dy) = gv g f ((t : Int) % g.W + dx) ((t : Int) / g.W + dy) := by
 unfold gv
 split
 ·rename_i h
  obtain ⟨_, _, h3, h4⟩ := x9 hg h
  refine zbp f v fun e => ?_
  rw [e] at h3 h4
  omega
 ·rfl
def fwdW : List (Int × Int) := [(-1, 0), (-1, -1), (0, -1), (1, -1)]
def bwdW : List (Int × Int) := [(1, 0), (1, 1), (0, 1), (-1, 1)]
def wayC (d : Int × Int) : List AV := [int d.1, int d.2]
def zev (g : Gnd) (f : Nat → Int) (ws : List (Int × Int)) (t : Nat) : Nat → Int := setI f t (vh g f ((t : Int) % g.W) ((t : Int) / g.W) (f t) ws)
def xh (g : Gnd) (f : Nat → Int) : Nat → Nat → Int
 | 0 => f
 | i + 1 => zev g (xh g f i) fwdW i
def jz (g : Gnd) (f : Nat → Int) (n : Nat) : Nat → Nat → Int
 | 0 => f
 | j + 1 => zev g (jz g f n j) bwdW (n - 1 - j)
theorem zkz {g : Gnd} (hg : gndP g) {f : Nat → Int} (hf : ∀ t, t < g.T.length → 0 ≤ f t ∧ f t ≤ 128) {ws : List (Int × Int)} {t : Nat} (ht : t < g.T.length) : ∀ s, s < g.T.length → 0 ≤ zev g f ws t s ∧ zev g f ws t s ≤ 128 :=
 ydb hf (zju hg hf _ _ _ _ (hf t ht))
theorem zfv {g : Gnd} (hg : gndP g) {f : Nat → Int} (hf : ∀ t, t < g.T.length → 0 ≤ f t ∧ f t ≤ 128) : ∀ i, i ≤ g.T.length → ∀ s, s < g.T.length → 0 ≤ xh g f i s ∧ xh g f i s ≤ 128
 | 0, _ => hf
 | i + 1, hi => zkz hg (zfv hg hf i (by omega)) (by omega)
theorem zk0 {g : Gnd} (hg : gndP g) {f : Nat → Int} (hf : ∀ t, t < g.T.length → 0 ≤ f t ∧ f t ≤ 128) : ∀ i, i ≤ g.T.length → ∀ s, s < g.T.length → 0 ≤ jz g f g.T.length i s ∧ jz g f g.T.length i s ≤ 128
 | 0, _ => hf
 | i + 1, hi => zkz hg (zk0 hg hf i (by omega)) (by omega)
theorem zex (g : Gnd) (f : Nat → Int) : ∀ i s, i ≤ s → xh g f i s = f s
 | 0, _, _ => rfl
 | i + 1, s, h => by
  show setI _ i _ s = _
  rw [zbp _ _ (by omega), zex g f i s (by omega)]
theorem za2 (g : Gnd) (f : Nat → Int) : ∀ i s, s < i → xh g f i s = xh g f (s + 1) s
 | 0, _, h => absurd h (Nat.not_lt_zero _)
 | i + 1, s, h => by
  by_cases e : s = i
  ·subst e; rfl
  ·show setI _ i _ s = _
   rw [zbp _ _ e, za2 g f i s (by omega)]
theorem zew (g : Gnd) (f : Nat → Int) (n : Nat) : ∀ j s, s + j < n → jz g f n j s = f s
 | 0, _, _ => rfl
 | j + 1, s, h => by
  show setI _ (n - 1 - j) _ s = _
  rw [zbp _ _ (by omega), zew g f n j s (by omega)]
theorem za1 (g : Gnd) (f : Nat → Int) (n : Nat) : ∀ j s, s < n → j ≤ n → n ≤ s + j → jz g f n j s = jz g f n (n - 1 - s + 1) s
 | 0, s, h, _, h2 => absurd h2 (by omega)
 | j + 1, s, h, h1, h2 => by
  by_cases e : s = n - 1 - j
  ·have : j + 1 = n - 1 - s + 1 := by omega
   rw [this]
  ·show setI _ (n - 1 - j) _ s = _
   rw [zbp _ _ e, za1 g f n j s h (by omega) (by omega)]
theorem yce (g : Gnd) (f : Nat → Int) (x y v : Int) : vh g f x y v fwdW = m5 v (gv g f (x - 1) y) (gv g f (x - 1) (y - 1)) (gv g f x (y - 1)) (gv g f (x + 1) (y - 1)) := by
 unfold vh fwdW m5
 simp only [List.foldl_cons, List.foldl_nil, Int.add_zero, ← Int.sub_eq_add_neg]
theorem ycd (g : Gnd) (f : Nat → Int) (x y v : Int) : vh g f x y v bwdW = m5 v (gv g f (x + 1) y) (gv g f (x + 1) (y + 1)) (gv g f x (y + 1)) (gv g f (x - 1) (y + 1)) := by
 unfold vh bwdW m5
 simp only [List.foldl_cons, List.foldl_nil, Int.add_zero, ← Int.sub_eq_add_neg]
/-- How much room there is. -/
def zdj (g : Gnd) (o : Nat → Bool) : Nat → Int := jz g (xh g (fun t => if o t then 128 else 0) g.T.length) g.T.length g.T.length
theorem ycb {g : Gnd} (hg : gndP g) (o : Nat → Bool) {t : Nat} (ht : t < g.T.length) (s : Nat) (hs : s ≤ 127) : (s : Int) < zdj g o t ↔ sqP g o s ((t : Int) % g.W) ((t : Int) / g.W) := by
 have hW : 1 ≤ g.W := hg.1.1
 obtain ⟨ho, he⟩ := zf3 hg ht
 have key := cham (g := g) (f := o) (A := gv g (xh g (fun t => if o t then 128 else 0) g.T.length)) (B := gv g (zdj g o))
  (fun x y h => if_neg h) (fun x y h => if_neg h) (fun x y h => ?_) (fun x y h => ?_) ho s hs
 ·rw [← key]
  unfold gv
  rw [if_pos ho, he]
 ·obtain ⟨e1, e2, e3, e4⟩ := x9 hg h
  have nb : ∀ dx dy : Int, (dy = -1 ∨ dy = 0 ∧ dx = -1) → dx ≤ 1 → gv g (xh g (fun t => if o t then 128 else 0) (tl g x y)) (x + dx) (y + dy) = gv g (xh g (fun t => if o t then 128 else 0) g.T.length) (x + dx) (y + dy) := fun dx dy hd hx => by
   unfold gv
   split
   ·rename_i h2
    obtain ⟨f1, f2, f3, f4⟩ := x9 hg h2
    have hlt : tl g (x + dx) (y + dy) < tl g x y := by
     have hb := h.1
     have hb2 := h2.1
     rcases hd with rfl | ⟨rfl, rfl⟩
     ·have : g.W * (y + -1) = g.W * y - g.W := by rw [Int.mul_add]; omega
      rw [this] at f1
      have hne : (tl g (x + dx) (y + -1) : Int) ≠ tl g x y := fun e => by
       rw [e, e4] at f4
       omega
      omega
     ·rw [Int.add_zero] at f1 ⊢
      omega
    rw [za2 g _ _ _ hlt, za2 g _ _ _ f2]
   ·rfl
  have h1 : gv g (xh g (fun t => if o t then 128 else 0) g.T.length) x y = vh g (xh g (fun t => if o t then 128 else 0) (tl g x y)) x y (if o (tl g x y) then 128 else 0) fwdW := by
   unfold gv
   rw [if_pos h, za2 g _ _ _ e2]
   show setI _ _ _ _ = _
   rw [vq, e3, e4, zex g _ _ _ (Nat.le_refl _)]
  rw [h1, yce]
  have n1 := nb (-1) 0 (by omega) (by decide)
  have n2 := nb (-1) (-1) (by omega) (by decide)
  have n3 := nb 0 (-1) (by omega) (by decide)
  have n4 := nb 1 (-1) (by omega) (by decide)
  rw [Int.add_zero] at n1 n3
  rw [← Int.sub_eq_add_neg] at n1 n2 n3 n4
  rw [← Int.sub_eq_add_neg] at n2
  rw [n1, n2, n3, n4]
 ·obtain ⟨e1, e2, e3, e4⟩ := x9 hg h
  have hj : g.T.length - 1 - (g.T.length - 1 - tl g x y) = tl g x y := by omega
  unfold zdj
  generalize hF : xh g (fun t => if o t then 128 else 0) g.T.length = F
  have nb : ∀ dx dy : Int, (dy = 1 ∨ dy = 0 ∧ dx = 1) → -1 ≤ dx → gv g (jz g F g.T.length (g.T.length - 1 - tl g x y)) (x + dx) (y + dy) = gv g (jz g F g.T.length g.T.length) (x + dx) (y + dy) := fun dx dy hd hx => by
   unfold gv
   split
   ·rename_i h2
    obtain ⟨f1, f2, f3, f4⟩ := x9 hg h2
    have hlt : tl g x y < tl g (x + dx) (y + dy) := by
     have hb := h.1
     have hb2 := h2.1
     rcases hd with rfl | ⟨rfl, rfl⟩
     ·have : g.W * (y + 1) = g.W * y + g.W := by rw [Int.mul_add]; omega
      rw [this] at f1
      have hne : (tl g (x + dx) (y + 1) : Int) ≠ tl g x y := fun e => by
       rw [e, e4] at f4
       omega
      omega
     ·rw [Int.add_zero] at f1 ⊢
      omega
    rw [za1 g _ _ _ _ f2 (by omega) (by omega), za1 g _ _ _ _ f2 (Nat.le_refl _) (by omega)]
   ·rfl
  have h1 : gv g (jz g F g.T.length g.T.length) x y = vh g (jz g F g.T.length (g.T.length - 1 - tl g x y)) x y (gv g F x y) bwdW := by
   unfold gv
   rw [if_pos h, if_pos h, za1 g _ _ _ _ e2 (Nat.le_refl _) (by omega)]
   show setI _ _ _ _ = _
   rw [hj, vq, e3, e4, zew g _ _ _ _ (by omega)]
  rw [h1, ycd]
  have n1 := nb 1 0 (by omega) (by decide)
  have n2 := nb 1 1 (by omega) (by decide)
  have n3 := nb 0 1 (by omega) (by decide)
  have n4 := nb (-1) 1 (by omega) (by decide)
  rw [Int.add_zero] at n1 n3
  rw [← Int.sub_eq_add_neg] at n4
  rw [n1, n2, n3, n4]
def sqB (g : Gnd) (f : Nat → Bool) (s : Nat) (x y : Int) : Bool := (List.range (2 * s + 1)).all fun a => (List.range (2 * s + 1)).all fun b => decide (onG g (x - s + a) (y - s + b)) && f (tl g (x - s + a) (y - s + b))
theorem ybv {g : Gnd} {f : Nat → Bool} {s : Nat} {x y : Int} : sqB g f s x y = true ↔ sqP g f s x y := by
 unfold sqB
 rw [List.all_eq_true]
 constructor
 ·intro h a b h1 h2 h3 h4
  have h5 := h (a + s).toNat (List.mem_range.2 (by omega))
  rw [List.all_eq_true] at h5
  have h6 := h5 (b + s).toNat (List.mem_range.2 (by omega))
  rw [show x - s + ((a + s).toNat : Int) = x + a by omega, show y - s + ((b + s).toNat : Int) = y + b by omega, Bool.and_eq_true_iff] at h6
  exact ⟨of_decide_eq_true h6.1, h6.2⟩
 ·intro h a ha
  have ha := List.mem_range.1 ha
  rw [List.all_eq_true]
  intro b hb
  have hb := List.mem_range.1 hb
  have := h (a - s) (b - s) (by omega) (by omega) (by omega) (by omega)
  rw [show x - s + (a : Int) = x + (a - s) by omega, show y - s + (b : Int) = y + (b - s) by omega, Bool.and_eq_true_iff]
  exact ⟨decide_eq_true this.1, this.2⟩
/-- Is a tile good for a size? -/
def zcr (g : Gnd) (l : List Bld) (c s : Int) (t : Nat) : Bool := sqB g (ye g l c) s.toNat ((t : Int) % g.W) ((t : Int) / g.W)
theorem zqe {g : Gnd} (hg : gndP g) (l : List Bld) (c : Int) {s : Int} (hs : 0 ≤ s ∧ s ≤ 3) {t : Nat} (ht : t < g.T.length) : decide (s < zdj g (ye g l c) t) = zcr g l c s t := by
 rw [Bool.eq_iff_iff, decide_eq_true_iff]
 unfold zcr
 rw [ybv, ← ycb hg _ ht _ (by omega)]
 omega
def ydp (g : Gnd) (l : List Bld) (c s : Int) : AV := lst 1 kg (blL g.T.length (zcr g l c s))
end Go.V
namespace Go.V
end Go.V
namespace Go.V
/-- The first thing that is not right of several ones. -/
def allE (f : Int → Int) : List Int → Int
 | [] => 0
 | a :: l => if f a = 0 then allE f l else f a
theorem zeb {f : Int → Int} : ∀ {l : List Int}, (∀ j, (h : j < l.length) → f l[j] = 0) → allE f l = 0
 | [], _ => rfl
 | a :: l, h => by
  have h0 := h 0 (by simp)
  simp only [List.getElem_cons_zero] at h0
  unfold allE
  rw [if_pos h0]
  exact zeb fun j hj => by
   have := h (j + 1) (by simp; omega)
   simpa using this
theorem zea {f : Int → Int} : ∀ {l : List Int} {i : Nat} (hi : i < l.length), (∀ j, (h : j < l.length) → j < i → f l[j] = 0) → f l[i] ≠ 0 → allE f l = f l[i]
 | [], i, hi, _, _ => absurd hi (Nat.not_lt_zero i)
 | a :: l, 0, hi, _, h => by
  simp only [List.getElem_cons_zero] at h ⊢
  unfold allE
  rw [if_neg h]
 | a :: l, i + 1, hi, h, h2 => by
  have h0 := h 0 (by simp) (by omega)
  simp only [List.getElem_cons_zero] at h0
  simp only [List.getElem_cons_succ] at h2 ⊢
  unfold allE
  rw [if_pos h0]
  exact zea (by simpa using hi) (fun j hj hji => by
   have := h (j + 1) (by simp; omega) (by omega)
   simpa using this) h2
theorem zbj {f : Int → Int} : ∀ {l : List Int}, allE f l = 0 → ∀ a ∈ l, f a = 0
 | [], _, a, ha => by cases ha
 | b :: l, h, a, ha => by
  unfold allE at h
  by_cases hb : f b = 0
  ·rw [if_pos hb] at h
   rcases List.mem_cons.1 ha with rfl | ha
   ·exact hb
   ·exact zbj h a ha
  ·rw [if_neg hb] at h
   exact absurd h hb
def yr (l : List Unt) (id : Int) : Option Nat := l.findIdx? fun u => decide (u.id = id)
def unt0 : Unt := ⟨0, 0, 0, (0, 0), 0, 0, 0, 0, 0⟩
theorem xp {l : List Unt} {id : Int} {i : Nat} (h : yr l id = some i) : ∃ hi : i < l.length, l[i].id = id := by
 unfold yr at h
 rw [List.findIdx?_eq_some_iff_getElem] at h
 obtain ⟨h1, h2, _⟩ := h
 exact ⟨h1, of_decide_eq_true h2⟩
theorem zfb {l : List Unt} {id : Int} (h : yr l id = none) : ∀ u ∈ l, u.id ≠ id := by
 unfold yr at h
 rw [List.findIdx?_eq_none_iff] at h
 exact fun u hu => of_decide_eq_false (h u hu)
theorem zgh {l : List Unt} (hr : z7 l) {id : Int} {i : Nat} (hi : i < l.length) (e : l[i].id = id) : yr l id = some i := by
 cases h : yr l id with
 | none => exact absurd e (zfb h _ (List.getElem_mem hi))
 | some k =>
  obtain ⟨hk, e2⟩ := xp h
  by_cases h1 : k < i
  ·have := jf hr h1 hi; omega
  ·by_cases h2 : i < k
   ·have := jf hr h2 hk; omega
   ·rw [show k = i by omega]
/-- The unit of an ID. -/
def uAt (w : Wld) (id : Int) : Unt := match yr w.U id with | none => unt0 | some i => w.U.getD i unt0
/-- What a player is told who asks for a unit. -/
def askE (w : Wld) (P id : Int) : Int := match yr w.U id with | none => 3 | some i => if (w.U.getD i unt0).owner = P then (if (w.U.getD i unt0).inn = 0 then 0 else 9) else 6
theorem zfs {w : Wld} {id : Int} {i : Nat} (h : yr w.U id = some i) : ∃ hi : i < w.U.length, w.U[i].id = id ∧ uAt w id = w.U[i] := by
 obtain ⟨hi, e⟩ := xp h
 refine ⟨hi, e, ?_⟩
 unfold uAt
 rw [h]
 simp [List.getD_eq_getElem?_getD, hi]
theorem zd8 {w : Wld} {P id : Int} (h : yr w.U id = none) : askE w P id = 3 ∧ uAt w id = unt0 := by
 unfold askE uAt
 rw [h]
 exact ⟨rfl, rfl⟩
theorem zi2 {w : Wld} {P id : Int} {i : Nat} (h : yr w.U id = some i) (hi : i < w.U.length) : askE w P id = if w.U[i].owner = P then (if w.U[i].inn = 0 then 0 else 9) else 6 := by
 unfold askE
 rw [h]
 simp [List.getD_eq_getElem?_getD, hi]
theorem wg {w : Wld} {P id : Int} (h : askE w P id = 0) : ∃ i, ∃ hi : i < w.U.length, yr w.U id = some i ∧ w.U[i].id = id ∧ uAt w id = w.U[i] ∧ w.U[i].owner = P ∧ w.U[i].inn = 0 := by
 cases hf : yr w.U id with
 | none => rw [(zd8 (P := P) hf).1] at h; cases h
 | some i =>
  obtain ⟨hi, e, e2⟩ := zfs hf
  rw [zi2 hf hi] at h
  refine ⟨i, hi, rfl, e, e2, ?_⟩
  split at h
  ·split at h
   ·exact ⟨‹_›, ‹_›⟩
   ·cases h
  ·cases h
theorem zy0 {w : Wld} (hn : ∀ u ∈ w.U, u.pos.ok) (id : Int) : (uAt w id).pos.ok := by
 cases hf : yr w.U id with
 | none => rw [(zd8 (P := 0) hf).2]; unfold unt0 Vc.ok yd; decide
 | some i =>
  obtain ⟨hi, e, e2⟩ := zfs hf
  rw [e2]
  exact hn _ (List.getElem_mem hi)
def rstU (u : Unt) : Unt := { u with goal := -1, next := -1, stuck := 0, state := 0 }
/-- Some units are changed. -/
def setU (l : List Int) (g : Unt → Unt) (U : List Unt) : List Unt := U.map fun u => if u.id ∈ l then g u else u
theorem zcu (g : Unt → Unt) (U : List Unt) : setU [] g U = U := by
 unfold setU
 simp
theorem qt (l : List Int) (g : Unt → Unt) (U : List Unt) : (setU l g U).length = U.length := by unfold setU; rw [List.length_map]
theorem zfy {l : List Int} {g : Unt → Unt} {U : List Unt} {i : Nat} (hi : i < U.length) : (setU l g U)[i]'(by rw [qt]; exact hi) = if U[i].id ∈ l then g U[i] else U[i] := by unfold setU; rw [List.getElem_map]
theorem zfx {l : List Int} {g : Unt → Unt} (hg : ∀ u, (g u).id = u.id) {U : List Unt} {i : Nat} (hi : i < U.length) : ((setU l g U)[i]'(by rw [qt]; exact hi)).id = U[i].id := by
 rw [zfy hi]
 split
 ·exact hg _
 ·rfl
theorem ze0 {l : List Int} {g : Unt → Unt} (hg : ∀ u, (g u).id = u.id) {U : List Unt} (hr : z7 U) : z7 (setU l g U) := by
 intro i hi h0
 have hi2 : i < U.length := by rw [qt] at hi; exact hi
 rw [zfx hg hi2, zfx hg (show i - 1 < U.length by omega)]
 exact hr i hi2 h0
theorem zk3 {l : List Int} {g : Unt → Unt} {U : List Unt} (hr : z7 U) {i : Nat} (hi : i < U.length) : (setU l g U).set i (g U[i]) = setU (l ++ [U[i].id]) g U := by
 apply List.ext_getElem
 ·rw [List.length_set, qt, qt]
 intro j h1 h2
 have hj : j < U.length := by rw [qt] at h2; exact h2
 rw [zfy hj, List.getElem_set]
 by_cases e : i = j
 ·subst e
  rw [if_pos rfl, if_pos (by simp)]
 ·rw [if_neg e, zfy hj]
  have hne : U[j].id ≠ U[i].id := by
   by_cases h : i < j
   ·have := jf hr h hj; omega
   ·have := jf hr (show j < i by omega) hi; omega
  have : (U[j].id ∈ l ++ [U[i].id]) ↔ U[j].id ∈ l := by simp [hne]
  simp only [this]
/-- Units that are stopped. -/
def stW (w : Wld) (c : Cmd) : Wld := { w with U := setU c.U rstU w.U }
def stE (w : Wld) (c : Cmd) : Int := allE (askE w c.P) c.U
theorem zxo {α : Type} {f : α → List AV} {k : Nat} (hf : ∀ x, (f x).length = k) {U : List α} {i : Nat} (hi : i < U.length) (x : α) (J : List AV) : zn ((rws f U).flatten ++ J) (i * k) (f x) = (rws f (U.set i x)).flatten ++ J := by
 have := zjk (j := 0) (ys := f x) (L := J) (x' := x) hf hi (by rw [hf]; omega) (by
  unfold zn
  rw [hf x, List.take_zero, List.nil_append, Nat.zero_add, List.drop_of_length_le (by rw [hf]; exact Nat.le_refl _), List.append_nil])
 rw [Nat.add_zero] at this
 exact this
end Go.V
namespace Go.V
section
variable {P : Program} {c : Cfg} {st : Store}
/-- What an append's source reads as. -/
structure SrcOK (P : Program) (st : Store) (k m : Nat) (x : AV) (xs : List AV) : Prop where
  out : ∀ (Oth M : Nat → Nat → Prop) (w : World) (xv : Value), StoreOK st Oth M w → VRel w (fun b o => M b o ∨ Oth b o) x xv →
    (Builtin.lenOf xv).run P w = .ok m w ∧ ∃ new : Array Value, Reads w (fun b o => M b o ∨ Oth b o) xs new.toList ∧ (∀ v ∈ new.toList, z6 v = true) ∧ new.size = m * k ∧ ∀ w', w'.heap = w.heap → (Builtin.firstCells k m xv).run P w' = .ok new w'
/-- A slice over an object, anywhere in it. -/
theorem SrcOK.obj {k m o b cp : Nat} {l : List AV} (ho : st.obj b = some (.cells l)) (hl : o + m * k ≤ l.length) (h1 : ∀ y ∈ (l.drop o).take (m * k), y.one = true) : SrcOK P st k m (.s (.slice (some ⟨b, o, none⟩) m cp)) ((l.drop o).take (m * k)) := by
  refine ⟨fun Oth M w xv sto hxv => ?_⟩
  have hxv := VRel.eq_s hxv
  subst hxv
  obtain ⟨cs, e, fr, hb, _, hlen, hrel⟩ := (sto.obj b _ ho).1
  have hreads : Reads w (fun b o => M b o ∨ Oth b o) ((l.drop o).take (m * k)) ((List.range' 0 (m * k)).map fun i => cs.getD (o + i) undef) := by
    refine ⟨by simp; omega, fun i x y hx hy => ?_⟩
    have hi : i < m * k := by
      have := (List.getElem?_eq_some_iff.1 hx).1
      simp at this; omega
    rw [List.getElem?_take_of_lt hi, List.getElem?_drop] at hx
    simp [hi] at hy
    subst hy
    refine hrel (o + i) x _ hx ?_
    rw [Array.getElem?_eq_getElem (by omega)]
    simp [show o + i < cs.size by omega]
  refine ⟨by simp [Builtin.lenOf], ((List.range' 0 (m * k)).map fun i => cs.getD (o + i) undef).toArray, by simpa using hreads, by simpa using zmy hreads h1, by simp, fun w' hw => ?_⟩
  have := yz (P := P) ⟨b, o, none⟩ w' (fun i => cs.getD (o + i) undef) (m * k) 0 #[] (fun p hp0 hp => by
    rw [xj, zdv hw]
    simp only [World.cell?, hb]
    have : o + p < cs.size := by omega
    simp [this])
  simp only [Builtin.firstCells, loadCells]
  simpa using this
/-- An append to a slice over an object, of what a source reads as. -/
theorem zi3 {e : TypeId} {ie : TI} (hie : c.I e = some ie) {b n cap : Nat} {l : List AV} {x : AV} {m : Nat} {xs : List AV} (ho : st.obj b = some (.cells l)) (hcap : cap * ie.size ≤ l.length) (hn : n ≤ cap)
    (hx : SrcOK P st ie.size m x xs) (hroom : room (n + m) ie.bytes) {K : AV → Store → Prop}
    (h1 : n + m ≤ cap → K (.s (.slice (some ⟨b, 0, none⟩) (n + m) cap)) (st.setObj b (.cells (zn l (n * ie.size) xs))))
    (h2 : cap < n + m → ∀ b' cap', Fresh st b' → n + m ≤ cap' → cap' ≤ 9223372036854775807 → K (.s (.slice (some ⟨b', 0, none⟩) (n + m) cap')) (st.setObj b' (.cells (l.take (n * ie.size) ++ xs ++ List.replicate ((cap' - (n + m)) * ie.size) .any)))) :
    AppX P c st e (.s (.slice (some ⟨b, 0, none⟩) n cap)) x K := by
  refine ⟨⟨ie, hie⟩, fun ie' hie' Oth M w sv xv argTypes ty args t sto hs hxv hat ht1 hu hti h0 h1' => ?_⟩
  rw [hie] at hie'
  cases hie'
  have hs := VRel.eq_s hs
  subst hs
  have A : AppArgs P c argTypes args t e ie (some ⟨b, 0, none⟩) n cap xv := ⟨hat, ht1, hu, hti, h0, h1'⟩
  obtain ⟨hl1, new, hnew, hone, hnsz, hfc⟩ := hx.out Oth M w xv sto hxv
  have hnn : n * ie.size ≤ l.length := Nat.le_trans (Nat.mul_le_mul_right _ hn) hcap
  by_cases hc : n + m ≤ cap
  · obtain ⟨⟨cs, e0, fr, hb0, huf, hlen, hrel⟩, hM⟩ := sto.obj b _ ho
    have hfit : n * ie.size + new.toList.length ≤ cs.size := by
      rw [Array.length_toList, hnsz, ← Nat.add_mul, ← hlen]
      exact Nat.le_trans (Nat.mul_le_mul_right _ hc) hcap
    obtain ⟨w', hw1, hw2⟩ := y7 (P := P) w b (n * ie.size) new.toList 0 w cs e0 fr hb0 (.inl huf) hfit hone
    have hrun := jv (w' := w') ty A hl1 (hfc w rfl) hc (fun a ha => by
      cases ha
      rw [xj, Nat.zero_add]; exact hw1) (fun h => by cases h)
    obtain ⟨k1, k2⟩ := xr sto ho hnew hw2
    exact ⟨_, _, hrun, _, _, M, h1 hc, .s _, k1, k2⟩
  · have hc : cap < n + m := by omega
    obtain ⟨old, hold1, hold2, hold3⟩ := zah (P := P) (cap := cap) (sto.obj b _ ho).1 hnn
    obtain ⟨newCap, rest, g1, g0, g2, g3⟩ := xq ty A hl1 (hfc w.drew rfl) (hold3 w.drew rfl) hc hroom
    have gd : Grow w w.drew := Grow.drew w
    have sto1 := sto.grow gd
    obtain ⟨f1, f2, f3⟩ := qd sto1 (old ++ new ++ rest) e (l := l.take (n * ie.size) ++ xs ++ List.replicate rest.size .any) (by
      rw [Array.toList_append, Array.toList_append]
      refine ((hold1.append hnew).append ⟨by simp, fun i x y hx hy => ?_⟩).keep (gd.keeps _)
      rw [List.getElem?_replicate] at hx
      split at hx
      · cases hx; exact .any _
      · cases hx)
    have e1 : w.drew.heap.size = w.heap.size := rfl
    rw [g2] at f2
    exact ⟨_, _, g3, _, _, _, h2 hc _ newCap f1 g1 g0, .s _, f2, (gd.chg M).trans f3⟩
end
section
variable {P : Program} {c : Cfg} {st : Store}
/-- 'clear' of one element. -/
theorem zec {o : Oper} {cl : Call} {t e : TypeId} {x : Operand} (ho : o.op = .call cl) (hcl : cl.callee = .builtin .clear) (hargs : cl.args = #[x]) (hat : cl.argTypes[0]? = some t)
    {it ie : TI} (hit : c.I t = some it) (hty : it.ty = .slice e) (hie : c.I e = some ie) {b off m cap : Nat} {l : List AV} (hm : m = 1) (hb : st.obj b = some (.cells l)) (hn : off + ie.size ≤ l.length) (hone : ∀ v ∈ ie.zero, z6 v = true)
    {R : AV → Store → Prop} (h : R (.tup []) (st.setObj b (.cells (zn l off (ie.zero.map AV.s))))) : AEff P c o [.s (.slice (some ⟨b, off, none⟩) m cap)] st R := by
  subst hm
  refine ⟨fun Oth M w ρ hI sto hr => ?_⟩
  have hops : o.op.operands = #[x] := by rw [ho]; simp [Op.operands, Call.operands, hcl, hargs]
  rw [hops] at hr
  have hr : Reads w (fun b o => M b o ∨ Oth b o) [.s (.slice (some ⟨b, off, none⟩) 1 cap)] [ρ x] := by simpa using hr
  obtain ⟨u, he, h1⟩ := zhr hr
  simp only [List.cons.injEq, and_true] at he
  rw [← he] at h1
  have h1 := VRel.eq_s h1
  have ht := zz (hI _ _ hit) hty
  have hie := hI _ _ hie
  obtain ⟨⟨cs, e0, fr, hb0, huf, hlen, hrel⟩, hM⟩ := sto.obj b _ hb
  obtain ⟨z, hz1, hz2⟩ := wk (P := P) hie w
  have hzs : z.cells.size = ie.size := by rw [← hie.zsz, ← hz2]; simp
  have hzc : (Builtin.zeroCells z.cells 1).toList = ie.zero := by
    rw [← hz2]
    unfold Builtin.zeroCells
    apply List.ext_getElem
    · simp
    · intro i h1 h2
      simp at h1 h2 ⊢
      rw [Nat.mod_eq_of_lt h1, getElem!_pos z.cells i h1]
  obtain ⟨w', hw1, hw2⟩ := y7 (P := P) w b off ie.zero 0 w cs e0 fr hb0 (.inl huf) (by rw [hie.zsz, ← hlen]; omega) hone
  have hund := zl (P := P) ht
  have hrun : (execOp ρ o).run P w = .ok (.value (.tuple #[])) w' := by
    simp [execOp, ho, resolve, hcl, invoke, builtin, hargs, Builtin.clear_, hat, hund, h1, hz1, hzc, hw1]
  rw [hrun]
  obtain ⟨k1, k2⟩ := xr sto hb (Reads.map_s (w := w) (T := fun b o => M b o ∨ Oth b o) ie.zero) (by rw [Nat.add_zero] at hw2; exact hw2)
  exact ⟨_, _, M, h, yc Reads.nil, k1, k2⟩
/-- A slice with three bounds. -/
theorem zkt {o : Oper} {t e : TypeId} {x lo hi mx : Operand} (ho : o.op = .slice t x (some lo) (some hi) (some mx)) {it ie : TI} (hit : c.I t = some it) (hty : it.ty = .slice e) (hie : c.I e = some ie)
    {b off len cap i j m : Nat} {k k' k'' : IntKind} (h1 : i ≤ j) (h2 : j ≤ m) (h3 : m ≤ cap) (h4 : i < m) {R : AV → Store → Prop} (h : R (.s (.slice (some ⟨b, off + i * ie.size, none⟩) (j - i) (m - i))) st) :
    AEff P c o [.s (.slice (some ⟨b, off, none⟩) len cap), .s (.int k (i : Int)), .s (.int k' (j : Int)), .s (.int k'' (m : Int))] st R := by
  refine ⟨fun Oth M w ρ hI sto hr => ?_⟩
  have hops : o.op.operands = #[x, lo, hi, mx] := by rw [ho]; simp [Op.operands]
  rw [hops] at hr
  have hr : Reads w (fun b o => M b o ∨ Oth b o) [.s (.slice (some ⟨b, off, none⟩) len cap), .s (.int k (i : Int)), .s (.int k' (j : Int)), .s (.int k'' (m : Int))] [ρ x, ρ lo, ρ hi, ρ mx] := by simpa using hr
  have e1 := VRel.eq_s (hr.2 0 _ (ρ x) rfl rfl)
  have e2 := VRel.eq_s (hr.2 1 _ (ρ lo) rfl rfl)
  have e3 := VRel.eq_s (hr.2 2 _ (ρ hi) rfl rfl)
  have e4 := VRel.eq_s (hr.2 3 _ (ρ mx) rfl rfl)
  have ht := zz (hI _ _ hit) hty
  have hie := hI _ _ hie
  have hm : ¬ m = i := by omega
  have hund := zl (P := P) ht
  have hrun : (execOp ρ o).run P w = .ok (.value (.slice (some ⟨b, off + i * ie.size, none⟩) (j - i) (m - i))) w := by
    simp [execOp, ho, e1, e2, e3, e4, Instr.sliceAt, Instr.slice, hund, Instr.sliceBounds, Instr.sliceBound, asIntOf, h1, h2, h3, zt hie, hm, xj]
  rw [hrun]
  exact ⟨_, st, M, h, .s _, sto, Chg.refl _ _⟩
end
end Go.V
namespace Go.V
section
variable {α : Type} {f : α → List AV} {k : Nat}
end
theorem yco {g : Gnd} (hg : gndP g) {t : Nat} (ht : (t : Int) < g.W * g.H) {p : Vc} (hp : yg p.1 p.2) {r : Int} (hr : 0 < r ∧ r ≤ 81920) (h : hitP g t p r) : near (tx g t + 32768, ty g t + 32768) p 147456 = true := by
 have hb := txty hg ht
 obtain ⟨h3, h4⟩ := hp
 rw [ze4 (by dsimp only; omega) (by dsimp only; omega) (by omega) (by omega) (by decide)]
 dsimp only
 unfold hitP at h
 have o1 : 0 ≤ off p.1 (tx g t) := by unfold off; split <;> (try split) <;> omega
 have o2 : 0 ≤ off p.2 (ty g t) := by unfold off; split <;> (try split) <;> omega
 have d1 : -(32768 + off p.1 (tx g t)) ≤ tx g t + 32768 - p.1 ∧ tx g t + 32768 - p.1 ≤ 32768 + off p.1 (tx g t) := by unfold off; split <;> (try split) <;> omega
 have d2 : -(32768 + off p.2 (ty g t)) ≤ ty g t + 32768 - p.2 ∧ ty g t + 32768 - p.2 ≤ 32768 + off p.2 (ty g t) := by unfold off; split <;> (try split) <;> omega
 generalize off p.1 (tx g t) = ex at *
 generalize off p.2 (ty g t) = ey at *
 generalize tx g t + 32768 - p.1 = dx at *
 generalize ty g t + 32768 - p.2 = dy at *
 have hrr : r * r ≤ 81920 * 81920 := Int.mul_le_mul hr.2 hr.2 (by omega) (by decide)
 have ex2 := Int.mul_nonneg o1 o1
 have ey2 := Int.mul_nonneg o2 o2
 have bx : ex < 81920 := zl4 o1 (by decide) (by omega)
 have by' : ey < 81920 := zl4 o2 (by decide) (by omega)
 have sq : ∀ d m : Int, 0 ≤ m → -m ≤ d → d ≤ m → d * d ≤ m * m := fun d m hm h1 h2 => by
  by_cases hd : 0 ≤ d
  ·exact Int.mul_le_mul h2 h2 hd hm
  ·have : (-d) * (-d) ≤ m * m := Int.mul_le_mul (by omega) (by omega) (by omega) hm
   rwa [Int.neg_mul_neg] at this
 have s1 := sq dx (32768 + ex) (by omega) d1.1 d1.2
 have s2 := sq dy (32768 + ey) (by omega) d2.1 d2.2
 have e1 : (32768 + ex) * (32768 + ex) = 1073741824 + 65536 * ex + ex * ex := by
  rw [Int.add_mul, Int.mul_add, Int.mul_add, Int.mul_comm ex 32768]; omega
 have e2 : (32768 + ey) * (32768 + ey) = 1073741824 + 65536 * ey + ey * ey := by
  rw [Int.add_mul, Int.mul_add, Int.mul_add, Int.mul_comm ey 32768]; omega
 rw [e1] at s1
 rw [e2] at s2
 refine decide_eq_true ?_
 omega
instance (a b : Bld) : Decidable (jp a b) := inferInstanceAs (Decidable (_ ∧ _))
/-- The building that is to come. -/
def bdB (w : Wld) (c : Cmd) : Bld := ⟨w.next, c.P, c.T.tmod w.G.W, c.T.tdiv w.G.W, c.W, c.H⟩
open Classical in
noncomputable def putE (g : Gnd) (l : List Bld) (b : Bld) : Int := if ¬ onP g b then 3 else if ∃ x ∈ l, jp x b then 12 else if ¬ zbu g b then 5 else if 256 ≤ l.length then 4 else 0
def za9 (w : Wld) (b : Bld) : Prop := ∃ t : Nat, ((t : Int) < w.G.W * w.G.H ∧ hasP w.G b t) ∧ ∃ u ∈ w.U, u.inn = 0 ∧ hitP w.G t u.pos (kRad u.kind)
open Classical in
noncomputable def bdE (w : Wld) (c : Cmd) : Int := if ¬ (0 ≤ c.T ∧ c.T < w.G.W * w.G.H) then 3 else if 1099511627776 ≤ w.next then 4 else if putE w.G w.B (bdB w c) = 0 then (if za9 w (bdB w c) then 5 else 0) else putE w.G w.B (bdB w c)
def bdW (w : Wld) (c : Cmd) : Wld := { w with B := w.B ++ [bdB w c], next := w.next + 1 }
def bld0 : Bld := ⟨0, 0, 0, 0, 0, 0⟩
def zem (l : List Bld) (id : Int) : Option Nat := l.findIdx? fun b => decide (b.id = id)
/-- A building less. -/
def drE (w : Wld) (c : Cmd) : Int := match zem w.B c.N with | none => 3 | some i => if (w.B.getD i bld0).owner = c.P then 0 else 6
def drW (w : Wld) (c : Cmd) : Wld := match zem w.B c.N with | none => w | some i => { w with B := w.B.eraseIdx i }
end Go.V
namespace Go.V
/-- What an element less makes of rows. -/
theorem zcg {α : Type} {f : α → List AV} {k : Nat} (hf : ∀ x, (f x).length = k) {l : List α} {i : Nat} (hi : i < l.length) (L : List AV) :
  zn ((rws f l).flatten ++ L) (i * k) (rws f (l.drop (i + 1))).flatten = (rws f (l.eraseIdx i)).flatten ++ (f l[l.length - 1] ++ L) := by
 have e1 : (rws f l).flatten ++ L = (rws f (l.take i)).flatten ++ ((rws f (l.drop i)).flatten ++ L) := by
  rw [← List.append_assoc, ← q9, List.take_append_drop]
 have h1 : (rws f (l.take i)).flatten.length = i * k := by rw [zu hf, List.length_take, Nat.min_eq_left (by omega)]
 rw [e1, qq h1, List.eraseIdx_eq_take_drop_succ, q9]
 simp only [List.append_assoc]
 congr 1
 congr 1
 have h2 : (rws f (l.drop (i + 1))).flatten.length = (l.length - (i + 1)) * k := by rw [zu hf, List.length_drop]
 have e2 : l.drop i = (l.drop i).dropLast ++ [l[l.length - 1]] := by
  have hne : l.drop i ≠ [] := by
   intro h
   have := congrArg List.length h
   rw [List.length_drop] at this
   simp at this; omega
  have h := (List.dropLast_concat_getLast hne).symm
  have e : (l.drop i).getLast hne = l[l.length - 1] := by
   have e4 : i + ((l.drop i).length - 1) = l.length - 1 := by rw [List.length_drop]; omega
   rw [List.getLast_eq_getElem, List.getElem_drop]
   simp only [e4]
  rw [e] at h
  exact h
 have e3 : (rws f (l.drop i)).flatten = (rws f (l.drop i).dropLast).flatten ++ f l[l.length - 1] := by
  conv => lhs; rw [e2]
  rw [q9]
  show _ ++ (f _ ++ []) = _
  rw [List.append_nil]
 have h3 : (rws f (l.drop i).dropLast).flatten.length = (l.length - (i + 1)) * k := by
  rw [zu hf, List.length_dropLast, List.length_drop]
  congr 1
 rw [e3, h2, ← h3, List.append_assoc, List.drop_left]
theorem zim {α : Type} {l : List α} {i : Nat} (hi : i < l.length) : (l.eraseIdx i).length = l.length - 1 := by rw [List.length_eraseIdx, if_pos hi]
theorem zfd {α : Type} {f : α → List AV} {k : Nat} (hf : ∀ x, (f x).length = k) {l : List α} {i : Nat} (hi : i ≤ l.length) (L : List AV) : (((rws f l).flatten ++ L).drop (i * k)).take ((l.length - i) * k) = (rws f (l.drop i)).flatten := by
 have e1 : (rws f l).flatten ++ L = (rws f (l.take i)).flatten ++ ((rws f (l.drop i)).flatten ++ L) := by
  rw [← List.append_assoc, ← q9, List.take_append_drop]
 have h1 : (rws f (l.take i)).flatten.length = i * k := by rw [zu hf, List.length_take, Nat.min_eq_left (by omega)]
 have h2 : (rws f (l.drop i)).flatten.length = (l.length - i) * k := by rw [zu hf, List.length_drop]
 rw [e1, ← h1, List.drop_left, ← h2, List.take_left]
end Go.V
namespace Go.V
/-- A whole root, cut at the greatest number. -/
def zh4 (m r : Int) : Prop := 0 ≤ r ∧ r ≤ 9223372036854775807 ∧ r * r ≤ m ∧ (r = 9223372036854775807 ∨ m < (r + 1) * (r + 1))
theorem zp3 {m r : Int} (h : zh4 m r) {k : Int} (hk : 0 ≤ k) (hk2 : k < 9223372036854775807) : k < r ↔ (k + 1) * (k + 1) ≤ m := by
 obtain ⟨h0, h1, h2, h3⟩ := h
 constructor
 ·intro hkr
  exact Int.le_trans (Int.mul_le_mul (show k + 1 ≤ r by omega) (show k + 1 ≤ r by omega) (by omega) h0) h2
 ·intro hm
  refine Int.not_le.1 fun hle => ?_
  rcases h3 with h3 | h3
  ·omega
  ·have := Int.mul_le_mul (show r + 1 ≤ k + 1 by omega) (show r + 1 ≤ k + 1 by omega) (by omega) (by omega)
   omega
/-- Farther than 2? -/
def farP (p q : Vc) : Prop := 17180131329 ≤ sqr (vsub p q)
instance (p q : Vc) : Decidable (farP p q) := inferInstanceAs (Decidable (_ ≤ _))
theorem zxp {p q : Vc} {r : Int} (h : zh4 (sqr (vsub p q)) r) : 131072 < r ↔ farP p q := by
 have := zp3 h (k := 131072) (by decide) (by decide)
 unfold farP
 exact this
/-- Loading. -/
def carE (w : Wld) (P N : Int) : Int := if askE w P N = 0 then (if jx (uAt w N).kind = 0 then 7 else 0) else askE w P N
def zpm (x u : Unt) : Int := if 0 < jx u.kind then 7 else if farP u.pos x.pos then 8 else 0
def ldA (w : Wld) (P N id : Int) : Int := if askE w P id = 0 then zpm (uAt w N) (uAt w id) else askE w P id
def ldE (w : Wld) (c : Cmd) : Int := if carE w c.P c.N = 0 then (if allE (ldA w c.P c.N) c.U = 0 then (if jx (uAt w c.N).kind < ((inOf w.U c.N).length : Int) + (c.U.length : Int) then 4 else 0) else allE (ldA w c.P c.N) c.U) else carE w c.P c.N
def ldU (n : Int) (u : Unt) : Unt := { u with pos := (0, 0), goal := -1, next := -1, stuck := 0, inn := n, state := 0 }
def ldW (w : Wld) (c : Cmd) : Wld := { w with U := setU c.U (ldU c.N) w.U }
theorem zx3 {w : Wld} {P N id : Int} (h : ldA w P N id = 0) : askE w P id = 0 ∧ zpm (uAt w N) (uAt w id) = 0 := by
 unfold ldA at h
 by_cases e : askE w P id = 0
 ·rw [if_pos e] at h; exact ⟨e, h⟩
 ·rw [if_neg e] at h; exact absurd h e
theorem zix {w : Wld} {P N : Int} (h : carE w P N = 0) : askE w P N = 0 ∧ jx (uAt w N).kind ≠ 0 := by
 unfold carE at h
 by_cases e : askE w P N = 0
 ·rw [if_pos e] at h
  refine ⟨e, fun e2 => ?_⟩
  rw [if_pos e2] at h
  cases h
 ·rw [if_neg e] at h; exact absurd h e
theorem zp6 {w : Wld} (hm : mayP w) {i : Nat} (hi : i < w.U.length) (h0 : w.U[i].id ≠ 0) : ((inOf w.U w.U[i].id).length : Int) ≤ jx w.U[i].kind := by
 have hr : z7 w.U := hm.1.2.1
 cases hl : inOf w.U w.U[i].id with
 | nil => have := (zdt w.U[i].kind).1; simpa using this
 | cons a l =>
  have ha : a ∈ inOf w.U w.U[i].id := by rw [hl]; simp
  unfold inOf at ha
  obtain ⟨u, hu, _⟩ := List.mem_map.1 ha
  obtain ⟨hu, he⟩ := List.mem_filter.1 hu
  have he : u.inn = w.U[i].id := by simpa using he
  obtain ⟨x, hx, e1, _, e3, _⟩ := hm.2.2 u hu (by rw [he]; exact h0)
  obtain ⟨k, hk, rfl⟩ := List.getElem_of_mem hx
  have hki : k = i := by
   by_cases h1 : k < i
   ·have := jf hr h1 hi; omega
   ·by_cases h2 : i < k
    ·have := jf hr h2 hk; omega
    ·omega
  subst hki
  rw [he, hl] at e3
  exact e3
/-- One bit below a number's bits. -/
theorem ycf {n : Int} {q m : Nat} (h0 : 0 ≤ n) (h1 : n < 2 ^ m) (h2 : n + q * 2 ^ m < 18446744073709551616) : xz .or .u64 (q * 2 ^ m) n = q * 2 ^ m + n := by
 obtain ⟨a, rfl⟩ := Int.eq_ofNat_of_zero_le h0
 have e : ((q : Int) * 2 ^ m) = ((q * 2 ^ m : Nat) : Int) := by simp
 have h1' : a < 2 ^ m := by exact_mod_cast h1
 rw [e] at h2 ⊢
 have h3 : a + q * 2 ^ m < 18446744073709551616 := by omega
 rw [(zd6 (q * 2 ^ m) a (by omega) (by omega)).2, Nat.or_comm, zy5 a q m h1', x7 (by omega) (by omega)]
 simp
 omega
theorem shl1 {k : Nat} (hk : k ≤ 62) : IntKind.u64.wrap (1 * 2 ^ (min ((k : Int)).toNat IntKind.u64.bits)) = 2 ^ k := by
 have : (min ((k : Int)).toNat IntKind.u64.bits) = k := by
  show min ((k : Int)).toNat 64 = k
  omega
 rw [this, Int.one_mul]
 have h : (2 : Int) ^ k ≤ 2 ^ 62 := by exact_mod_cast Nat.pow_le_pow_right (by decide) hk
 have h0 : (0 : Int) < 2 ^ k := Int.pow_pos (by decide)
 have h2 : (2 : Int) ^ 62 = 4611686018427387904 := by decide
 exact x7 (by omega) (by omega)
/-- The road to a root: bits from k on are reckoned. -/
def zb6 (m r : Int) (k : Nat) : Prop := ∃ q : Nat, r = q * 2 ^ k ∧ r + 2 ^ k ≤ 9223372036854775808 ∧ r * r ≤ m ∧ (m < (r + 2 ^ k) * (r + 2 ^ k) ∨ r + 2 ^ k = 9223372036854775808)
theorem zhm {m : Int} (hm : 0 ≤ m) : zb6 m 0 63 := ⟨0, by simp, by decide, by simpa using hm, .inr (by decide)⟩
theorem zmg {m r : Int} (h : zb6 m r 0) : zh4 m r := by
 obtain ⟨q, e, h1, h2, h3⟩ := h
 have e1 : (2 : Int) ^ 0 = 1 := rfl
 rw [e1] at h1 h3 e
 exact ⟨by omega, by omega, h2, h3.symm.imp (fun h => by omega) id⟩
theorem zmh {m r : Int} {k : Nat} (h : zb6 m r (k + 1)) : xz .or .u64 r (2 ^ k) = r + 2 ^ k ∧ 0 ≤ r ∧ (0 : Int) < 2 ^ k ∧ r + 2 ^ k < 9223372036854775808 := by
 obtain ⟨q, e, h1, h2, h3⟩ := h
 have h0 : (0 : Int) < 2 ^ k := Int.pow_pos (by decide)
 have e2 : (2 : Int) ^ (k + 1) = 2 * 2 ^ k := by rw [Int.pow_succ, Int.mul_comm]
 have hr : 0 ≤ r := by rw [e]; exact Int.mul_nonneg (by omega) (by omega)
 rw [e2] at h1
 refine ⟨?_, hr, h0, by omega⟩
 rw [e]
 refine ycf (by omega) (by rw [e2]; omega) ?_
 rw [← e]; omega
theorem zot {m r : Int} {k : Nat} (h : zb6 m r (k + 1)) (hn : m < (r + 2 ^ k) * (r + 2 ^ k)) : zb6 m r k := by
 obtain ⟨q, e, h1, h2, h3⟩ := h
 have e2 : (2 : Int) ^ (k + 1) = 2 * 2 ^ k := by rw [Int.pow_succ, Int.mul_comm]
 have h0 : (0 : Int) < 2 ^ k := Int.pow_pos (by decide)
 rw [e2] at h1
 refine ⟨2 * q, ?_, by omega, h2, .inl hn⟩
 rw [e, e2]
 push_cast
 rw [← Int.mul_assoc, Int.mul_comm (q : Int) 2]
theorem zmf {m r : Int} {k : Nat} (h : zb6 m r (k + 1)) (hn : (r + 2 ^ k) * (r + 2 ^ k) ≤ m) : zb6 m (r + 2 ^ k) k := by
 obtain ⟨q, e, h1, h2, h3⟩ := h
 have e2 : (2 : Int) ^ (k + 1) = 2 * 2 ^ k := by rw [Int.pow_succ, Int.mul_comm]
 have h0 : (0 : Int) < 2 ^ k := Int.pow_pos (by decide)
 rw [e2] at h1 h3
 have e3 : r + 2 ^ k + 2 ^ k = r + 2 * 2 ^ k := by omega
 refine ⟨2 * q + 1, ?_, by omega, hn, by rw [e3]; exact h3⟩
 rw [e, e2]
 push_cast
 rw [Int.add_mul, Int.one_mul, ← Int.mul_assoc, Int.mul_comm (q : Int) 2]
end Go.V
namespace Go.V
def cenV (g : Gnd) (t : Nat) : Vc := (tx g t + 32768, ty g t + 32768)
theorem zd3 {g : Gnd} (hg : gndP g) {t : Nat} (ht : t < g.T.length) : (cenV g t).ok := by
 have ha := zq hg
 have := txty hg (t := t) (by omega)
 unfold cenV Vc.ok yd
 dsimp only
 omega
/-- Good places for a kind about a tile. -/
def yh (w : Wld) (k tile : Int) (n : Nat) : List Nat := zez w.G (zcr w.G w.B (kCls k) (vi k)) (vi k) tile n
theorem zey (g : Gnd) (f : Nat → Bool) (x y k : Int) : ∀ d t, t ∈ yy g f x y k d → t < g.T.length ∧ f t = true
 | 0, t, h => by cases h
 | d + 1, t, h => by
  rcases List.mem_append.1 (show t ∈ yy g f x y k d ++ za4 g f x y k d from h) with h | h
  ·exact zey g f x y k d t h
  ·unfold za4 zeh at h
   obtain ⟨h1, h2⟩ := List.mem_filter.1 h
   exact ⟨List.mem_range.1 (List.mem_filter.1 h1).1, h2⟩
theorem zhe {w : Wld} {k tile : Int} {n t : Nat} (h : t ∈ yh w k tile n) : t < w.G.T.length ∧ zcr w.G w.B (kCls k) (vi k) t = true := zey _ _ _ _ _ _ _ (List.mem_of_mem_take h)
theorem zl8 (w : Wld) (k tile : Int) (n : Nat) : (yh w k tile n).length ≤ n := by
 unfold yh zez
 rw [List.length_take]
 exact Nat.min_le_left _ _
open Classical in
/-- Where a unit comes out. -/
noncomputable def outF (w : Wld) (u : Unt) (tile : Int) : Option Nat := (yh w u.kind tile 64).find? fun t => decide (yk w u.id u.kind (cenV w.G t))
open Classical in
theorem zo9 {w : Wld} {u : Unt} {tile : Int} {j : Nat} (hj : j < (yh w u.kind tile 64).length) (hno : ∀ i, (h : i < (yh w u.kind tile 64).length) → i < j → ¬ yk w u.id u.kind (cenV w.G (yh w u.kind tile 64)[i])) (hy : yk w u.id u.kind (cenV w.G (yh w u.kind tile 64)[j])) : outF w u tile = some (yh w u.kind tile 64)[j] := by
 unfold outF
 rw [List.find?_eq_some_iff_getElem]
 exact ⟨decide_eq_true hy, j, hj, rfl, fun i hi => by
  rw [Bool.not_eq_true', decide_eq_false_iff_not]
  exact hno i (by omega) hi⟩
open Classical in
theorem zpa {w : Wld} {u : Unt} {tile : Int} (hno : ∀ i, (h : i < (yh w u.kind tile 64).length) → ¬ yk w u.id u.kind (cenV w.G (yh w u.kind tile 64)[i])) : outF w u tile = none := by
 unfold outF
 rw [List.find?_eq_none]
 intro t ht
 obtain ⟨i, hi, rfl⟩ := List.getElem_of_mem ht
 rw [decide_eq_true_iff]
 exact hno i hi
open Classical in
theorem zxs {w : Wld} {u : Unt} {tile : Int} {t : Nat} (h : outF w u tile = some t) : t ∈ yh w u.kind tile 64 ∧ yk w u.id u.kind (cenV w.G t) := by
 unfold outF at h
 exact ⟨List.mem_of_find?_eq_some h, by have := List.find?_some h; exact of_decide_eq_true this⟩
def unlU (u : Unt) (p : Vc) : Unt := { u with pos := p, inn := 0 }
/-- One behind the other comes out. -/
noncomputable def unl (tile : Int) : List Int → Wld → Option Wld
 | [], w => some w
 | id :: l, w => match yr w.U id with
  | none => none
  | some i => match outF w (w.U.getD i unt0) tile with
   | none => none
   | some t => unl tile l { w with U := w.U.set i (unlU (w.U.getD i unt0) (cenV w.G t)) }
theorem zky {tile : Int} {l : List Int} {w : Wld} {id : Int} {i : Nat} (hi : i < w.U.length) (hf : yr w.U id = some i) (ho : outF w w.U[i] tile = none) : unl tile (id :: l) w = none := by
 show (match yr w.U id with | none => none | some i => _) = _
 rw [hf]
 dsimp only
 rw [show w.U.getD i unt0 = w.U[i] by simp [List.getD_eq_getElem?_getD, hi], ho]
theorem zkx {tile : Int} {l : List Int} {w : Wld} {id : Int} {i t : Nat} (hi : i < w.U.length) (hf : yr w.U id = some i) (ho : outF w w.U[i] tile = some t) : unl tile (id :: l) w = unl tile l { w with U := w.U.set i (unlU w.U[i] (cenV w.G t)) } := by
 show (match yr w.U id with | none => none | some i => _) = _
 rw [hf]
 dsimp only
 rw [show w.U.getD i unt0 = w.U[i] by simp [List.getD_eq_getElem?_getD, hi], ho]
open Classical in
noncomputable def ulE (w : Wld) (c : Cmd) : Int :=
 if carE w c.P c.N = 0 then
  (if 0 ≤ c.T ∧ c.T < w.G.W * w.G.H then
   (if farP (cenV w.G c.T.toNat) (uAt w c.N).pos then 8 else (match unl c.T (inOf w.U c.N) w with | none => 5 | some _ => 0))
  else 3)
 else carE w c.P c.N
noncomputable def ulW (w : Wld) (c : Cmd) : Wld := (unl c.T (inOf w.U c.N) w).getD w
/-- The entries of a stand, when a unit is put. -/
def entP (L : List Ent) (u : Unt) : List Ent := if u.inn = 0 then ya L u.id ++ [(u.id, u.pos)] else ya L u.id
theorem zyd (L : List Ent) (u : Unt) : (entP L u).length ≤ L.length + 1 := by
 have : (ya L u.id).length ≤ L.length := List.length_filter_le _ _
 unfold entP
 split
 ·rw [List.length_append, List.length_singleton]; omega
 ·omega
theorem ycq {L : List Ent} (hok : ∀ e ∈ L, e.2.ok) {u : Unt} (hp : u.pos.ok) : ∀ e ∈ entP L u, e.2.ok := fun e he => by
 unfold entP at he
 split at he
 ·rcases List.mem_append.1 he with he | he
  ·exact hok e (mem_dropId.1 he).1
  ·simp at he; subst he; exact hp
 ·exact hok e (mem_dropId.1 he).1
theorem zjy {w : Wld} {L : List Ent} (hF : j3 w L) (hr : z7 w.U) {i : Nat} (hi : i < w.U.length) {u : Unt} (hid : w.U[i].id = u.id) : j3 { w with U := w.U.set i u } (entP L u) := by
 have old : ∀ e, e ∈ ya L u.id ↔ ∃ j, ∃ hj : j < w.U.length, j ≠ i ∧ w.U[j].inn = 0 ∧ e = (w.U[j].id, w.U[j].pos) := fun e => by
  rw [mem_dropId, hF e]
  constructor
  ·rintro ⟨⟨x, hx, h0, rfl⟩, hne⟩
   obtain ⟨j, hj, rfl⟩ := List.getElem_of_mem hx
   exact ⟨j, hj, fun e => hne (by subst e; exact hid), h0, rfl⟩
  ·rintro ⟨j, hj, hji, h0, rfl⟩
   refine ⟨⟨w.U[j], List.getElem_mem hj, h0, rfl⟩, fun e => hji ?_⟩
   have e : w.U[j].id = u.id := e
   by_cases h1 : j < i
   ·have := qu hr h1 hi; omega
   ·by_cases h2 : i < j
    ·have := qu hr h2 hj; omega
    ·omega
 intro e
 have key : (∃ y ∈ w.U.set i u, y.inn = 0 ∧ e = (y.id, y.pos)) ↔ (u.inn = 0 ∧ e = (u.id, u.pos)) ∨ ∃ j, ∃ hj : j < w.U.length, j ≠ i ∧ w.U[j].inn = 0 ∧ e = (w.U[j].id, w.U[j].pos) := by
  constructor
  ·rintro ⟨y, hy, h0, he⟩
   obtain ⟨j, hj, rfl⟩ := List.getElem_of_mem hy
   rw [List.length_set] at hj
   rw [List.getElem_set] at h0 he
   split at h0
   ·rename_i hh
    rw [if_pos hh] at he
    exact .inl ⟨h0, he⟩
   ·rename_i hh
    rw [if_neg hh] at he
    exact .inr ⟨j, hj, Ne.symm hh, h0, he⟩
  ·rintro (⟨h0, he⟩ | ⟨j, hj, hji, h0, he⟩)
   ·exact ⟨u, List.mem_set hi u, h0, he⟩
   ·refine ⟨w.U[j], ?_, h0, he⟩
    have hj2 : j < (w.U.set i u).length := by rw [List.length_set]; exact hj
    have : (w.U.set i u)[j] = w.U[j] := by rw [List.getElem_set, if_neg (Ne.symm hji)]
    rw [← this]
    exact List.getElem_mem hj2
 show e ∈ entP L u ↔ ∃ y ∈ w.U.set i u, y.inn = 0 ∧ e = (y.id, y.pos)
 rw [key]
 unfold entP
 split
 ·rename_i h0
  rw [List.mem_append, old, List.mem_singleton]
  constructor
  ·rintro (h | h)
   ·exact .inr h
   ·exact .inl ⟨h0, h⟩
  ·rintro (h | h)
   ·exact .inr h.2
   ·exact .inl h
 ·rename_i h0
  rw [old]
  exact ⟨.inr, fun h => h.resolve_left fun hh => h0 hh.1⟩
theorem zjz {w : Wld} {L : List Ent} (hn : (L.map (·.1)).Nodup) (hF : j3 w L) : L.length ≤ w.U.length := by
 have := List.Nodup.length_le_of_subset (l₂ := w.U.map (·.id)) hn (fun id hid => by
  obtain ⟨e, he, rfl⟩ := List.mem_map.1 hid
  obtain ⟨u, hu, _, rfl⟩ := (hF e).1 he
  exact List.mem_map.2 ⟨u, hu, rfl⟩)
 rw [List.length_map, List.length_map] at this
 exact this
/-- A unit is put: IDs rise as before. -/
theorem zdk {U : List Unt} (hr : z7 U) {i : Nat} (hi : i < U.length) {u : Unt} (hid : U[i].id = u.id) : z7 (U.set i u) := by
 intro j hj h0
 rw [List.length_set] at hj
 have := hr j hj h0
 have id' : ∀ k, (hk : k < U.length) → ((U.set i u)[k]'(by rw [List.length_set]; exact hk)).id = U[k].id := fun k hk => by
  rw [List.getElem_set]
  split
  ·rename_i e; subst e; exact hid.symm
  ·rfl
 rw [id' _ (by omega), id' _ hj]
 exact this
theorem zqm {U : List Unt} (hr : z7 U) {i : Nat} (hi : i < U.length) {u : Unt} (hid : U[i].id = u.id) (id : Int) : yr (U.set i u) id = yr U id := by
 have id' : ∀ k, (hk : k < U.length) → ((U.set i u)[k]'(by rw [List.length_set]; exact hk)).id = U[k].id := fun k hk => by
  rw [List.getElem_set]
  split
  ·rename_i e; subst e; exact hid.symm
  ·rfl
 cases h : yr U id with
 | some k =>
  obtain ⟨hk, e⟩ := xp h
  exact zgh (zdk hr hi hid) (by rw [List.length_set]; exact hk) (by rw [id' k hk]; exact e)
 | none =>
  cases h2 : yr (U.set i u) id with
  | none => rfl
  | some k =>
   obtain ⟨hk, e⟩ := xp h2
   rw [List.length_set] at hk
   rw [id' k hk] at e
   exact absurd e (zfb h _ (List.getElem_mem hk))
end Go.V
namespace Go.V
def mvG (g : Int) (u : Unt) : Unt := { u with goal := g, next := -1, stuck := 0, state := 1 }
def zaa (w : Wld) (c : Cmd) (k : Nat) (kd : Int) : Int := match (yh w kd c.T c.U.length)[k]? with | some t => (t : Int) | none => c.T
def mvL (w : Wld) (c : Cmd) : Nat → List Unt
 | 0 => w.U
 | k + 1 => match yr w.U (c.U.getD k 0) with
  | some i => (mvL w c k).set i (mvG (zaa w c k (w.U.getD i unt0).kind) (w.U.getD i unt0))
  | none => mvL w c k
def mvE (w : Wld) (c : Cmd) : Int := if 0 ≤ c.T ∧ c.T < w.G.W * w.G.H then allE (askE w c.P) c.U else 3
def mvW (w : Wld) (c : Cmd) : Wld := { w with U := mvL w c c.U.length }
theorem zxy {w : Wld} {c : Cmd} {k i : Nat} (hk : k < c.U.length) (hf : yr w.U c.U[k] = some i) (hi : i < w.U.length) : mvL w c (k + 1) = (mvL w c k).set i (mvG (zaa w c k w.U[i].kind) w.U[i]) := by
 show (match yr w.U (c.U.getD k 0) with | some i => _ | none => _) = _
 rw [show c.U.getD k 0 = c.U[k] by simp [List.getD_eq_getElem?_getD, hk], hf]
 dsimp only
 rw [show w.U.getD i unt0 = w.U[i] by simp [List.getD_eq_getElem?_getD, hi]]
theorem x5 (w : Wld) (c : Cmd) : ∀ k, (mvL w c k).length = w.U.length
 | 0 => rfl
 | k + 1 => by
  show (match yr w.U (c.U.getD k 0) with | some i => _ | none => _ : List Unt).length = _
  cases yr w.U (c.U.getD k 0) with
  | none => exact x5 w c k
  | some i => dsimp only; rw [List.length_set]; exact x5 w c k
/-- All but the order stays. -/
theorem zf4 (w : Wld) (c : Cmd) : ∀ k j, (hj : j < w.U.length) → mvG 0 ((mvL w c k)[j]'(by rw [x5]; exact hj)) = mvG 0 w.U[j]
 | 0, j, hj => rfl
 | k + 1, j, hj => by
  have ih := zf4 w c k j hj
  have key : ∀ L : List Unt, (hL : j < L.length) → L = mvL w c (k + 1) → mvG 0 L[j] = mvG 0 w.U[j] := fun L hL e => by
   have e2 : mvL w c (k + 1) = (match yr w.U (c.U.getD k 0) with
    | some i => (mvL w c k).set i (mvG (zaa w c k (w.U.getD i unt0).kind) (w.U.getD i unt0))
    | none => mvL w c k) := rfl
   rw [e2] at e
   cases hf : yr w.U (c.U.getD k 0) with
   | none => rw [hf] at e; subst e; exact ih
   | some i =>
    rw [hf] at e
    obtain ⟨hi, _⟩ := xp hf
    subst e
    rw [List.getElem_set]
    split
    ·rename_i e3; subst e3
     rw [show w.U.getD i unt0 = w.U[i] by simp [List.getD_eq_getElem?_getD, hi]]
     rfl
    ·exact ih
  exact key _ (by rw [x5]; exact hj) rfl
theorem zhx {a b : Unt} (h : mvG 0 a = mvG 0 b) : a.id = b.id ∧ a.owner = b.owner ∧ a.kind = b.kind ∧ a.pos = b.pos ∧ a.inn = b.inn := by
 refine ⟨?_, ?_, ?_, ?_, ?_⟩
 ·have := congrArg Unt.id h
  exact this
 ·have := congrArg Unt.owner h
  exact this
 ·have := congrArg Unt.kind h
  exact this
 ·have := congrArg Unt.pos h
  exact this
 ·have := congrArg Unt.inn h
  exact this
theorem zpl (w : Wld) (c : Cmd) (k j : Nat) (hj : j < w.U.length) : ((mvL w c k)[j]'(by rw [x5]; exact hj)).id = w.U[j].id := (zhx (zf4 w c k j hj)).1
theorem zdo {w : Wld} (hr : z7 w.U) (c : Cmd) (k : Nat) : z7 (mvL w c k) := by
 intro j hj h0
 rw [x5] at hj
 have := hr j hj h0
 rw [zpl w c k _ (by omega), zpl w c k _ hj]
 exact this
theorem zpk {w : Wld} {c : Cmd} {k : Nat} {u : Unt} (h : u ∈ mvL w c k) : ∃ x ∈ w.U, u.id = x.id ∧ u.owner = x.owner ∧ u.kind = x.kind ∧ u.pos = x.pos ∧ u.inn = x.inn := by
 obtain ⟨j, hj, rfl⟩ := List.getElem_of_mem h
 have hj2 := hj
 rw [x5] at hj2
 exact ⟨w.U[j], List.getElem_mem hj2, zhx (zf4 w c k j hj2)⟩
theorem yeg {w : Wld} {c : Cmd} (h : ¬ (0 ≤ c.T ∧ c.T < w.G.W * w.G.H)) : mvE w c = 3 := by unfold mvE; rw [if_neg h]
theorem yef {w : Wld} {c : Cmd} (h : 0 ≤ c.T ∧ c.T < w.G.W * w.G.H) : mvE w c = allE (askE w c.P) c.U := by unfold mvE; rw [if_pos h]
/-- The goal, by the places told. -/
theorem zj0 {w : Wld} {c : Cmd} {k : Nat} {kd : Int} (h : k < (yh w kd c.T c.U.length).length) : zaa w c k kd = ((yh w kd c.T c.U.length)[k] : Nat) := by
 unfold zaa
 rw [List.getElem?_eq_getElem h]
theorem zj1 {w : Wld} {c : Cmd} {k : Nat} {kd : Int} (h : ¬ k < (yh w kd c.T c.U.length).length) : zaa w c k kd = c.T := by
 unfold zaa
 rw [List.getElem?_eq_none (by omega)]
theorem zpu {α : Type} (f : α → AV) (cs : List (Int × α)) (k : Int) (z : AV) : zac true z ((cs.map (entI f)).find? (qA k)) = match getI cs k with | some v => .tup [f v, .s (.bool true)] | none => .tup [z, .s (.bool false)] := by
 rw [zik]
 unfold getI
 cases cs.find? fun e => k == e.1 with
 | none => rfl
 | some e => rfl
end Go.V
namespace Go.V
noncomputable def aE (w : Wld) (c : Cmd) : Int := if c.K = 1 then spE w c else if c.K = 2 then mvE w c else if c.K = 3 then stE w c else if c.K = 4 then bdE w c else if c.K = 5 then drE w c else if c.K = 6 then ldE w c else ulE w c
noncomputable def aW (w : Wld) (c : Cmd) : Wld := if c.K = 1 then spW w c else if c.K = 2 then mvW w c else if c.K = 3 then stW w c else if c.K = 4 then bdW w c else if c.K = 5 then drW w c else if c.K = 6 then ldW w c else ulW w c
theorem a1 {w : Wld} {c : Cmd} (h : c.K = 1) : aE w c = spE w c ∧ aW w c = spW w c := by unfold aE aW; rw [h]; exact ⟨rfl, rfl⟩
theorem a2 {w : Wld} {c : Cmd} (h : c.K = 2) : aE w c = mvE w c ∧ aW w c = mvW w c := by unfold aE aW; rw [h]; exact ⟨rfl, rfl⟩
theorem a3 {w : Wld} {c : Cmd} (h : c.K = 3) : aE w c = stE w c ∧ aW w c = stW w c := by unfold aE aW; rw [h]; exact ⟨rfl, rfl⟩
theorem a4 {w : Wld} {c : Cmd} (h : c.K = 4) : aE w c = bdE w c ∧ aW w c = bdW w c := by unfold aE aW; rw [h]; exact ⟨rfl, rfl⟩
theorem a5 {w : Wld} {c : Cmd} (h : c.K = 5) : aE w c = drE w c ∧ aW w c = drW w c := by unfold aE aW; rw [h]; exact ⟨rfl, rfl⟩
theorem a6 {w : Wld} {c : Cmd} (h : c.K = 6) : aE w c = ldE w c ∧ aW w c = ldW w c := by unfold aE aW; rw [h]; exact ⟨rfl, rfl⟩
theorem a7 {w : Wld} {c : Cmd} (h : c.K = 7) : aE w c = ulE w c ∧ aW w c = ulW w c := by unfold aE aW; rw [h]; exact ⟨rfl, rfl⟩
theorem ydn {c : Cmd} (h : cmdP c) : c.K = 1 ∨ c.K = 2 ∨ c.K = 3 ∨ c.K = 4 ∨ c.K = 5 ∨ c.K = 6 ∨ c.K = 7 := Classical.byContradiction fun hn => by
 have hn : c.K ≠ 1 ∧ c.K ≠ 2 ∧ c.K ≠ 3 ∧ c.K ≠ 4 ∧ c.K ≠ 5 ∧ c.K ≠ 6 ∧ c.K ≠ 7 := by omega
 exact Cmd.ok0 hn.1 hn.2.1 hn.2.2.1 hn.2.2.2.1 hn.2.2.2.2.1 hn.2.2.2.2.2.1 hn.2.2.2.2.2.2 h.1
theorem zln {E : Wld → Cmd → Int} {w : Wld} {c : Cmd} (h : doE E w c = 0) : mayP w ∧ cmdP c ∧ c.P ≤ w.players ∧ E w c = 0 := by
 have hb : ¬ (¬ mayP w ∨ ¬ cmdP c ∨ w.players < c.P) := fun hb => by rw [zke hb] at h; cases h
 have h1 : mayP w := Classical.byContradiction fun hh => hb (.inl hh)
 have h2 : cmdP c := Classical.byContradiction fun hh => hb (.inr (.inl hh))
 have h3 : c.P ≤ w.players := Int.not_lt.1 fun hh => hb (.inr (.inr hh))
 refine ⟨h1, h2, h3, ?_⟩
 rw [zlo h1 h2 h3] at h
 exact h
theorem zg6 {tile : Int} : ∀ (l : List Int) (w x : Wld), z7 w.U → unl tile l w = some x → x.tick = w.tick ∧ x.players = w.players ∧ x.next = w.next ∧ x.G = w.G ∧ x.B = w.B ∧ ∃ h : x.U.length = w.U.length, ∀ j, (hj : j < w.U.length) → x.U[j].id = w.U[j].id ∧ x.U[j].owner = w.U[j].owner ∧ x.U[j].kind = w.U[j].kind ∧ (x.U[j] = w.U[j] ∨ ∃ t, t < w.G.T.length ∧ x.U[j].pos = cenV w.G t)
 | [], w, x, hr, h => by
  have : w = x := Option.some.inj h
  subst this
  exact ⟨rfl, rfl, rfl, rfl, rfl, rfl, fun j hj => ⟨rfl, rfl, rfl, .inl rfl⟩⟩
 | id :: l, w, x, hr, h => by
  cases hf : yr w.U id with
  | none =>
   have : unl tile (id :: l) w = none := by
    show (match yr w.U id with | none => none | some i => _) = _
    rw [hf]
   rw [this] at h; cases h
  | some i =>
   obtain ⟨hi, _⟩ := xp hf
   cases ho : outF w w.U[i] tile with
   | none => rw [zky hi hf ho] at h; cases h
   | some t =>
    rw [zkx hi hf ho] at h
    have ht := (zhe (zxs ho).1).1
    obtain ⟨h0, h1, h2, h3, h4, h5, h6⟩ := zg6 l _ x (zdk hr hi (u := unlU w.U[i] (cenV w.G t)) rfl) h
    have hl : (w.U.set i (unlU w.U[i] (cenV w.G t))).length = w.U.length := List.length_set
    refine ⟨h0, h1, h2, h3, h4, h5.trans hl, fun j hj => ?_⟩
    obtain ⟨k1, k2, k3, k4⟩ := h6 j (by rw [hl]; exact hj)
    by_cases e : i = j
    ·subst e
     have e9 : (w.U.set i (unlU w.U[i] (cenV w.G t)))[i]'(by rw [hl]; exact hj) = unlU w.U[i] (cenV w.G t) := List.getElem_set_self _
     dsimp only at k1 k2 k3 k4
     rw [e9] at k1 k2 k3 k4
     refine ⟨k1, k2, k3, .inr ?_⟩
     rcases k4 with k4 | ⟨t2, k4, k5⟩
     ·exact ⟨t, ht, by rw [k4]; rfl⟩
     ·exact ⟨t2, k4, k5⟩
    ·have e9 : (w.U.set i (unlU w.U[i] (cenV w.G t)))[j]'(by rw [hl]; exact hj) = w.U[j] := List.getElem_set_ne e _
     dsimp only at k1 k2 k3 k4
     rw [e9] at k1 k2 k3 k4
     exact ⟨k1, k2, k3, k4⟩
theorem zg7 {w : Wld} {c : Cmd} (hr : z7 w.U) : (ulW w c).tick = w.tick ∧ (ulW w c).players = w.players ∧ (ulW w c).next = w.next ∧ (ulW w c).G = w.G ∧ (ulW w c).B = w.B ∧ ∃ h : (ulW w c).U.length = w.U.length, ∀ j, (hj : j < w.U.length) → (ulW w c).U[j].id = w.U[j].id ∧ (ulW w c).U[j].owner = w.U[j].owner ∧ (ulW w c).U[j].kind = w.U[j].kind ∧ ((ulW w c).U[j] = w.U[j] ∨ ∃ t, t < w.G.T.length ∧ (ulW w c).U[j].pos = cenV w.G t) := by
 have key : ∀ x : Wld, ulW w c = x → x.tick = w.tick ∧ x.players = w.players ∧ x.next = w.next ∧ x.G = w.G ∧ x.B = w.B ∧ ∃ h : x.U.length = w.U.length, ∀ j, (hj : j < w.U.length) → x.U[j].id = w.U[j].id ∧ x.U[j].owner = w.U[j].owner ∧ x.U[j].kind = w.U[j].kind ∧ (x.U[j] = w.U[j] ∨ ∃ t, t < w.G.T.length ∧ x.U[j].pos = cenV w.G t) := fun x hx => by
  unfold ulW at hx
  cases h : unl c.T (inOf w.U c.N) w with
  | none =>
   rw [h] at hx
   have : w = x := hx
   subst this
   exact ⟨rfl, rfl, rfl, rfl, rfl, rfl, fun j hj => ⟨rfl, rfl, rfl, .inl rfl⟩⟩
  | some y =>
   rw [h] at hx
   have : y = x := hx
   subst this
   exact zg6 _ _ _ hr h
 exact key _ rfl
theorem zk4 {l : List Int} {g : Unt → Unt} {U : List Unt} {u : Unt} (h : u ∈ setU l g U) : ∃ x ∈ U, u = x ∨ u = g x := by
 unfold setU at h
 obtain ⟨x, hx, rfl⟩ := List.mem_map.1 h
 refine ⟨x, hx, ?_⟩
 split
 ·exact .inr rfl
 ·exact .inl rfl
/-- Places that units have behind a command. -/
theorem yd4 {w : Wld} {c : Cmd} (hn : ∀ u ∈ w.U, u.pos.ok) (h : doE aE w c = 0) : ∀ u ∈ (aW w c).U, u.pos.ok := by
 obtain ⟨hm, hc, hp, he⟩ := zln h
 have z0 : Vc.ok (0, 0) := by unfold Vc.ok yd; decide
 intro u hu
 rcases ydn hc with k | k | k | k | k | k | k
 ·rw [(a1 k).2] at hu
  rcases List.mem_append.1 (show u ∈ w.U ++ [spU w c] from hu) with hu | hu
  ·exact hn u hu
  ·rw [List.mem_singleton] at hu
   subst hu
   have := (Cmd.ok1 k).1 hc.1
   have := this.2
   show Vc.ok (c.X, c.Y)
   unfold yg at this
   unfold Vc.ok yd
   dsimp only
   omega
 ·rw [(a2 k).2] at hu
  obtain ⟨x, hx, _, _, _, e, _⟩ := zpk (show u ∈ mvL w c c.U.length from hu)
  rw [e]; exact hn x hx
 ·rw [(a3 k).2] at hu
  obtain ⟨x, hx, rfl | rfl⟩ := zk4 (show u ∈ setU c.U rstU w.U from hu)
  ·exact hn _ hx
  ·exact hn x hx
 ·rw [(a4 k).2] at hu
  exact hn u hu
 ·rw [(a5 k).2] at hu
  unfold drW at hu
  cases hf : zem w.B c.N with
  | none => rw [hf] at hu; exact hn u hu
  | some i => rw [hf] at hu; exact hn u hu
 ·rw [(a6 k).2] at hu
  obtain ⟨x, hx, rfl | rfl⟩ := zk4 (show u ∈ setU c.U (ldU c.N) w.U from hu)
  ·exact hn _ hx
  ·exact z0
 ·rw [(a7 k).2] at hu
  obtain ⟨_, _, _, _, _, hl, hf⟩ := zg7 (c := c) hm.1.2.1
  obtain ⟨j, hj, rfl⟩ := List.getElem_of_mem hu
  obtain ⟨_, _, _, e | ⟨t, ht, e⟩⟩ := hf j (by omega)
  ·rw [e]; exact hn _ (List.getElem_mem _)
  ·rw [e]; exact zd3 hm.1.1.2.1.1 ht
theorem zqs (w : Wld) (c : Cmd) : (drW w c).tick = w.tick ∧ (drW w c).players = w.players ∧ (drW w c).next = w.next ∧ (drW w c).G = w.G ∧ (drW w c).U = w.U ∧ (drW w c).B.length ≤ w.B.length := by
 unfold drW
 cases zem w.B c.N with
 | none => exact ⟨rfl, rfl, rfl, rfl, rfl, Nat.le_refl _⟩
 | some i => exact ⟨rfl, rfl, rfl, rfl, rfl, List.length_eraseIdx_le _ _⟩
theorem zzc {w : Wld} {c : Cmd} (hm : mayP w) : (aW w c).G.T.length ≤ 1000000 ∧ (aW w c).B.length ≤ 1000000 ∧ (aW w c).U.length ≤ 1000000 := by
 have ha := zq hm.1.1.2.1.1
 have hB := hm.1.1.2.1.2.1.1
 have hU := hm.1.1.2.1.2.2
 by_cases k1 : c.K = 1
 ·rw [(a1 k1).2]
  unfold spW
  dsimp only
  rw [List.length_append, List.length_singleton]
  omega
 by_cases k2 : c.K = 2
 ·rw [(a2 k2).2]
  unfold mvW
  dsimp only
  rw [x5]
  omega
 by_cases k3 : c.K = 3
 ·rw [(a3 k3).2]
  unfold stW
  dsimp only
  rw [qt]
  omega
 by_cases k4 : c.K = 4
 ·rw [(a4 k4).2]
  unfold bdW
  dsimp only
  rw [List.length_append, List.length_singleton]
  omega
 by_cases k5 : c.K = 5
 ·rw [(a5 k5).2]
  obtain ⟨_, _, _, e1, e2, e3⟩ := zqs w c
  rw [e1, e2]
  omega
 by_cases k6 : c.K = 6
 ·rw [(a6 k6).2]
  unfold ldW
  dsimp only
  rw [qt]
  omega
 have : aW w c = ulW w c := by unfold aW; rw [if_neg k1, if_neg k2, if_neg k3, if_neg k4, if_neg k5, if_neg k6]
 rw [this]
 obtain ⟨_, _, _, e1, e2, e3, _⟩ := zg7 (c := c) hm.1.2.1
 rw [e1, e2, e3]
 omega
end Go.V
namespace Go.V
instance (g : Gnd) (t : Nat) (p : Vc) (r : Int) : Decidable (hitP g t p r) := by unfold hitP; infer_instance
instance (g : Gnd) (b : Bld) : Decidable (zbu g b) := by unfold zbu; infer_instance
instance (g : Gnd) (b : Bld) : Decidable (onP g b) := by unfold onP; infer_instance
instance (b : Bld) : Decidable (bldP b) := by unfold bldP; infer_instance
instance (a b : Bld) : Decidable (jp a b) := by unfold jp; infer_instance
instance (l : List Bld) : Decidable (zhn l) := by unfold zhn; infer_instance
instance (l : List Bld) : Decidable (zlt l) := by unfold zlt; infer_instance
instance (g : Gnd) : Decidable (gndP g) := by unfold gndP; infer_instance
instance (g : Gnd) (l : List Bld) : Decidable (zgs g l) := by unfold zgs; infer_instance
instance (g : Gnd) (l : List Bld) (c : Int) (p : Vc) (r : Int) : Decidable (zgf g l c p r) := by unfold zgf; infer_instance
instance (w : Wld) (id k : Int) (p : Vc) : Decidable (yk w id k p) := by unfold yk; infer_instance
instance (k : Int) : Decidable (ko k) := by unfold ko; infer_instance
instance (g : Gnd) (t : Int) : Decidable (zbo g t) := by unfold zbo; infer_instance
instance (w : Wld) (u : Unt) : Decidable (untP w u) := by unfold untP; infer_instance
instance (w : Wld) : Decidable (zgc w) := by unfold zgc; infer_instance
instance (l : List Unt) : Decidable (z7 l) := by unfold z7; infer_instance
instance (w : Wld) : Decidable (zam w) := by unfold zam; infer_instance
instance (w : Wld) (u : Unt) : Decidable (wz w u) := by unfold wz; infer_instance
instance (w : Wld) : Decidable (mayP w) := by unfold mayP; infer_instance
instance (x y : Int) : Decidable (yg x y) := by unfold yg; infer_instance
instance (t : Int) : Decidable (j6 t) := by unfold j6; infer_instance
instance (t : Int) : Decidable (idP t) := by unfold idP; infer_instance
instance (l : List Int) : Decidable (k0 l) := by unfold k0; infer_instance
instance (w : Wld) : Decidable (zcs w) := by unfold zcs; infer_instance
end Go.V
namespace Go.V
def spEc (w : Wld) (c : Cmd) : Int := if zcs w then 4 else if yk w 0 c.N (c.X, c.Y) then 0 else 5
theorem yec (w : Wld) (c : Cmd) : spE w c = spEc w c := by
 unfold spE spEc
 by_cases h1 : zcs w
 ·rw [if_pos h1, if_pos h1]
 rw [if_neg h1, if_neg h1]
 by_cases h2 : yk w 0 c.N (c.X, c.Y)
 ·rw [if_pos h2, if_pos h2]
 ·rw [if_neg h2, if_neg h2]
def zpq (w : Wld) (b : Bld) : Bool := (List.range (w.G.W * w.G.H).toNat).any fun t => decide (hasP w.G b t) && w.U.any fun u => decide (u.inn = 0) && decide (hitP w.G t u.pos (kRad u.kind))
theorem zpp (w : Wld) (b : Bld) : za9 w b ↔ zpq w b = true := by
 unfold za9 zpq
 rw [List.any_eq_true]
 constructor
 ·rintro ⟨t, ⟨h1, h2⟩, u, hu, h3, h4⟩
  refine ⟨t, List.mem_range.2 (by omega), ?_⟩
  rw [Bool.and_eq_true_iff, List.any_eq_true]
  exact ⟨decide_eq_true h2, u, hu, by rw [Bool.and_eq_true_iff]; exact ⟨decide_eq_true h3, decide_eq_true h4⟩⟩
 ·rintro ⟨t, ht, h⟩
  have ht := List.mem_range.1 ht
  rw [Bool.and_eq_true_iff, List.any_eq_true] at h
  obtain ⟨h1, u, hu, h2⟩ := h
  rw [Bool.and_eq_true_iff] at h2
  exact ⟨t, ⟨by omega, of_decide_eq_true h1⟩, u, hu, of_decide_eq_true h2.1, of_decide_eq_true h2.2⟩
def zo7 (g : Gnd) (l : List Bld) (b : Bld) : Int := if ¬ onP g b then 3 else if ∃ x ∈ l, jp x b then 12 else if ¬ zbu g b then 5 else if 256 ≤ l.length then 4 else 0
theorem ydi (g : Gnd) (l : List Bld) (b : Bld) : putE g l b = zo7 g l b := by
 unfold putE zo7
 by_cases h1 : ¬ onP g b
 ·rw [if_pos h1, if_pos h1]
 rw [if_neg h1, if_neg h1]
 by_cases h2 : ∃ x ∈ l, jp x b
 ·rw [if_pos h2, if_pos h2]
 rw [if_neg h2, if_neg h2]
 by_cases h3 : ¬ zbu g b
 ·rw [if_pos h3, if_pos h3]
 ·rw [if_neg h3, if_neg h3]
def bdEc (w : Wld) (c : Cmd) : Int := if ¬ (0 ≤ c.T ∧ c.T < w.G.W * w.G.H) then 3 else if 1099511627776 ≤ w.next then 4 else if zo7 w.G w.B (bdB w c) = 0 then (if zpq w (bdB w c) then 5 else 0) else zo7 w.G w.B (bdB w c)
theorem yex (w : Wld) (c : Cmd) : bdE w c = bdEc w c := by
 unfold bdE bdEc
 rw [ydi]
 by_cases h1 : ¬ (0 ≤ c.T ∧ c.T < w.G.W * w.G.H)
 ·rw [if_pos h1, if_pos h1]
 rw [if_neg h1, if_neg h1]
 by_cases h2 : 1099511627776 ≤ w.next
 ·rw [if_pos h2, if_pos h2]
 rw [if_neg h2, if_neg h2]
 by_cases h3 : zo7 w.G w.B (bdB w c) = 0
 ·rw [if_pos h3, if_pos h3]
  by_cases h4 : za9 w (bdB w c)
  ·rw [if_pos h4, if_pos ((zpp _ _).1 h4)]
  ·rw [if_neg h4, if_neg (fun h => h4 ((zpp _ _).2 h))]
 ·rw [if_neg h3, if_neg h3]
def zxr (w : Wld) (u : Unt) (tile : Int) : Option Nat := (yh w u.kind tile 64).find? fun t => decide (yk w u.id u.kind (cenV w.G t))
theorem ydj (w : Wld) (u : Unt) (tile : Int) : outF w u tile = zxr w u tile := by
 unfold outF zxr
 congr
 funext t
 congr
def unlc (tile : Int) : List Int → Wld → Option Wld
 | [], w => some w
 | id :: l, w => match yr w.U id with
  | none => none
  | some i => match zxr w (w.U.getD i unt0) tile with
   | none => none
   | some t => unlc tile l { w with U := w.U.set i (unlU (w.U.getD i unt0) (cenV w.G t)) }
theorem zzf (tile : Int) : ∀ (l : List Int) (w : Wld), unl tile l w = unlc tile l w
 | [], _ => rfl
 | id :: l, w => by
  show (match yr w.U id with | none => none | some i => _) = (match yr w.U id with | none => none | some i => _)
  cases yr w.U id with
  | none => rfl
  | some i =>
   dsimp only
   rw [ydj]
   cases zxr w (w.U.getD i unt0) tile with
   | none => rfl
   | some t => exact zzf tile l _
def ulEc (w : Wld) (c : Cmd) : Int :=
 if carE w c.P c.N = 0 then
  (if 0 ≤ c.T ∧ c.T < w.G.W * w.G.H then
   (if farP (cenV w.G c.T.toNat) (uAt w c.N).pos then 8 else (match unlc c.T (inOf w.U c.N) w with | none => 5 | some _ => 0))
  else 3)
 else carE w c.P c.N
theorem yd6 (w : Wld) (c : Cmd) : ulE w c = ulEc w c := by
 unfold ulE ulEc
 rw [zzf]
 all_goals
  by_cases h1 : carE w c.P c.N = 0
  ·rw [if_pos h1, if_pos h1]
   by_cases h2 : 0 ≤ c.T ∧ c.T < w.G.W * w.G.H
   ·rw [if_pos h2, if_pos h2]
    by_cases h3 : farP (cenV w.G c.T.toNat) (uAt w c.N).pos
    ·rw [if_pos h3, if_pos h3]
    ·rw [if_neg h3, if_neg h3]
     try rfl
   ·rw [if_neg h2, if_neg h2]
  ·rw [if_neg h1, if_neg h1]
def ulWc (w : Wld) (c : Cmd) : Wld := (unlc c.T (inOf w.U c.N) w).getD w
theorem yd5 (w : Wld) (c : Cmd) : ulW w c = ulWc w c := by unfold ulW ulWc; rw [zzf]
def aEc (w : Wld) (c : Cmd) : Int := if c.K = 1 then spEc w c else if c.K = 2 then mvE w c else if c.K = 3 then stE w c else if c.K = 4 then bdEc w c else if c.K = 5 then drE w c else if c.K = 6 then ldE w c else ulEc w c
def aWc (w : Wld) (c : Cmd) : Wld := if c.K = 1 then spW w c else if c.K = 2 then mvW w c else if c.K = 3 then stW w c else if c.K = 4 then bdW w c else if c.K = 5 then drW w c else if c.K = 6 then ldW w c else ulWc w c
instance (c : Cmd) : Decidable c.okP := by unfold Cmd.okP; infer_instance
instance : DecidableEq Cmd := fun a b => decidable_of_iff (a.P = b.P ∧ a.S = b.S ∧ a.K = b.K ∧ a.N = b.N ∧ a.U = b.U ∧ a.T = b.T ∧ a.W = b.W ∧ a.H = b.H ∧ a.X = b.X ∧ a.Y = b.Y) (by
 cases a; cases b
 simp)
instance (c : Cmd) : Decidable (cmdP c) := by unfold cmdP; infer_instance
def doEc (w : Wld) (c : Cmd) : Int := if ¬ mayP w ∨ ¬ cmdP c ∨ w.players < c.P then 1 else aEc w c
def doWc (w : Wld) (c : Cmd) : Wld := if doEc w c = 0 then aWc w c else w
theorem ydx (w : Wld) (c : Cmd) : doE aE w c = doEc w c := by
 have e : aE w c = aEc w c := by
  unfold aE aEc
  rw [yec, yex, yd6]
 unfold doE doEc
 by_cases h : ¬ mayP w ∨ ¬ cmdP c ∨ w.players < c.P
 ·rw [if_pos h, if_pos h]
 ·rw [if_neg h, if_neg h, e]
theorem yev (w : Wld) (c : Cmd) : doW aE aW w c = doWc w c := by
 have e : aW w c = aWc w c := by
  unfold aW aWc
  rw [yd5]
 unfold doW doWc
 rw [ydx, e]
end Go.V
namespace Go.V
def g5 : Gnd := ⟨5, 5, List.replicate 25 0⟩
def w5 : Wld := ⟨0, 1, 1, g5, [], []⟩
end Go.V
namespace Go.V
def g8 : Gnd := ⟨8, 8, List.replicate 64 0⟩
def w8 : Wld := ⟨0, 2, 1, g8, [], []⟩
def sp8 (P N : Int) (t : Nat) : Cmd := ⟨P, 0, 1, N, [], 0, 0, 0, (cenV g8 t).1, (cenV g8 t).2⟩
def ld8 (N : Int) (U : List Int) : Cmd := ⟨1, 0, 6, N, U, 0, 0, 0, 0, 0⟩
/-- A unit of a player on a tile of the ground, or in another one. -/
def u8r (id P k : Int) (t : Nat) : Unt := ⟨id, P, k, cenV g8 t, -1, -1, 0, 0, 0⟩
def v8r (id : Int) : Unt := ⟨id, 1, 0, (0, 0), -1, -1, 0, 1, 0⟩
def near8 : List Nat := [26, 28, 19, 35, 18]
/-- The worlds, one behind the other. -/
def wN (n : Nat) : Wld := ⟨0, 2, 2 + n, g8, [], u8r 1 1 3 27 :: ((List.range n).map fun (i : Nat) => u8r (2 + (i : Int)) 1 0 (near8.getD i 0))⟩
def wA : Wld := ⟨0, 2, 8, g8, [], [u8r 1 1 3 27, u8r 2 1 0 26, u8r 3 1 0 28, u8r 4 1 0 19, u8r 5 1 0 35, u8r 6 1 0 18, u8r 7 2 0 36]⟩
def wB : Wld := ⟨0, 2, 8, g8, [], [u8r 1 1 3 27, v8r 2, v8r 3, v8r 4, v8r 5, u8r 6 1 0 18, u8r 7 2 0 36]⟩
def mv8 : Cmd := ⟨1, 0, 2, 0, [2], 0, 0, 0, 0, 0⟩
def ul8 (T : Int) : Cmd := ⟨1, 0, 7, 1, [], T, 0, 0, 0, 0⟩
instance : DecidableEq Unt := fun a b => decidable_of_iff (a.id = b.id ∧ a.owner = b.owner ∧ a.kind = b.kind ∧ a.pos = b.pos ∧ a.goal = b.goal ∧ a.next = b.next ∧ a.stuck = b.stuck ∧ a.inn = b.inn ∧ a.state = b.state) (by cases a; cases b; simp)
instance : DecidableEq Bld := fun a b => decidable_of_iff (a.id = b.id ∧ a.owner = b.owner ∧ a.x = b.x ∧ a.y = b.y ∧ a.w = b.w ∧ a.h = b.h) (by cases a; cases b; simp)
instance : DecidableEq Gnd := fun a b => decidable_of_iff (a.W = b.W ∧ a.H = b.H ∧ a.T = b.T) (by cases a; cases b; simp)
instance : DecidableEq Wld := fun a b => decidable_of_iff (a.tick = b.tick ∧ a.players = b.players ∧ a.next = b.next ∧ a.G = b.G ∧ a.B = b.B ∧ a.U = b.U) (by cases a; cases b; simp)
theorem rides0 : doEc w8 (sp8 1 3 27) = 0 ∧ doWc w8 (sp8 1 3 27) = wN 0 := by decide +kernel
theorem ydg : ∀ i, i < 5 → doEc (wN i) (sp8 1 0 (near8.getD i 0)) = 0 ∧ doWc (wN i) (sp8 1 0 (near8.getD i 0)) = wN (i + 1) := by decide +kernel
theorem rides2 : doEc (wN 5) (sp8 2 0 36) = 0 ∧ doWc (wN 5) (sp8 2 0 36) = wA := by decide +kernel
theorem ydf : doEc wA (ld8 1 [7]) = 6 ∧ doEc wA (ld8 2 [3]) = 7 ∧ doEc wA (ld8 1 [1]) = 7 ∧ doEc wA (ld8 1 [2, 3, 4, 5, 6]) = 4 ∧ doEc wA (ld8 1 [2, 3, 4, 5]) = 0 ∧ doWc wA (ld8 1 [2, 3, 4, 5]) = wB := by decide +kernel
theorem yde : doEc wB (ld8 1 [6]) = 4 ∧ doEc wB mv8 = 9 ∧ doEc wB (ul8 63) = 8 ∧ doEc wB (ul8 29) = 0 := by decide +kernel
theorem ydd : mayP (doWc wB (ul8 29)) ∧ ∀ u ∈ (doWc wB (ul8 29)).U, u.inn = 0 := by decide +kernel
end Go.V
