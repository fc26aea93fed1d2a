/- The ground on which laws of thronglaw24 are proved: contracts of functions and plain lemmas; no condition beyond the row's own. -/
import Derived.Test.YtbemejeejgpkaaaGreatVI
import Derived.Test.YtbemejeejgpkaaaGreatVH
import Derived.Test.YtbemejeejgpkaaaGreatVF
set_option linter.unusedSimpArgs false
set_option linter.unusedVariables false
namespace Go.V
def vadd (a b : Vc) : Vc := (fadd a.1 b.1, fadd a.2 b.2)
def vnrm (v : Vc) : Vc := (nrm v.1, nrm v.2)
def x5 (v : Vc) (k : Nat) : Vc := (v.1.tdiv (2 ^ k : Nat), v.2.tdiv (2 ^ k : Nat))
/-- The root, bit by bit. -/
def ydo (m : Int) : Nat → Int → Int
 | 0, r => r
 | b + 1, r => ydo m b (if (r + (2 ^ b : Nat)) * (r + (2 ^ b : Nat)) ≤ m then r + (2 ^ b : Nat) else r)
def kj (m : Int) : Int := ydo m 63 0
theorem ydn {m : Int} (hm : 0 ≤ m) : ∀ (b : Nat) (r : Int), 0 ≤ r → r * r ≤ m → (r + (2 ^ b : Nat) = 9223372036854775808 ∨ m < (r + (2 ^ b : Nat)) * (r + (2 ^ b : Nat))) → r + (2 ^ b : Nat) ≤ 9223372036854775808 → zbn m (ydo m b r) := by
 intro b
 induction b with
 | zero =>
  intro r h0 h1 h2 h3
  refine ⟨h0, ?_, h1, ?_⟩
  ·simp only [Nat.pow_zero] at h3
   show r ≤ _
   omega
  ·show r = _ ∨ _
   simp only [Nat.pow_zero] at h2
   rcases h2 with h2 | h2
   ·exact .inl (by omega)
   ·exact .inr h2
 | succ b ih =>
  intro r h0 h1 h2 h3
  have hp : (2 ^ (b + 1) : Nat) = 2 ^ b + 2 ^ b := by rw [Nat.pow_succ]; omega
  have hq : 0 < 2 ^ b := Nat.pow_pos (by decide)
  rw [hp] at h2 h3
  generalize hB : 2 ^ b = B at *
  show zbn m (ydo m b (if _ then _ else _))
  rw [hB]
  split
  ·rename_i hle
   refine ih (r + (B : Nat)) (by omega) hle ?_ (by omega)
   rw [Int.add_assoc, show ((B : Nat) : Int) + (B : Nat) = ((B + B : Nat) : Int) by omega]
   exact h2
  ·rename_i hle
   exact ih r h0 h1 (.inr (by omega)) (by omega)
theorem zb7 {m : Int} (hm : 0 ≤ m) : zbn m (kj m) := ydn hm 63 0 (by decide) (by simpa using hm) (.inl (by decide)) (by decide)
theorem zrh {m r : Int} (hm : 0 ≤ m) (h : zbn m r) : r = kj m := zlz h (zb7 hm)
/-- A part of a way that is cut. -/
def cutC (c most long : Int) : Int := if c < 0 then -((-c) * most / long) else c * most / long
def qx (v : Vc) (most : Int) : Vc :=
 if kj (sqr v) ≤ max most 0 then vnrm v else (cutC (nrm v.1) (max most 0) (kj (sqr v)), cutC (nrm v.2) (max most 0) (kj (sqr v)))
def zha (p q : Vc) (speed : Int) : Vc := qx (vsub q p) speed
/-- What pushes one away from another one. -/
def zas (p : Vc) (r : Int) (q : Vc) : Vc :=
 if near p q r then qx (if vsub p q = (0, 0) then (65536, 0) else vsub p q) (r - kj (sqr (vsub p q))) else (0, 0)
instance (w : Wld) (id k : Int) (p : Vc) : Decidable (yl w id k p) := by unfold yl zda; infer_instance
/-- Where a unit comes to by a step, and how often that was halved. -/
def tryL (w : Wld) (u : Unt) (v : Vc) : Nat → Nat → Option (Nat × Vc)
 | 0, _ => none
 | n + 1, k => if x5 v k = (0, 0) then none else if yl w u.id u.kind (vadd u.pos (x5 v k)) then some (k, vadd u.pos (x5 v k)) else tryL w u v n (k + 1)
def putU (w : Wld) (u : Unt) : Wld := { w with U := w.U.map fun x => if x.id = u.id then u else x }
def tryK (w : Wld) (u : Unt) (v : Vc) : Int := match tryL w u (vnrm v) 5 0 with | none => 5 | some (k, _) => (k : Int)
def tryW (w : Wld) (u : Unt) (v : Vc) : Wld := match tryL w u (vnrm v) 5 0 with | none => w | some (_, p) => putU w { u with pos := p }
/-- What pushes one without a goal. -/
def zpf (w : Wld) (u : Unt) : Vc := w.U.foldl (fun v x => if x.inn = 0 ∧ x.id ≠ u.id then vadd v (zas u.pos (kRad u.kind + kRad x.kind + 16384) x.pos) else v) (0, 0)
def zs7 (w : Wld) (u : Unt) : Wld := tryW w u (qx (zpf w u) ((j7 u.kind).tdiv 4))
def endU (s : Int) (u : Unt) : Unt := { u with goal := -1, next := -1, stuck := 0, state := s }
def okU (w : Wld) (u : Unt) (t : Nat) : Bool := zr w.G w.B (kCls u.kind) (q9 u.kind) t
def zel (w : Wld) (u : Unt) (own : Nat) : Bool :=
 decide (u.next = -1) || decide (u.pos = cenV w.G u.next.toNat) || !okU w u u.next.toNat || (decide (u.next ≠ own) && !(zfj w.G own).contains u.next)
/-- The next tile; below 0: there is none. -/
noncomputable def zhk (w : Wld) (u : Unt) (own : Nat) : Int :=
 if u.pos ≠ cenV w.G own then own else
  (let way := wayF w.G (okU w u) (kCls u.kind) (farF w.G (okU w u) (kCls u.kind) u.goal.toNat) own
   if way < 0 then -1 else besN w.G own way.toNat)
/-- One step toward the next tile. -/
def zi0 (w : Wld) (u : Unt) : Wld :=
 if tryK (putU w { u with stuck := 0 }) { u with stuck := 0 } (zha u.pos (cenV w.G u.next.toNat) (j7 u.kind)) < 5 then tryW (putU w { u with stuck := 0 }) { u with stuck := 0 } (zha u.pos (cenV w.G u.next.toNat) (j7 u.kind))
 else if u.stuck + 1 = 8 then putU w (endU 4 u) else putU w { u with stuck := u.stuck + 1, next := -1 }
noncomputable def zpp (w : Wld) (u : Unt) : Wld :=
 if u.pos = cenV w.G u.goal.toNat then putU w (endU 2 u)
 else if zel w u (xf w.G u.pos) then
  (if zhk w u (xf w.G u.pos) < 0 then putU w (endU 3 u) else zi0 w { u with next := zhk w u (xf w.G u.pos) })
 else zi0 w u
/-- What a unit on the field does in a tick. -/
noncomputable def ziq (w : Wld) (u : Unt) : Wld := if u.goal = -1 then zs7 w u else zpp w u
end Go.V
namespace Go.V
theorem wx {w : Wld} (hr : ye w.U) {i : Nat} (hi : i < w.U.length) {u : Unt} (hid : u.id = w.U[i].id) : putU w u = { w with U := w.U.set i u } := by
 unfold putU
 congr 1
 refine List.ext_getElem (by simp) fun j h1 h2 => ?_
 have hj : j < w.U.length := by simpa using h1
 rw [List.getElem_map, List.getElem_set]
 by_cases e : i = j
 ·subst e
  rw [if_pos hid.symm, if_pos rfl]
 ·rw [if_neg e, if_neg]
  intro hx
  rcases Nat.lt_or_gt_of_ne e with h | h
  ·have := qk hr h hj; omega
  ·have := qk hr h hi; omega
theorem zlo {w : Wld} (hr : ye w.U) {i : Nat} (hi : i < w.U.length) {u : Unt} (hid : u.id = w.U[i].id) : ∃ h2 : i < (putU w u).U.length, (putU w u).U[i] = u := by
 rw [wx hr hi hid]
 exact ⟨by simpa using hi, by simp⟩
theorem znc (w : Wld) (u : Unt) : (putU w u).U.length = w.U.length := by simp [putU]
theorem yiv {w : Wld} (hr : ye w.U) {i : Nat} (hi : i < w.U.length) {u : Unt} (hid : u.id = w.U[i].id) {j : Nat} (hj : j < w.U.length) (hij : j ≠ i) : (putU w u).U[j]'(by rw [znc]; exact hj) = w.U[j] := by
 have h := wx hr hi hid
 have : (putU w u).U = w.U.set i u := by rw [h]
 simp only [this]
 rw [List.getElem_set, if_neg (Ne.symm hij)]
/-- New orders. -/
theorem yi4 {w : Wld} (hm : mayP w) {i : Nat} (hi : i < w.U.length) (h0 : w.U[i].inn = 0) {u : Unt} (h1 : mvG 0 u = mvG 0 w.U[i]) (h2 : untP w u) : mayP (putU w u) := by
 have hid : u.id = w.U[i].id := (zjn h1).1
 rw [wx hm.1.2.1 hi hid]
 have get : ∀ j, (hj : j < w.U.length) → (w.U.set i u)[j]'(by simpa using hj) = if i = j then u else w.U[j] := fun j hj => List.getElem_set ..
 refine zo9 hm (by simp) (fun j hj => ?_) (fun j hj hn => ?_) (fun j hj => ?_)
 ·rw [get j hj]
  split
  ·rename_i e; subst e; exact h1
  ·rfl
 ·rw [get j hj]
  split
  ·rename_i e; subst e; exact absurd h0 hn
  ·rfl
 ·rw [get j hj]
  split
  ·exact h2
  ·exact (hm.1.2.2 _ (List.getElem_mem hj)).1
theorem wq {w : Wld} {u : Unt} {v : Vc} : ∀ (n k : Nat) {r : Nat × Vc}, tryL w u v n k = some r → yl w u.id u.kind r.2 ∧ (k ≤ r.1 ∧ r.1 < k + n) ∧ r.2 = vadd u.pos (x5 v r.1)
 | 0, k, r, h => by cases h
 | n + 1, k, r, h => by
  unfold tryL at h
  split at h
  ·cases h
  ·split at h
   ·cases h
    exact ⟨‹_›, by omega, rfl⟩
   ·obtain ⟨h1, h2, h3⟩ := wq n (k + 1) h
    exact ⟨h1, by omega, h3⟩
/-- A step. -/
theorem yi3 {w : Wld} (hm : mayP w) {i : Nat} (hi : i < w.U.length) (h0 : w.U[i].inn = 0) (v : Vc) : mayP (tryW w w.U[i] v) := by
 unfold tryW
 cases h : tryL w w.U[i] (vnrm v) 5 0 with
 | none => exact hm
 | some r =>
  obtain ⟨k, p⟩ := r
  dsimp only
  obtain ⟨h1, _, _⟩ := wq 5 0 h
  rw [wx (u := { w.U[i] with pos := p }) hm.1.2.1 hi rfl]
  have := zsq hm hi h1
  have e : ({ w.U[i] with pos := p, inn := 0 } : Unt) = { w.U[i] with pos := p } := by rw [← h0]
  rw [e] at this
  exact this
theorem yj5 {w : Wld} (hm : mayP w) {i : Nat} (hi : i < w.U.length) : untP w w.U[i] := (hm.1.2.2 _ (List.getElem_mem hi)).1
theorem yfm {w : Wld} {u : Unt} (h : untP w u) (hg : u.goal ≠ -1) {nx st : Int} (hn : vw w.G nx) (hs : 0 ≤ st ∧ st < 8) : untP w { u with next := nx, stuck := st } := by
 obtain ⟨⟨a1, a2, a3⟩, ⟨b1, b2, b3⟩, c, d⟩ := h
 exact ⟨⟨a1, a2, a3⟩, ⟨b1, hn, hs⟩, c, fun e => absurd e hg⟩
theorem ye8 {w : Wld} (hm : mayP w) {i : Nat} (hi : i < w.U.length) (h0 : w.U[i].inn = 0) : (0 ≤ w.U[i].pos.1 ∧ w.U[i].pos.1 < w.G.W * 65536) ∧ (0 ≤ w.U[i].pos.2 ∧ w.U[i].pos.2 < w.G.H * 65536) := by
 have := zno hm.1.1.2.1.1 (hm.2.1 _ (List.getElem_mem hi) h0).1
 have := this.1
 have := this.2
 omega
theorem yks {w : Wld} (hm : mayP w) {i : Nat} (hi : i < w.U.length) (h0 : w.U[i].inn = 0) : xf w.G w.U[i].pos < w.G.T.length := (ziu hm.1.1.2.1.1 (ye8 hm hi h0)).2.1
theorem zk8 {g : Gnd} (hg : gndP g) {t : Nat} (h : t < g.T.length) : vw g (t : Int) := .inr (by have := hg.2.2.1; omega)
theorem yj3 (g : Gnd) (ok : Nat → Bool) (c : Int) (d : Nat → Int) (t : Nat) : wayF g ok c d t = -1 ∨ ∃ way : Nat, way < 8 ∧ wayF g ok c d t = way ∧ 0 < yz g ok c t way := by
 unfold wayF
 split
 ·exact .inl rfl
 ·cases h : (List.range 8).find? fun way => decide (0 < yz g ok c t way ∧ 0 ≤ d (besN g t way).toNat ∧ yz g ok c t way + d (besN g t way).toNat = d t) with
  | none => exact .inl rfl
  | some way =>
   have h1 := List.mem_of_find?_eq_some h
   have h2 := List.find?_some h
   exact .inr ⟨way, by simpa using h1, rfl, (of_decide_eq_true h2).1⟩
theorem zo4 {w : Wld} (hg : gndP w.G) {u : Unt} {own : Nat} (ho : own < w.G.T.length) : vw w.G (zhk w u own) := by
 unfold zhk
 split
 ·exact zk8 hg ho
 ·dsimp only
  rcases yj3 w.G (okU w u) (kCls u.kind) (farF w.G (okU w u) (kCls u.kind) u.goal.toNat) own with h | ⟨way, h1, h2, _⟩
  ·rw [h, if_pos (by decide)]; exact .inl rfl
  ·rw [h2, if_neg (by omega)]
   rcases znw hg (t := own) (way := way) h1 with h3 | ⟨x, h3, h4⟩
   ·rw [Int.toNat_natCast, h3]; exact .inl rfl
   ·rw [Int.toNat_natCast, h3]; exact zk8 hg h4
end Go.V
namespace Go.V
theorem zd2 {a b : Int} (ha : 0 ≤ a) (h : a ≤ b) : a * a ≤ b * b := Int.mul_le_mul h h ha (by omega)
theorem ylh {p q : Int} (hp : 0 ≤ p) (h : p < q) : p * p < q * q :=
 Int.lt_of_le_of_lt (Int.mul_le_mul_of_nonneg_left (Int.le_of_lt h) hp) (Int.mul_lt_mul_of_pos_right h (by omega))
theorem mul4 (a b c d : Int) : a * b * (c * d) = a * c * (b * d) := by ac_rfl
theorem yla {x y m L s a b : Int} (hx : 0 ≤ x) (hy : 0 ≤ y) (hm : 0 ≤ m) (hmL : m < L) (hs : x * x + y * y < (L + 1) * (L + 1)) (ha : a = x * m / L) (hb : b = y * m / L) : a * a + b * b < (m + 1) * (m + 1) := by
 have hL : 0 < L := by omega
 have a1 : a * L ≤ x * m := by rw [ha]; exact Int.ediv_mul_le _ (by omega)
 have b1 : b * L ≤ y * m := by rw [hb]; exact Int.ediv_mul_le _ (by omega)
 have a0 : 0 ≤ a := by rw [ha]; exact Int.ediv_nonneg (Int.mul_nonneg hx hm) (by omega)
 have b0 : 0 ≤ b := by rw [hb]; exact Int.ediv_nonneg (Int.mul_nonneg hy hm) (by omega)
 have a2 := zd2 (Int.mul_nonneg a0 (by omega : (0:Int) ≤ L)) a1
 have b2 := zd2 (Int.mul_nonneg b0 (by omega : (0:Int) ≤ L)) b1
 have e1 : (a * a + b * b) * (L * L) = a * L * (a * L) + b * L * (b * L) := by
  rw [Int.add_mul, mul4 a a L L, mul4 b b L L]
 have e2 : x * m * (x * m) + y * m * (y * m) = (x * x + y * y) * (m * m) := by
  rw [Int.add_mul, mul4 x x m m, mul4 y y m m]
 have h1 : (a * a + b * b) * (L * L) ≤ (x * x + y * y) * (m * m) := by rw [e1, ← e2]; exact Int.add_le_add a2 b2
 refine Int.not_le.1 fun hle => ?_
 have h2 : (m + 1) * (m + 1) * (L * L) ≤ (x * x + y * y) * (m * m) := Int.le_trans (Int.mul_le_mul_of_nonneg_right hle (Int.mul_nonneg (by omega) (by omega))) h1
 have h3 : (x * x + y * y) * (m * m) ≤ ((L + 1) * (L + 1)) * (m * m) := Int.mul_le_mul_of_nonneg_right (by omega) (Int.mul_nonneg hm hm)
 have e3 : (m + 1) * (m + 1) * (L * L) = ((m + 1) * L) * ((m + 1) * L) := mul4 ..
 have e4 : ((L + 1) * (L + 1)) * (m * m) = ((L + 1) * m) * ((L + 1) * m) := mul4 ..
 have h4 : ((L + 1) * m) * ((L + 1) * m) < ((m + 1) * L) * ((m + 1) * L) := by
  have k1 : (L + 1) * m < (m + 1) * L := by
   rw [Int.add_mul, Int.add_mul, Int.mul_comm L m]; omega
  have k0 : 0 ≤ (L + 1) * m := Int.mul_nonneg (by omega) hm
  exact ylh k0 k1
 omega
/-- A way that is not great. -/
def vh (v : Vc) : Prop := (-1125899906842624 ≤ v.1 ∧ v.1 ≤ 1125899906842624) ∧ (-1125899906842624 ≤ v.2 ∧ v.2 ≤ 1125899906842624)
theorem jm {v : Vc} (h : vh v) : sqr v = v.1 * v.1 + v.2 * v.2 ∧ vnrm v = v ∧ 0 ≤ sqr v ∧ sqr v < (kj (sqr v) + 1) * (kj (sqr v) + 1) := by
 obtain ⟨h1, h2⟩ := h
 have e : sqr v = v.1 * v.1 + v.2 * v.2 := by unfold sqr; rw [zny (by omega), zny (by omega)]
 have p1 : 0 ≤ v.1 * v.1 := by rcases Int.le_total 0 v.1 with h | h; exact Int.mul_nonneg h h; rw [← Int.neg_mul_neg]; exact Int.mul_nonneg (by omega) (by omega)
 have p2 : 0 ≤ v.2 * v.2 := by rcases Int.le_total 0 v.2 with h | h; exact Int.mul_nonneg h h; rw [← Int.neg_mul_neg]; exact Int.mul_nonneg (by omega) (by omega)
 have b : ∀ x : Int, -1125899906842624 ≤ x ∧ x ≤ 1125899906842624 → x * x ≤ 1125899906842624 * 1125899906842624 := fun x hx => by
  rcases Int.le_total 0 x with h | h
  ·exact zd2 h hx.2
  ·rw [← Int.neg_mul_neg]; exact zd2 (by omega) (by omega)
 have b1 := b _ h1
 have b2 := b _ h2
 have h0 : 0 ≤ sqr v := by omega
 refine ⟨e, ?_, h0, ?_⟩
 ·unfold vnrm; rw [qe (by omega), qe (by omega)]
 ·obtain ⟨r0, r1, r2, r3⟩ := zb7 h0
  rcases r3 with r3 | r3
  ·rw [r3] at r2; omega
  ·exact r3
theorem zg4 (x : Int) : x * x = (x.natAbs : Int) * x.natAbs := by rw [← Int.natCast_mul, Int.natAbs_mul_self]
theorem zh4 {c m L : Int} (hm : 0 ≤ m) (hL : 0 < L) : ((cutC c m L).natAbs : Int) = (c.natAbs : Int) * m / L := by
 have q : ∀ z : Int, 0 ≤ z → 0 ≤ z * m / L := fun z hz => Int.ediv_nonneg (Int.mul_nonneg hz hm) (by omega)
 unfold cutC
 split
 ·have := q (-c) (by omega)
  rw [show (c.natAbs : Int) = -c by omega]; omega
 ·have := q c (by omega)
  rw [show (c.natAbs : Int) = c by omega]; omega
theorem zbt {c m L : Int} (hm : 0 ≤ m) (hmL : m < L) : (cutC c m L).natAbs ≤ c.natAbs := by
 have h1 := zh4 (c := c) hm (show 0 < L by omega)
 have h2 : (c.natAbs : Int) * m / L ≤ c.natAbs := by
  have : (c.natAbs : Int) * m ≤ c.natAbs * L := Int.mul_le_mul_of_nonneg_left (by omega) (by omega)
  exact Int.le_trans (Int.ediv_le_ediv (by omega) this) (by rw [Int.mul_ediv_cancel _ (by omega)]; exact Int.le_refl _)
 omega
/-- A way that is cut is not longer. -/
theorem zkm {v : Vc} {m : Int} (hs : vh v) (hm : 0 ≤ m) : vh (qx v m) ∧ (qx v m).1 * (qx v m).1 + (qx v m).2 * (qx v m).2 < (m + 1) * (m + 1) := by
 obtain ⟨e, en, h0, h1⟩ := jm hs
 have hmx : max m 0 = m := by omega
 have n1 : nrm v.1 = v.1 := congrArg Prod.fst en
 have n2 : nrm v.2 = v.2 := congrArg Prod.snd en
 have r0 := (zb7 h0).1
 unfold qx
 rw [hmx]
 split
 ·rename_i hle
  rw [en]
  refine ⟨hs, ?_⟩
  have := zd2 (show 0 ≤ kj (sqr v) + 1 by omega) (show kj (sqr v) + 1 ≤ m + 1 by omega)
  omega
 ·rename_i hgt
  rw [n1, n2]
  have hmL : m < kj (sqr v) := by omega
  have c1 := zbt (c := v.1) hm hmL
  have c2 := zbt (c := v.2) hm hmL
  refine ⟨?_, ?_⟩
  ·unfold vh at hs ⊢
   dsimp only
   omega
  ·dsimp only
   rw [zg4 (cutC v.1 _ _), zg4 (cutC v.2 _ _)]
   refine yla (s := 0) (x := v.1.natAbs) (y := v.2.natAbs) (by omega) (by omega) hm hmL ?_ (zh4 hm (by omega)) (zh4 hm (by omega))
   rw [← zg4, ← zg4]
   omega
theorem znn (x : Int) (k : Nat) : (x.tdiv (2 ^ k : Nat)).natAbs ≤ x.natAbs := by
 rw [Int.natAbs_tdiv]
 exact Nat.div_le_self _ _
/-- A place of a map. -/
def mapV (p : Vc) : Prop := (0 ≤ p.1 ∧ p.1 ≤ 8388608) ∧ (0 ≤ p.2 ∧ p.2 ≤ 8388608)
theorem zcj {a b : Int} (ha : -2251799813685248 ≤ a ∧ a ≤ 2251799813685248) (hb : -2251799813685248 ≤ b ∧ b ≤ 2251799813685248) : fadd a b = a + b := by
 unfold fadd xo
 rw [qe (by omega), qe (by omega), if_neg (by omega), if_neg (by omega)]
theorem zih {p q : Vc} (hp : mapV p) (hq : mapV q) : vsub q p = (q.1 - p.1, q.2 - p.2) ∧ vh (vsub q p) := by
 obtain ⟨p1, p2⟩ := hp
 obtain ⟨q1, q2⟩ := hq
 have e := zft (a := q) (b := p) (by omega) (by omega) (by omega) (by omega)
 refine ⟨e, ?_⟩
 rw [e]
 unfold vh
 dsimp only
 omega
/-- What one pushes another one is not great. -/
theorem zgc {p q : Vc} (hp : mapV p) (hq : mapV q) {r : Int} (hr : 0 < r) : -16777216 ≤ (zas p r q).1 ∧ (zas p r q).1 ≤ 16777216 ∧ -16777216 ≤ (zas p r q).2 ∧ (zas p r q).2 ≤ 16777216 := by
 obtain ⟨e, hs⟩ := zih hq hp
 unfold zas
 split
 ·rename_i hn
  generalize hm : r - kj (sqr (vsub p q)) = m
  have hv : ∀ w : Vc, vh w → (w.1.natAbs ≤ 16777216 ∧ w.2.natAbs ≤ 16777216) → -16777216 ≤ (qx w m).1 ∧ (qx w m).1 ≤ 16777216 ∧ -16777216 ≤ (qx w m).2 ∧ (qx w m).2 ≤ 16777216 := by
   intro w hw hb
   obtain ⟨_, en, _, _⟩ := jm hw
   have n1 : nrm w.1 = w.1 := congrArg Prod.fst en
   have n2 : nrm w.2 = w.2 := congrArg Prod.snd en
   unfold qx
   split
   ·rw [en]; omega
   ·rename_i hgt
    rw [n1, n2]
    have c1 := zbt (c := w.1) (m := max m 0) (L := kj (sqr w)) (by omega) (by omega)
    have c2 := zbt (c := w.2) (m := max m 0) (L := kj (sqr w)) (by omega) (by omega)
    dsimp only
    omega
  obtain ⟨p1, p2⟩ := hp
  obtain ⟨q1, q2⟩ := hq
  split
  ·exact hv _ (by unfold vh; decide) (by decide)
  ·refine hv _ hs ?_
   rw [e]
   dsimp only
   omega
 ·decide
end Go.V
namespace Go.V
theorem zr2 (w : Wld) {a b : Unt} (h : a.id = b.id) : putU (putU w a) b = putU w b := by
 unfold putU
 simp only [List.map_map]
 congr 1
 refine List.map_congr_left fun x _ => ?_
 simp only [Function.comp]
 by_cases e : x.id = a.id
 ·rw [if_pos e, if_pos h, if_pos (e.trans h)]
 ·rw [if_neg e]
theorem zq4 (k : Int) : 8192 ≤ j7 k ∧ j7 k ≤ 24576 := by unfold j7; split <;> (try split) <;> (try split) <;> omega
theorem zni {w : Wld} (hm : mayP w) {u : Unt} (hu : u ∈ w.U) (h0 : u.inn = 0) : mapV u.pos := by
 have := zno hm.1.1.2.1.1 (hm.2.1 u hu h0).1
 unfold mapV
 omega
theorem yjn {g : Gnd} (hg : gndP g) {t : Nat} (ht : t < g.T.length) : mapV (cenV g t) := by
 obtain ⟨⟨h1, h2⟩, ⟨h3, h4⟩, h5, _⟩ := hg
 have a := Int.emod_nonneg (t : Int) (show g.W ≠ 0 by omega)
 have b := Int.emod_lt_of_pos (t : Int) (show 0 < g.W by omega)
 have c : 0 ≤ (t : Int) / g.W := Int.ediv_nonneg (by omega) (by omega)
 have d : (t : Int) / g.W < g.H := Int.ediv_lt_of_lt_mul (by omega) (by rw [Int.mul_comm]; omega)
 unfold mapV cenV tx ty
 dsimp only
 omega
end Go.V
namespace Go.V
def atD (d : List Int) (u : Nat) : Int := d.getD u (-1)
def zns (g : Gnd) (ok : Nat → Bool) (c : Int) (goal : Nat) (d : List Int) : Bool :=
 decide (d.length = g.T.length) && d.all (fun x => decide (x = -1 ∨ 0 ≤ x)) && decide (atD d goal = 0) &&
 (List.range g.T.length).all (fun u => decide (u = goal) || decide (atD d u < 0) || (ok u && (List.range g.T.length).any fun t => ok t && decide (0 ≤ atD d t) && (List.range 8).any fun way =>
  decide (besN g t way = u) && decide (0 < yz g ok c t way) && decide (atD d t + yz g ok c t way ≤ atD d u))) &&
 (List.range g.T.length).all (fun t => decide (atD d t < 0) || !ok t || (List.range 8).all fun way => decide (yz g ok c t way ≤ 0) ||
  (decide (0 ≤ atD d (besN g t way).toNat) && decide (atD d (besN g t way).toNat ≤ atD d t + yz g ok c t way)))
theorem ztr {g : Gnd} {ok : Nat → Bool} {c : Int} {goal : Nat} {d : List Int} (h : zns g ok c goal d = true) : FarOK (wn g ok c) goal (atD d) := by
 unfold zns at h
 simp only [Bool.and_eq_true, decide_eq_true_eq, List.all_eq_true, List.any_eq_true, Bool.or_eq_true, Bool.not_eq_true', List.mem_range] at h
 obtain ⟨⟨⟨⟨h1, h2⟩, h3⟩, h4⟩, h5⟩ := h
 have out : ∀ u, g.T.length ≤ u → atD d u = -1 := fun u hu => by
  unfold atD
  rw [List.getD_eq_getElem?_getD, List.getElem?_eq_none (by omega)]
  rfl
 refine ⟨fun u => ?_, h3, fun u hu hl => ?_, fun t u k ht hE => ?_⟩
 ·by_cases hu : u < g.T.length
  ·have hd : u < d.length := by omega
   have : atD d u = d[u] := by unfold atD; rw [List.getD_eq_getElem?_getD, List.getElem?_eq_getElem hd]; rfl
   rw [this]
   exact h2 _ (List.getElem_mem hd)
  ·exact .inl (out u (by omega))
 ·have hun : u < g.T.length := by
   apply Decidable.byContradiction
   intro hx
   rw [out u (by omega)] at hl
   omega
  rcases h4 u hun with (h6 | h6) | ⟨h6, t, htn, ⟨h7, h8⟩, way, hw, ⟨h9, h10⟩, h11⟩
  ·exact absurd h6 hu
  ·omega
  ·exact ⟨t, yz g ok c t way, h8, ⟨h7, htn, way, hw, h9, h6, rfl, h10⟩, h11⟩
 ·obtain ⟨hok, htn, way, hw, hb, hok2, hk, hp⟩ := hE
  rcases h5 t htn with (h6 | h6) | h6
  ·omega
  ·rw [hok] at h6; cases h6
  ·rcases h6 way hw with h7 | ⟨h7, h8⟩
   ·omega
   ·rw [hb, Int.toNat_natCast] at h7 h8
    rw [hk]
    exact ⟨h7, h8⟩
theorem yef {g : Gnd} {ok : Nat → Bool} {c : Int} {goal : Nat} (hok : ok goal = true) {d : List Int} (h : zns g ok c goal d = true) : farF g ok c goal = atD d := ztq hok (ztr h)
/-- The next tile, as its costs are told. -/
def ykw (w : Wld) (u : Unt) (own : Nat) (d : Nat → Int) : Int :=
 if u.pos ≠ cenV w.G own then own else
  (let way := if d own ≤ 0 then -1 else match (List.range 8).find? fun way => decide (0 < yz w.G (okU w u) (kCls u.kind) own way ∧ 0 ≤ d (besN w.G own way).toNat ∧ yz w.G (okU w u) (kCls u.kind) own way + d (besN w.G own way).toNat = d own) with
   | some way => (way : Int)
   | none => -1
   if way < 0 then -1 else besN w.G own way.toNat)
def ylp (w : Wld) (u : Unt) (d : Nat → Int) : Wld :=
 if u.pos = cenV w.G u.goal.toNat then putU w (endU 2 u)
 else if zel w u (xf w.G u.pos) then
  (if ykw w u (xf w.G u.pos) d < 0 then putU w (endU 3 u) else zi0 w { u with next := ykw w u (xf w.G u.pos) d })
 else zi0 w u
def yj7 (w : Wld) (u : Unt) (d : Nat → Int) : Wld := if u.goal = -1 then zs7 w u else ylp w u d
theorem yj6 {w : Wld} {u : Unt} {d : Nat → Int} (h : farF w.G (okU w u) (kCls u.kind) u.goal.toNat = d) : ziq w u = yj7 w u d := by
 subst h
 rfl
end Go.V
namespace Go.V
theorem zoz {l : List (Int × Int)} (h : k5 l) (x : Int × Int) : UpF (qat (l ++ [x])) (l ++ [x]).length l.length := by
 have h2 : zmu (qat (l ++ [x])) l.length := fun j h0 hj => by
  rw [zgb l x j hj, zgb l x (par j) (by have := j5 h0; omega)]
  exact h j h0 hj
 have := yfk h2
 simpa using this
theorem zow {l : List (Int × Int)} {i : Nat} (h : UpF (qat l) l.length i) (h0 : 0 < i) (hi : i < l.length) (hl : qlt (qat l i) (qat l (par i))) :
  UpF (qat (kp l i (par i))) (kp l i (par i)).length (par i) ∧ (kp l i (par i)).Perm l := by
 have hp := j5 h0
 rw [znb hi (by omega), ko]
 exact ⟨yfj h h0 hi hl, zf4 hi (by omega)⟩
theorem zga {l : List (Int × Int)} {i : Nat} (h : UpF (qat l) l.length i) (hi : i = 0 ∨ ¬ qlt (qat l i) (qat l (par i))) : k5 l := yfl h hi
theorem zoy (l : List (Int × Int)) (x : Int × Int) : (l ++ [x]).Perm (x :: l) := List.perm_append_singleton x l
/-- The last one comes to the top. -/
theorem zrw {l : List (Int × Int)} {n : Nat} (hl : l.length = n + 1) : l.Perm (qat l 0 :: (l.set 0 (qat l n)).take n) := by
 obtain ⟨a, t, rfl⟩ : ∃ a t, l = a :: t := by
  cases l with
  | nil => simp at hl
  | cons a t => exact ⟨a, t, rfl⟩
 simp only [List.length_cons, Nat.add_right_cancel_iff] at hl
 have e0 : qat (a :: t) 0 = a := rfl
 rw [e0]
 refine List.Perm.cons a ?_
 cases n with
 | zero =>
  have : t = [] := List.eq_nil_of_length_eq_zero hl
  subst this
  simp
 | succ n =>
  have e1 : qat (a :: t) (n + 1) = t[n]'(by omega) := by
   rw [zjf (by simp; omega)]
   rfl
  rw [e1]
  show t.Perm ((t[n]'(by omega) :: t).take (n + 1))
  rw [List.take_succ_cons]
  have e2 : t = t.take n ++ [t[n]'(by omega)] := by
   have h1 := List.take_append_drop n t
   have h2 : t.drop n = [t[n]'(by omega)] := by
    rw [List.drop_eq_getElem_cons (by omega), List.drop_eq_nil_of_le (by omega)]
   rw [h2] at h1
   exact h1.symm
  exact (List.Perm.of_eq e2).trans (List.perm_append_singleton _ _)
theorem zrx {l : List (Int × Int)} {n : Nat} (hl : l.length = n + 1) (h : k5 l) : zie (qat ((l.set 0 (qat l n)).take n)) ((l.set 0 (qat l n)).take n).length 0 := by
 have hlen : ((l.set 0 (qat l n)).take n).length = n := by simp; omega
 rw [hlen]
 have h2 : zmu (qat l) (n + 1) := by rw [← hl]; exact h
 have key : ∀ j, 0 < j → j < n → qat ((l.set 0 (qat l n)).take n) j = qat l j := fun j h0 hj => by
  unfold qat
  simp only [List.getD, List.getElem?_take_of_lt hj]
  rw [List.getElem?_set_ne (by omega)]
 refine ⟨fun j h0 hj hp => ?_, fun j h0 hj hp h1 => by omega⟩
 rw [key j h0 hj, key (par j) (by omega) (by have := j5 h0; omega)]
 exact h2 j h0 (by omega)
theorem ydq {l : List (Int × Int)} (h : k5 l) : ∀ e ∈ l, ¬ qlt e (qat l 0) := fun e he => by
 obtain ⟨j, hj, rfl⟩ := List.getElem_of_mem he
 rw [← zjf hj]
 exact yd5 h j hj
theorem zry {l : List (Int × Int)} {i : Nat} (h : zie (qat l) l.length i) (hc : l.length ≤ 2 * i + 1) : k5 l :=
 zke h fun j h0 hj hp => by
  rcases (v6 h0).1 hp with e | e <;> omega
/-- The lesser child k. -/
theorem zeg {l : List (Int × Int)} {i k : Nat} (h : zie (qat l) l.length i) (hk : ∀ j, 0 < j → j < l.length → par j = i → ¬ qlt (qat l j) (qat l k)) (hs : ¬ qlt (qat l k) (qat l i)) : k5 l :=
 zke h fun j h0 hj hp => zbh hs (hk j h0 hj hp)
theorem zeh {l : List (Int × Int)} {i k : Nat} (h : zie (qat l) l.length i) (hk0 : 0 < k) (hk : k < l.length) (hki : par k = i) (hmin : ∀ j, 0 < j → j < l.length → par j = i → ¬ qlt (qat l j) (qat l k)) (hl : qlt (qat l k) (qat l i)) :
  zie (qat (kp l i k)) (kp l i k).length k ∧ (kp l i k).Perm l := by
 have hp := j5 hk0
 rw [znb (by omega) hk, ko]
 exact ⟨zty h hk0 hk hki hmin hl, zf4 (by omega) hk⟩
theorem ze2 {f : Nat → Int × Int} {n i k : Nat} (hk : k = 2 * i + 1 ∧ (2 * i + 2 < n → ¬ qlt (f (2 * i + 2)) (f (2 * i + 1))) ∨ k = 2 * i + 2 ∧ qlt (f (2 * i + 2)) (f (2 * i + 1))) : ∀ j, 0 < j → j < n → par j = i → ¬ qlt (f j) (f k) := by
 intro j h0 hj hp
 rcases (v6 h0).1 hp with e | e
 ·subst e
  rcases hk with ⟨rfl, _⟩ | ⟨rfl, h2⟩
  ·exact zln _
  ·exact zdf h2
 ·subst e
  rcases hk with ⟨rfl, h1⟩ | ⟨rfl, h2⟩
  ·exact h1 hj
  ·exact zln _
end Go.V
namespace Go.V
def sumN : Nat → (Nat → Nat) → Nat
 | 0, _ => 0
 | n + 1, f => sumN n f + f n
theorem zb4 {f g : Nat → Nat} : ∀ n, (∀ t, t < n → f t = g t) → sumN n f = sumN n g
 | 0, _ => rfl
 | n + 1, h => by
  show sumN n f + f n = sumN n g + g n
  rw [zb4 n (fun t ht => h t (by omega)), h n (by omega)]
theorem zla {f g : Nat → Nat} : ∀ n, (∀ t, t < n → f t ≤ g t) → sumN n f ≤ sumN n g
 | 0, _ => Nat.le_refl _
 | n + 1, h => by
  show sumN n f + f n ≤ sumN n g + g n
  have := zla n (fun t ht => h t (by omega))
  have := h n (by omega)
  omega
theorem zb3 (c : Nat) : ∀ n, sumN n (fun _ => c) = n * c
 | 0 => by simp [sumN]
 | n + 1 => by
  show sumN n (fun _ => c) + c = _
  rw [zb3 c n, Nat.succ_mul]
/-- One place is another. -/
theorem zhf {f g : Nat → Nat} {u : Nat} : ∀ n, u < n → (∀ t, t < n → t ≠ u → f t = g t) → sumN n f + g u = sumN n g + f u
 | 0, hu, _ => by omega
 | n + 1, hu, h => by
  show sumN n f + f n + g u = sumN n g + g n + f u
  by_cases e : u = n
  ·subst e
   rw [zb4 u (fun t ht => h t (by omega) (by omega))]
   omega
  ·have := zhf (f := f) (g := g) n (by omega) (fun t ht hne => h t (by omega) hne)
   have := h n (by omega) (Ne.symm e)
   omega
/-- How many are told. -/
def zdx (n : Nat) (d : Nat → Int) : Nat := sumN n fun t => if 0 ≤ d t then 1 else 0
theorem yfp (n : Nat) (d : Nat → Int) : zdx n d ≤ n := by
 have := zla (f := fun t => if 0 ≤ d t then 1 else 0) (g := fun _ => 1) n (fun t _ => by split <;> omega)
 rw [zb3] at this
 unfold zdx
 omega
theorem zu3 {n : Nat} {d : Nat → Int} {u : Nat} (hu : u < n) (h : d u < 0) {x : Int} (hx : 0 ≤ x) : zdx n (updN d u x) = zdx n d + 1 := by
 have := zhf (f := fun t => if 0 ≤ updN d u x t then 1 else 0) (g := fun t => if 0 ≤ d t then 1 else 0) n hu (fun t _ hne => by simp only [yr hne])
 simp only [yn, if_pos hx, if_neg (show ¬ 0 ≤ d u by omega)] at this
 unfold zdx
 omega
theorem zu2 {n : Nat} {d : Nat → Int} {u : Nat} (h : 0 ≤ d u) {x : Int} (hx : 0 ≤ x) : zdx n (updN d u x) = zdx n d := by
 unfold zdx
 refine zb4 n fun t _ => ?_
 by_cases e : t = u
 ·subst e; rw [yn, if_pos hx, if_pos h]
 ·rw [yr e]
/-- Costs stay small. -/
def zmh (n : Nat) (d : Nat → Int) : Prop := ∀ t, d t ≤ 84 * (zdx n d : Int) - 84 ∨ d t < 0
theorem zp2 {n goal : Nat} (hg : goal < n) {d : Nat → Int} (hd : ∀ u, d u = if u = goal then 0 else -1) : zmh n d := by
 intro t
 have h1 : 1 ≤ zdx n d := by
  have := zhf (f := fun t => if 0 ≤ d t then 1 else 0) (g := fun t => if t = goal then 0 else if 0 ≤ d t then 1 else 0) n hg (fun t _ hne => by rw [if_neg hne])
  have h0 : (if 0 ≤ d goal then 1 else 0) = 1 := by rw [hd, if_pos rfl]; rfl
  simp only [if_true, h0] at this
  unfold zdx
  omega
 rw [hd]
 split
 ·left; omega
 ·right; omega
theorem zgt {n : Nat} {d : Nat → Int} (h : zmh n d) {t u : Nat} {c : Int} (hu : u < n) (ht : 0 ≤ d t) (hc : 0 < c ∧ c ≤ 84) (hl : d u < 0 ∨ d t + c < d u) : zmh n (updN d u (d t + c)) := by
 have hdt := h t
 by_cases hn : d u < 0
 ·have e := zu3 (n := n) hu hn (show 0 ≤ d t + c by omega)
  intro v
  rw [e]
  by_cases ev : v = u
  ·subst ev; rw [yn]; omega
  ·rw [yr ev]
   have := h v
   omega
 ·have e := zu2 (n := n) (d := d) (u := u) (by omega) (show 0 ≤ d t + c by omega)
  intro v
  rw [e]
  by_cases ev : v = u
  ·subst ev; rw [yn]
   have := h v
   omega
  ·rw [yr ev]; exact h v
theorem zh5 {n : Nat} {d : Nat → Int} (h : zmh n d) (t : Nat) : d t ≤ 84 * (n : Int) := by
 have := h t
 have := yfp n d
 omega
/-- How many are not done. -/
def zei (n : Nat) (dn : Nat → Bool) : Nat := sumN n fun t => if dn t then 0 else 1
theorem zr7 {n : Nat} {dn : Nat → Bool} {t : Nat} (ht : t < n) (h : dn t = false) : zei n (updN dn t true) + 1 = zei n dn := by
 have := zhf (f := fun v => if updN dn t true v = true then 0 else 1) (g := fun v => if dn v = true then 0 else 1) n ht (fun v _ hne => by simp only [yr hne])
 simp only [yn, h, if_true, Bool.false_eq_true, if_false] at this
 unfold zei
 omega
end Go.V
namespace Go.V
def itC (x : Int × Int) : List AV := [int x.1, int x.2]
theorem zaw (x : Int × Int) : (itC x).length = 2 := rfl
structure QAt (F : Store) (p b cap : Nat) (l : List (Int × Int)) (L : List AV) : Prop where
 hp : F.obj p = some (.cells [.s (.slice (some ⟨b, 0, none⟩) l.length cap)])
 hb : F.obj b = some (.cells ((rws itC l).flatten ++ L))
 ne : b ≠ p
 h1 : l.length ≤ cap
 h2 : cap * 2 ≤ l.length * 2 + L.length
 h3 : cap ≤ 9223372036854775807
def QOf (F : Store) (p : Nat) (l : List (Int × Int)) : Prop := (F.obj p = some (.cells [.s (.slice none 0 0)]) ∧ l = []) ∨ ∃ b cap L, QAt F p b cap l L
theorem QOf.rows {F : Store} {p : Nat} {l : List (Int × Int)} (h : QOf F p l) : ∃ v, F.obj p = some (.cells [v]) ∧ RowsO 2 itC F v l ∧ ∀ b c0, v = .s (.slice (some ⟨b, 0, none⟩) l.length c0) → b ≠ p := by
 rcases h with ⟨h, rfl⟩ | ⟨b, cap, L, h⟩
 ·exact ⟨_, h, .inl ⟨rfl, rfl⟩, fun b c0 e => by simp at e⟩
 ·refine ⟨_, h.hp, .inr ⟨b, cap, L, rfl, h.hb, h.h1, h.h2, h.h3⟩, fun b' c0 e => ?_⟩
  simp only [AV.s.injEq, Value.slice.injEq, Option.some.injEq, Addr.mk.injEq] at e
  exact e.1.1 ▸ h.ne
theorem QOf.pos {F : Store} {p : Nat} {l : List (Int × Int)} (h : QOf F p l) (hl : 0 < l.length) : ∃ b cap L, QAt F p b cap l L := by
 rcases h with ⟨h, rfl⟩ | h
 ·exact absurd hl (Nat.lt_irrefl 0)
 ·exact h
/-- One element is written. -/
theorem zsy {l : List (Int × Int)} {i : Nat} (hi : i < l.length) (x : Int × Int) (L : List AV) : zn ((rws itC l).flatten ++ L) (0 + i * 2) (itC x) = (rws itC (l.set i x)).flatten ++ L := by
 have := zd4 (f := itC) (k := 2) zaw hi (j := 0) (x' := x) (ys := itC x) (L := L) (by show 0 + 2 ≤ 2; omega) (by
  unfold zn
  rw [zaw]
  rfl)
 rw [Nat.add_zero] at this
 rw [Nat.zero_add]
 exact this
theorem y3 {l : List (Int × Int)} {L : List AV} {i : Nat} (hi : i < l.length) : List.drop (0 + i * 2) ((rws itC l).flatten ++ L) = itC (qat l i) ++ ((rws itC (l.drop (i + 1))).flatten ++ L) := by
 have h1 : (rws itC (l.take i)).flatten.length = i * 2 := by rw [qc zaw, List.length_take, Nat.min_eq_left (by omega)]
 rw [Nat.zero_add, zbd hi, List.append_assoc, ← h1, List.drop_left, List.append_assoc, zjf hi]
theorem k8 {l : List (Int × Int)} {L : List AV} {i : Nat} (hi : i < l.length) (x : Int × Int) : 0 + i * 2 + (itC x).length ≤ ((rws itC l).flatten ++ L).length := by
 rw [List.length_append, qc zaw, zaw]
 omega
theorem QAt.set {F : Store} {p b cap : Nat} {l : List (Int × Int)} {L : List AV} (h : QAt F p b cap l L) {i : Nat} (hi : i < l.length) (x : Int × Int) : QAt (F.setObj b (.cells (zn ((rws itC l).flatten ++ L) (0 + i * 2) (itC x)))) p b cap (l.set i x) L := by
 rw [zsy hi]
 exact ⟨by rw [zf (Ne.symm h.ne), List.length_set]; exact h.hp, zb _ _ _, h.ne, by rw [List.length_set]; exact h.h1, by rw [List.length_set]; exact h.h2, h.h3⟩
/-- The last one is cut off. -/
theorem QAt.cut {F : Store} {p b cap : Nat} {l : List (Int × Int)} {L : List AV} (h : QAt F p b cap l L) {n : Nat} (hn : n ≤ l.length) : QAt (F.setObj p (.cells [.s (.slice (some ⟨b, 0, none⟩) n cap)])) p b cap (l.take n) ((rws itC (l.drop n)).flatten ++ L) := by
 have e : (rws itC (l.take n)).flatten ++ ((rws itC (l.drop n)).flatten ++ L) = (rws itC l).flatten ++ L := by
  rw [← List.append_assoc, ← vy, List.take_append_drop]
 have hl : (l.take n).length = n := by rw [List.length_take]; omega
 refine ⟨by rw [zb, hl], by rw [zf h.ne, e]; exact h.hb, h.ne, by rw [hl]; have := h.h1; omega, ?_, h.h3⟩
 have := h.h2
 rw [hl, List.length_append, qc zaw, List.length_drop]
 omega
end Go.V
namespace Go.V
def zac (v : Int) (k : Nat) (t : Nat) : Int := if t < k then v else 0
theorem zov {n k m : Nat} {v : Int} (hk : m ≤ k) (hn : k + m ≤ n) : zn (il n (zac v k)) (0 + k * 1) ((List.drop (0 + 0 * 1) (il n (zac v k))).take (m * 1)) = il n (zac v (k + m)) := by
 have e : (List.drop (0 + 0 * 1) (il n (zac v k))).take (m * 1) = List.replicate m (int v) := by
  rw [show 0 + 0 * 1 = 0 from rfl, List.drop_zero, Nat.mul_one]
  apply List.ext_getElem
  ·rw [List.length_take, yw, List.length_replicate]; omega
  ·intro i h1 h2
   rw [List.length_replicate] at h2
   rw [List.getElem_take, List.getElem_replicate]
   simp only [il, List.getElem_map, List.getElem_range]
   rw [zac, if_pos (by omega)]
 rw [e]
 unfold zn
 rw [List.length_replicate, show 0 + k * 1 = k by omega]
 apply List.ext_getElem?
 intro i
 by_cases h1 : i < k
 ·rw [List.append_assoc, List.getElem?_append_left (by rw [List.length_take, yw]; omega), List.getElem?_take_of_lt h1, wh (by omega), wh (by omega), zac, zac, if_pos h1, if_pos (by omega)]
 ·by_cases h2 : i < k + m
  ·rw [List.append_assoc, List.getElem?_append_right (by rw [List.length_take, yw]; omega), List.length_take, yw, List.getElem?_append_left (by rw [List.length_replicate]; omega), List.getElem?_replicate, if_pos (by omega), wh (by omega), zac, if_pos h2]
  ·rw [List.getElem?_append_right (by rw [List.length_append, List.length_take, yw, List.length_replicate]; omega), List.length_append, List.length_take, yw, List.length_replicate, List.getElem?_drop, show k + m + (i - (min k n + m)) = i by omega]
   by_cases h3 : i < n
   ·rw [wh h3, wh h3, zac, zac, if_neg h1, if_neg h2]
   ·rw [List.getElem?_eq_none (by rw [yw]; omega), List.getElem?_eq_none (by rw [yw]; omega)]
theorem yk0 (n : Nat) (v : Int) : il n (zac v n) = il n fun _ => v := zbo fun t ht => if_pos ht
/-- A tile's neighbours, in an array. -/
def besV (g : Gnd) (t : Nat) : AV := .agg (il 8 (besN g t))
def ze7 (g : Gnd) (t i : Nat) (j : Nat) : Int := if j < i then besN g t j else 0
theorem zue (g : Gnd) (t : Nat) : il 8 (ze7 g t 8) = il 8 (besN g t) := zbo fun j hj => if_pos hj
theorem yjr (g : Gnd) (t : Nat) {i : Nat} (hi : i < 8) : besN g t i = zej g ((t : Int) % g.W) ((t : Int) / g.W) (dirL.getD i (0, 0)) := by
 unfold besN zfj
 rw [List.getD_eq_getElem?_getD, List.getElem?_map, List.getD_eq_getElem?_getD, List.getElem?_eq_getElem (show i < dirL.length from hi)]
 rfl
theorem zud (g : Gnd) (t : Nat) {i : Nat} (v : Int) (hv : v = besN g t i) : setI (ze7 g t i) i v = ze7 g t (i + 1) := funext fun j => by
 unfold setI ze7
 by_cases h : j = i
 ·subst h
  rw [if_pos rfl, if_pos (by omega), hv]
 ·rw [if_neg h]
  by_cases h2 : j < i
  ·rw [if_pos h2, if_pos (by omega)]
  ·rw [if_neg h2, if_neg (by omega)]
def dirC : List AV := (dirL.map wayC).flatten
theorem yei {i : Nat} (hi : i < 8) : dirC.drop (i * 2) = wayC (dirL.getD i (0, 0)) ++ dirC.drop (i * 2 + 2) := by
 have h : i = 0 ∨ i = 1 ∨ i = 2 ∨ i = 3 ∨ i = 4 ∨ i = 5 ∨ i = 6 ∨ i = 7 := by omega
 rcases h with rfl | rfl | rfl | rfl | rfl | rfl | rfl | rfl <;> rfl
theorem yls {i : Nat} (hi : i < 8) : (-1 ≤ (dirL.getD i (0, 0)).1 ∧ (dirL.getD i (0, 0)).1 ≤ 1) ∧ -1 ≤ (dirL.getD i (0, 0)).2 ∧ (dirL.getD i (0, 0)).2 ≤ 1 := by
 have h : i = 0 ∨ i = 1 ∨ i = 2 ∨ i = 3 ∨ i = 4 ∨ i = 5 ∨ i = 6 ∨ i = 7 := by omega
 rcases h with rfl | rfl | rfl | rfl | rfl | rfl | rfl | rfl <;> decide
end Go.V
namespace Go.V
def wayO (g : Gnd) (ok : Nat → Bool) (c : Int) (t i : Nat) : Nat → Nat → Int → Prop := fun a u k => a = t ∧ ∃ w, i ≤ w ∧ w < 8 ∧ besN g t w = (u : Int) ∧ k = yz g ok c t w
theorem zmc {E : Nat → Nat → Int → Prop} {n goal : Nat} {d : Nat → Int} {dn : Nat → Bool} {q q' : List (Int × Int)} {cur : Int} {O : Nat → Nat → Int → Prop} (h : DJ E n goal d dn q cur O) (hp : q.Perm q') : DJ E n goal d dn q' cur O :=
 ⟨h.lab, h.gl, h.pre, h.rel, h.mono, fun e he => h.ent e (hp.mem_iff.2 he), fun u hu hn => hp.mem_iff.1 (h.wait u hu hn)⟩
section
variable {g : Gnd} {ok : Nat → Bool} {c : Int} {n goal : Nat} {d : Nat → Int} {dn : Nat → Bool} {q : List (Int × Int)} {cur : Int}
theorem zn7 {t : Nat} (h : DJ (wn g ok c) n goal d dn q cur (fun a _ _ => a = t)) : DJ (wn g ok c) n goal d dn q cur (wayO g ok c t 0) :=
 zmd h fun a u k ha hn hE => by
  obtain ⟨_, _, w, hw, h1, _, h2, _⟩ := hE
  subst ha
  exact absurd ⟨rfl, w, Nat.zero_le _, hw, h1, h2⟩ hn
theorem zus {t : Nat} (h : DJ (wn g ok c) n goal d dn q cur (wayO g ok c t 8)) : DJ (wn g ok c) n goal d dn q cur zlw :=
 zmd h fun a u k ha hn hE => by
  obtain ⟨_, w, h1, h2, _⟩ := ha
  omega
theorem zds {t i : Nat} (h : DJ (wn g ok c) n goal d dn q cur (wayO g ok c t i)) (hp : ∀ u : Nat, besN g t i = u → 0 < yz g ok c t i → 0 ≤ d u ∧ d u ≤ d t + yz g ok c t i) : DJ (wn g ok c) n goal d dn q cur (wayO g ok c t (i + 1)) :=
 zmd h fun a u k ha hn hE => by
  obtain ⟨rfl, w, h1, h2, h3, rfl⟩ := ha
  by_cases hw : w = i
  ·subst hw
   exact hp u h3 (zdo _ _ _ hE)
  ·exact absurd ⟨rfl, w, by omega, h2, h3, rfl⟩ hn
theorem ylr {O : Nat → Nat → Int → Prop} (h : DJ (wn g ok c) n goal d dn q cur O) (hgoal : ok goal = true) {u : Nat} (hu : 0 ≤ d u) : ok u = true := by
 by_cases e : u = goal
 ·rw [e]; exact hgoal
 ·obtain ⟨t, k, _, _, hE, _⟩ := h.pre u e hu
  obtain ⟨_, _, _, _, _, h1, _⟩ := hE
  exact h1
end
/-- What is popped: nothing, or the least. -/
def keyO : Option (Int × Int) → Int
 | none => 0
 | some x => x.1
def valO : Option (Int × Int) → Int
 | none => 0
 | some x => x.2
/-- Costs and marks in memory. -/
def fldS (S : Store) (b b2 n : Nat) (d : Nat → Int) (dn : Nat → Bool) : Store := (S.setObj b (.cells (il n d))).setObj b2 (.cells (bl n dn))
section
variable {S : Store} {b b2 n : Nat}
theorem yk5 (hb : b ≠ b2) (d : Nat → Int) (dn : Nat → Bool) : (fldS S b b2 n d dn).obj b = some (.cells (il n d)) := by
 unfold fldS
 rw [zf hb, zb]
theorem yk4 (d : Nat → Int) (dn : Nat → Bool) : (fldS S b b2 n d dn).obj b2 = some (.cells (bl n dn)) := zb _ _ _
theorem ylq {i : Nat} {x : AObj} (hf : Fresh S b) (hf2 : Fresh (S.setObj b x) b2) {y : AObj} (h : S.obj i = some y) (d : Nat → Int) (dn : Nat → Bool) : (fldS S b b2 n d dn).obj i = some y := by
 have h1 : i ≠ b := fun e => by rw [e, hf.1] at h; cases h
 have h2 : i ≠ b2 := fun e => by
  have := hf2.1
  rw [← e, zf h1, h] at this; cases this
 unfold fldS
 rw [zf h2, zf h1]
 exact h
theorem znp (hb : b ≠ b2) (d d' : Nat → Int) (dn : Nat → Bool) : (fldS S b b2 n d dn).setObj b (.cells (il n d')) = fldS S b b2 n d' dn := by
 unfold fldS
 rw [jo hb, zh]
theorem yd8 (d : Nat → Int) (dn dn' : Nat → Bool) : (fldS S b b2 n d dn).setObj b2 (.cells (bl n dn')) = fldS S b b2 n d dn' := zh _ _ _ _
theorem fld_has {d : Nat → Int} {dn : Nat → Bool} {i : Nat} : (fldS S b b2 n d dn).has i ↔ i = b2 ∨ i = b ∨ S.has i := by
 unfold fldS
 rw [has_setObj_iff, has_setObj_iff]
theorem yd9 {F : Store} {d d' : Nat → Int} {dn dn' : Nat → Bool} (h : Disj F (fldS S b b2 n d dn)) : Disj F (fldS S b b2 n d' dn') := fun i h1 h2 => h i h1 (fld_has.2 (fld_has.1 h2))
theorem yea (hf : Fresh S b) {x : AObj} (hf2 : Fresh (S.setObj b x) b2) {F : Store} (hb : b ≠ b2) {d : Nat → Int} {dn : Nat → Bool} : (F.un (fldS S b b2 n d dn)).Has (S.setObj b (.cells (il n d))) := by
 have hn : (S.setObj b (.cells (il n d))).obj b2 = none := by
  have := hf2.1
  rw [zf (Ne.symm hb)] at this ⊢
  exact this
 exact ⟨fun i y hi => un_r ((yv hn).obj i y hi), fun i y hi => zir hi⟩
end
theorem znm (n : Nat) (d : Nat → Int) (u : Nat) (v : Int) (hu : u < n) : zn (il n d) (0 + u * 1) [int v] = il n (updN d u v) := by
 rw [show 0 + u * 1 = u by omega, zcx hu]
 rfl
theorem ylb (n : Nat) (d : Nat → Bool) (u : Nat) (v : Bool) (hu : u < n) : zn (bl n d) (0 + u * 1) [bool v] = bl n (updN d u v) := by
 rw [show 0 + u * 1 = u by omega]
 have := zby (f := d) hu (updN d u v) (fun s hs => yr hs)
 rw [yn] at this
 exact this
theorem zhs {n : Nat} {f : Nat → Int} {t : Nat} (h : t < n) : ((il n f).drop (t * 1)).head? = some (int (f t)) := by
 have := xe (f := f) h
 rwa [Nat.zero_add] at this
theorem ydu (n : Nat) (dn : Nat → Bool) : zei n dn ≤ n := by
 have := zla (f := fun t => if dn t = true then 0 else 1) (g := fun _ => 1) n (fun t _ => by split <;> omega)
 rw [zb3] at this
 unfold zei
 omega
end Go.V
namespace Go.V
def zbq (g : Gnd) (ok : Nat → Bool) (c : Int) (d : Nat → Int) (t w : Nat) : Prop := 0 < yz g ok c t w ∧ 0 ≤ d (besN g t w).toNat ∧ yz g ok c t w + d (besN g t w).toNat = d t
theorem zpt {p : Nat → Bool} {n j : Nat} (hj : j < n) (hp : p j = true) (hn : ∀ w, w < j → p w = false) : (List.range n).find? p = some j := by
 rw [List.find?_range_eq_some]
 exact ⟨hp, List.mem_range.2 hj, fun w hw => by rw [hn w hw]; rfl⟩
theorem ztl {p : Nat → Bool} {n : Nat} (hn : ∀ w, w < n → p w = false) : (List.range n).find? p = none := by
 rw [List.find?_eq_none]
 intro w hw
 rw [hn w (List.mem_range.1 hw)]
 decide
section
variable {g : Gnd} {ok : Nat → Bool} {c : Int} {d : Nat → Int} {t : Nat}
theorem zut (h : d t ≤ 0) : wayF g ok c d t = -1 := by
 unfold wayF
 rw [if_pos h]
theorem zqk (h : ¬ d t ≤ 0) {j : Nat} (hj : j < 8) (hp : zbq g ok c d t j) (hn : ∀ w, w < j → ¬ zbq g ok c d t w) : wayF g ok c d t = (j : Int) := by
 unfold wayF
 rw [if_neg h, zpt hj (by exact decide_eq_true hp) (fun w hw => by exact decide_eq_false (hn w hw))]
theorem zql (h : ¬ d t ≤ 0) (hn : ∀ w, w < 8 → ¬ zbq g ok c d t w) : wayF g ok c d t = -1 := by
 unfold wayF
 rw [if_neg h, ztl (fun w hw => by exact decide_eq_false (hn w hw))]
end
theorem yfh (g : Gnd) (ok : Nat → Bool) (c : Int) (d : Nat → Int) (t : Nat) : wayF g ok c d t = -1 ∨ ∃ j : Nat, j < 8 ∧ wayF g ok c d t = (j : Int) ∧ zbq g ok c d t j := by
 unfold wayF
 split
 ·exact .inl rfl
 ·cases h : (List.range 8).find? fun way => decide (0 < yz g ok c t way ∧ 0 ≤ d (besN g t way).toNat ∧ yz g ok c t way + d (besN g t way).toNat = d t) with
  | none => exact .inl rfl
  | some j =>
   have h1 := List.mem_of_find?_eq_some h
   have h2 := List.find?_some h
   exact .inr ⟨j, List.mem_range.1 h1, rfl, by simp only [decide_eq_true_eq] at h2; exact h2⟩
/-- The ways of the first tiles. -/
noncomputable def zab (g : Gnd) (ok : Nat → Bool) (c : Int) (d : Nat → Int) (i t : Nat) : Int := if t < i then wayF g ok c d t else -1
theorem zfs {g : Gnd} {ok : Nat → Bool} {c : Int} {d : Nat → Int} {i : Nat} : zab g ok c d (i + 1) = updN (zab g ok c d i) i (wayF g ok c d i) := funext fun t => by
 unfold zab updN
 dsimp only
 by_cases h : t = i
 ·subst h; rw [if_pos (by omega), if_pos rfl]
 ·rw [if_neg h]
  by_cases h2 : t < i
  ·rw [if_pos h2, if_pos (by omega)]
  ·rw [if_neg h2, if_neg (by omega)]
theorem zfr {g : Gnd} {ok : Nat → Bool} {c : Int} {d : Nat → Int} {i : Nat} (h : wayF g ok c d i = -1) : zab g ok c d (i + 1) = zab g ok c d i := by
 rw [zfs, h]
 funext t
 unfold updN zab
 by_cases h : t = i
 ·subst h; rw [if_pos rfl, if_neg (by omega)]
 ·rw [if_neg h]
theorem zn6 (g : Gnd) (ok : Nat → Bool) (c : Int) (d : Nat → Int) : zab g ok c d 0 = fun _ => -1 := funext fun t => if_neg (Nat.not_lt_zero t)
theorem zqj (g : Gnd) (ok : Nat → Bool) (c : Int) (d : Nat → Int) (n : Nat) : il n (zab g ok c d n) = il n (wayF g ok c d) := zbo fun t ht => if_pos ht
/-- Two lists of numbers in memory. -/
def twoS (S : Store) (b b2 n : Nat) (d f : Nat → Int) : Store := (S.setObj b (.cells (il n d))).setObj b2 (.cells (il n f))
section
variable {S : Store} {b b2 n : Nat}
theorem ylg (hb : b ≠ b2) (d f : Nat → Int) : (twoS S b b2 n d f).obj b = some (.cells (il n d)) := by
 unfold twoS
 rw [zf hb, zb]
theorem ylf (d f : Nat → Int) : (twoS S b b2 n d f).obj b2 = some (.cells (il n f)) := zb _ _ _
theorem yle {i : Nat} {x : AObj} (hf : Fresh S b) (hf2 : Fresh (S.setObj b x) b2) {y : AObj} (h : S.obj i = some y) (d f : Nat → Int) : (twoS S b b2 n d f).obj i = some y := by
 have h1 : i ≠ b := fun e => by rw [e, hf.1] at h; cases h
 have h2 : i ≠ b2 := fun e => by
  have := hf2.1
  rw [← e, zf h1, h] at this; cases this
 unfold twoS
 rw [zf h2, zf h1]
 exact h
theorem zux (d f f' : Nat → Int) : (twoS S b b2 n d f).setObj b2 (.cells (il n f')) = twoS S b b2 n d f' := zh _ _ _ _
theorem zqs {x : AObj} (hb : b ≠ b2) (hf2 : Fresh (S.setObj b x) b2) : Fresh S b2 := by
 have := hf2
 unfold Fresh at this ⊢
 rw [zf (Ne.symm hb)] at this
 exact this
theorem zuy (hf : Fresh S b) (hb : b ≠ b2) (d f : Nat → Int) : (twoS S b b2 n d f).Has (S.setObj b2 (.cells (il n f))) := by
 unfold twoS
 rw [jo (Ne.symm hb)]
 refine yv ?_
 rw [zf hb]
 exact hf.1
end
end Go.V
namespace Go.V
def zad (v : Vc) : Prop := (-1099511627776 ≤ v.1 ∧ v.1 ≤ 1099511627776) ∧ (-1099511627776 ≤ v.2 ∧ v.2 ≤ 1099511627776)
theorem xj {v : Vc} (h : zad v) : vh v := by unfold zad at h; unfold vh; omega
theorem yfq {v : Vc} (h : zad v) : v.ok := by
 unfold zad at h
 exact ⟨⟨by omega, by omega⟩, ⟨by omega, by omega⟩⟩
theorem zdd {p q : Vc} (hp : mapV p) (hq : mapV q) : zad (vsub q p) := by
 rw [(zih hp hq).1]
 unfold mapV at hp hq
 unfold zad
 dsimp only
 omega
theorem zs5 {w : Wld} {u : Unt} (hu : mapV u.pos) (h : ∀ x ∈ w.U, x.inn = 0 → mapV x.pos) (hl : w.U.length ≤ 4096) : zad (zpf w u) := by
 have key : ∀ (l : List Unt) (v : Vc) (B : Nat), (∀ x ∈ l, x.inn = 0 → mapV x.pos) → B + l.length ≤ 4096 → (v.1.natAbs ≤ B * 16777216 ∧ v.2.natAbs ≤ B * 16777216) →
   zad (l.foldl (fun v x => if x.inn = 0 ∧ x.id ≠ u.id then vadd v (zas u.pos (kRad u.kind + kRad x.kind + 16384) x.pos) else v) v) := by
  intro l
  induction l with
  | nil =>
   intro v B _ hB hv
   unfold zad
   simp only [List.length_nil] at hB
   simp only [List.foldl_nil]
   omega
  | cons x l ih =>
   intro v B hx hB hv
   simp only [List.length_cons] at hB
   rw [List.foldl_cons]
   refine ih _ (B + 1) (fun y hy => hx y (List.mem_cons_of_mem _ hy)) (by omega) ?_
   split
   ·rename_i hc
    have r1 := zrt u.kind
    have r2 := zrt x.kind
    have := zgc hu (hx x List.mem_cons_self hc.1) (r := kRad u.kind + kRad x.kind + 16384) (by omega)
    generalize zas u.pos (kRad u.kind + kRad x.kind + 16384) x.pos = z at *
    have e : vadd v z = (v.1 + z.1, v.2 + z.2) := by
     unfold vadd
     rw [zcj (by omega) (by omega), zcj (by omega) (by omega)]
    rw [e]
    dsimp only
    omega
   ·exact ⟨Nat.le_trans hv.1 (Nat.mul_le_mul_right _ (Nat.le_succ B)), Nat.le_trans hv.2 (Nat.mul_le_mul_right _ (Nat.le_succ B))⟩
 unfold zpf
 refine key w.U (0, 0) 0 h (by omega) ⟨?_, ?_⟩
 ·show (0 : Int).natAbs ≤ _; simp
 ·show (0 : Int).natAbs ≤ _; simp
end Go.V
namespace Go.V
theorem zka : ∀ {a b : List Unt}, (a.map (·.id)).Pairwise (· < ·) → (b.map (·.id)).Pairwise (· < ·) → (∀ u, u ∈ a ↔ u ∈ b) → a = b
 | [], [], _, _, _ => rfl
 | [], y :: b, _, _, h => absurd ((h y).2 List.mem_cons_self) (by simp)
 | x :: a, [], _, _, h => absurd ((h x).1 List.mem_cons_self) (by simp)
 | x :: a, y :: b, ha, hb, h => by
  rw [List.map_cons, List.pairwise_cons] at ha hb
  have hx := (h x).1 List.mem_cons_self
  have hy := (h y).2 List.mem_cons_self
  have e : x = y := by
   rcases List.mem_cons.1 hx with e | hx
   ·exact e
   ·rcases List.mem_cons.1 hy with e | hy
    ·exact e.symm
    ·have h1 := hb.1 _ (List.mem_map.2 ⟨x, hx, rfl⟩)
     have h2 := ha.1 _ (List.mem_map.2 ⟨y, hy, rfl⟩)
     omega
  subst e
  refine congrArg _ (zka ha.2 hb.2 fun u => ⟨fun hu => ?_, fun hu => ?_⟩)
  ·rcases List.mem_cons.1 ((h u).1 (List.mem_cons_of_mem _ hu)) with e | e
   ·have := ha.1 _ (List.mem_map.2 ⟨u, hu, rfl⟩)
    rw [e] at this
    omega
   ·exact e
  ·rcases List.mem_cons.1 ((h u).2 (List.mem_cons_of_mem _ hu)) with e | e
   ·have := hb.1 _ (List.mem_map.2 ⟨u, hu, rfl⟩)
    rw [e] at this
    omega
   ·exact e
/-- Ways that are numbers as they count. -/
def nV (v : Vc) : Prop := (-9223372036854775807 ≤ v.1 ∧ v.1 ≤ 9223372036854775807) ∧ (-9223372036854775807 ≤ v.2 ∧ v.2 ≤ 9223372036854775807)
theorem yfa (a b : Vc) : nV (vadd a b) := ⟨zez _ _, zez _ _⟩
theorem yi2 {v : Vc} (h : nV v) : v.ok := by
 unfold nV at h
 exact ⟨⟨by omega, by omega⟩, ⟨by omega, by omega⟩⟩
theorem zj9 {a : Int} (h : -9223372036854775807 ≤ a ∧ a ≤ 9223372036854775807) : fadd a 0 = a := by
 unfold fadd
 rw [qe (by omega), qe (by omega)]
 unfold xo
 split
 ·omega
 ·split <;> omega
theorem zqn {v : Vc} (h : nV v) : vadd v (0, 0) = v := by
 unfold vadd
 rw [zj9 h.1, zj9 h.2]
/-- What one adds. -/
def qa (u : Unt) (v : Vc) (x : Unt) : Vc := if x.id ≠ u.id then vadd v (zas u.pos (kRad u.kind + kRad x.kind + 16384) x.pos) else v
theorem zsh {u x : Unt} {v : Vc} (h : nV v) : nV (qa u v x) := by
 unfold qa
 split
 ·exact yfa _ _
 ·exact h
theorem zjm {u : Unt} : ∀ (l : List Unt) {v : Vc}, nV v → nV (l.foldl (qa u) v)
 | [], _, h => h
 | x :: l, _, h => zjm l (zsh h)
theorem ydr {p q : Vc} {r : Int} (h : near p q r = false) : zas p r q = (0, 0) := by
 unfold zas
 rw [h]
 simp
theorem zbp (u : Unt) (r : Int) (hr : ∀ k, kRad u.kind + kRad k + 16384 ≤ r) : ∀ (l : List Unt) (v : Vc), nV v →
  l.foldl (fun v x => if x.inn = 0 ∧ x.id ≠ u.id then vadd v (zas u.pos (kRad u.kind + kRad x.kind + 16384) x.pos) else v) v = (l.filter fun x => decide (x.inn = 0) && near u.pos x.pos r).foldl (qa u) v
 | [], v, _ => rfl
 | x :: l, v, h => by
  rw [List.foldl_cons, List.filter_cons]
  by_cases h0 : x.inn = 0
  ·cases hn : near u.pos x.pos r with
   | true =>
    simp only [h0, decide_true, Bool.and_self, if_true, List.foldl_cons, true_and]
    exact zbp u r hr l _ (zsh h)
   | false =>
    have hf : near u.pos x.pos (kRad u.kind + kRad x.kind + 16384) = false := by
     cases hc : near u.pos x.pos (kRad u.kind + kRad x.kind + 16384) with
     | false => rfl
     | true => rw [zjl (hr x.kind) hc] at hn; cases hn
    simp only [h0, decide_true, Bool.and_false, Bool.false_eq_true, if_false, true_and]
    rw [ydr hf, zqn h, ite_self]
    exact zbp u r hr l _ h
  ·simp only [h0, decide_false, Bool.false_and, Bool.false_eq_true, if_false, false_and]
   exact zbp u r hr l _ h
theorem yjc {w : Wld} {u : Unt} (hr : ye w.U) {us : List Unt} (hn : zlx w u.pos (kRad u.kind + 16384 + 81920) us) (hs : (us.map (·.id)).Pairwise (· < ·)) : zpf w u = us.foldl (qa u) (0, 0) := by
 unfold zpf
 rw [zbp u (kRad u.kind + 16384 + 81920) (fun k => by have := (zal k).2; omega) w.U (0, 0) ⟨⟨by decide, by decide⟩, ⟨by decide, by decide⟩⟩]
 congr 1
 refine zka ?_ hs fun x => ?_
 ·have : (w.U.map (·.id)).Pairwise (· < ·) := by
   rw [List.pairwise_iff_getElem]
   intro i j hi hj hij
   rw [List.length_map] at hi hj
   simp only [List.getElem_map]
   exact qk hr hij hj
  exact this.sublist (List.filter_sublist.map _)
 ·rw [List.mem_filter, hn x, Bool.and_eq_true, decide_eq_true_iff]
  constructor
  ·rintro ⟨h1, h2, h3⟩; exact ⟨⟨h1, h2⟩, h3⟩
  ·rintro ⟨⟨h1, h2⟩, h3⟩; exact ⟨h1, h2, h3⟩
/-- A way's halves. -/
theorem yjd {v : Vc} (h : nV v) (k : Nat) : nV (x5 v k) := by
 obtain ⟨h1, h2⟩ := h
 have e1 := znn v.1 k
 have e2 := znn v.2 k
 unfold nV x5
 dsimp only
 omega
theorem yj4 {v : Vc} (h : v.ok) : nV (vnrm v) := by
 obtain ⟨h1, h2⟩ := h
 have e1 := kl h1
 have e2 := kl h2
 unfold nV vnrm
 dsimp only
 omega
/-- One more try. -/
theorem zqw {w : Wld} {u : Unt} {v : Vc} {n k : Nat} (h0 : x5 v k ≠ (0, 0)) (hc : ¬ yl w u.id u.kind (vadd u.pos (x5 v k))) : tryL w u v (n + 1) k = tryL w u v n (k + 1) := by
 show (if _ then _ else if _ then _ else _) = _
 rw [if_neg h0, if_neg hc]
theorem zqu {w : Wld} {u : Unt} {v : Vc} {n k : Nat} (h0 : x5 v k = (0, 0)) : tryL w u v (n + 1) k = none := by
 show (if _ then _ else if _ then _ else _) = _
 rw [if_pos h0]
theorem zqv {w : Wld} {u : Unt} {v : Vc} {n k : Nat} (h0 : x5 v k ≠ (0, 0)) (hc : yl w u.id u.kind (vadd u.pos (x5 v k))) : tryL w u v (n + 1) k = some (k, vadd u.pos (x5 v k)) := by
 show (if _ then _ else if _ then _ else _) = _
 rw [if_neg h0, if_pos hc]
theorem zq9 {k : Nat} (hk : k < 5) : IntKind.i64.wrap (1 * 2 ^ (min ((k : Int)).toNat IntKind.i64.bits)) = ((2 ^ k : Nat) : Int) := by
 have : k = 0 ∨ k = 1 ∨ k = 2 ∨ k = 3 ∨ k = 4 := by omega
 rcases this with rfl | rfl | rfl | rfl | rfl <;> decide
end Go.V
namespace Go.V
structure MayF (w : Wld) : Prop where
 hg : gndP w.G
 hB : w.B.length ≤ 256
 hU : w.U.length ≤ 4096
 hT : w.G.T.length ≤ 16384
 hb : ∀ b ∈ w.B, bldP b ∧ onP w.G b
 hk : ∀ u ∈ w.U, wd u.kind
 hr : ye w.U
 hn1 : 1 ≤ w.next
 hn2 : w.next ≤ 1099511627776
theorem mayF {w : Wld} (h : mayP w) : MayF w := by
 obtain ⟨⟨hh, hok⟩, _⟩ := h
 have hbl := hh.2.1.2.1
 have ha := zt hh.2.1.1
 exact ⟨hh.2.1.1, hbl.1, hh.2.1.2.2, by omega, fun b hb => ⟨(hbl.2.2.1 b hb).1, (hbl.2.2.1 b hb).2.1⟩, fun u hu => (hok.2 u hu).1.1.2.2, hok.1, hh.1.2.2.1, hh.1.2.2.2⟩
theorem MayF.fits {w : Wld} (h : MayF w) : w.fits := ⟨by unfold Gnd.fits; have := h.hT; omega, by have := h.hB; omega, by have := h.hU; omega⟩
theorem zsw (k : Int) : 0 ≤ q9 k ∧ q9 k ≤ 3 := by unfold q9; split <;> decide
end Go.V
namespace Go.V
theorem yi1 (g : Gnd) (t : Nat) : zfj g t = (List.range 8).map (besN g t) := by
 apply List.ext_getElem
 ·rw [zbi, List.length_map, List.length_range]
 ·intro i h1 h2
  rw [zbi] at h1
  simp only [List.getElem_map, List.getElem_range]
  unfold besN
  rw [List.getD_eq_getElem?_getD, List.getElem?_eq_getElem (by rw [zbi]; exact h1)]
  rfl
theorem ydx (g : Gnd) (t : Nat) (x : Int) : (zfj g t).contains x = (List.range 8).any fun j => besN g t j == x := by
 rw [yi1, List.contains_eq_any_beq, List.any_map]
 congr 1
 funext j
 show (x == besN g t j) = _
 rw [Bool.eq_iff_iff, beq_iff_eq, beq_iff_eq]
 exact eq_comm
theorem zun {p : Nat → Bool} {n k : Nat} (hk : k < n) (hp : p k = true) : (List.range n).any p = true := List.any_eq_true.2 ⟨k, List.mem_range.2 hk, hp⟩
theorem yey {p : Nat → Bool} {n : Nat} (hp : ∀ k, k < n → p k = false) : (List.range n).any p = false := by
 rw [List.any_eq_false]
 intro k hk
 rw [hp k (List.mem_range.1 hk)]
 decide
end Go.V
namespace Go.V
def wkG : Gnd := ⟨2, 1, [0, 0]⟩
def wkW0 : Wld := { tick := 0, players := 1, next := 2, G := wkG, B := [], U := [{ id := 1, owner := 1, kind := 0, pos := (32768, 32768), goal := 1, next := -1, stuck := 0, inn := 0, state := 1 }] }
def wkD : List Int := [20, 0]
def unt1 : Unt := { id := 0, owner := 0, kind := 0, pos := (0, 0), goal := 0, next := 0, stuck := 0, inn := 0, state := 0 }
def oneU (w : Wld) : Unt := w.U.headD unt1
def wkS : Nat → Wld
 | 0 => wkW0
 | n + 1 => yj7 (wkS n) (oneU (wkS n)) (atD wkD)
theorem zmv : ∀ n, n < 6 → mayP (wkS n) := by decide +kernel
theorem zcp : ∀ n, n < 6 → (wkS n).U = [oneU (wkS n)] ∧ (oneU (wkS n)).id = 1 ∧ (oneU (wkS n)).inn = 0 ∧ (wkS n).G = wkG ∧ (wkS n).B = [] := by decide +kernel
theorem yjz : ∀ n, n < 5 → okU (wkS n) (oneU (wkS n)) (oneU (wkS n)).goal.toNat = true ∧ zns (wkS n).G (okU (wkS n) (oneU (wkS n))) (kCls (oneU (wkS n)).kind) (oneU (wkS n)).goal.toNat wkD = true := by decide +kernel
theorem yj0 : (oneU (wkS 5)).pos = cenV wkG 1 ∧ (oneU (wkS 5)).state = 2 := by decide +kernel
theorem yj1 : cenV wkG 0 = (32768, 32768) := by decide +kernel
theorem yff {n : Nat} (hn : n < 5) : ziq (wkS n) (oneU (wkS n)) = wkS (n + 1) := by
 obtain ⟨h1, h2⟩ := yjz n hn
 exact yj6 (yef h1 h2)
theorem ye0 : gndP wkG := by decide +kernel
end Go.V
namespace Go.V
structure Scr24 where
 W : Wld
 I : List Int
 V : List Vc
def zf6 (s : Scr24) : List AV := wldC s.W ++ [ints s.I, lst 2 vecC s.V]
def zdj (s : Scr24) : Prop := (zj1 s.W ∨ s.I.length > 40) ∨ s.V.length > 40
def Scr24.good (s : Scr24) : Prop := (∀ u ∈ s.W.U, u.pos.ok) ∧ (∀ n ∈ s.I, zz n) ∧ ∀ v ∈ s.V, v.ok
theorem yfi (a b : Vc) : (vadd a b).ok := by
 have h1 := zh7 (nrm a.1 + nrm b.1)
 have h2 := zh7 (nrm a.2 + nrm b.2)
 exact ⟨⟨by show _ ≤ xo _; omega, by show xo _ ≤ _; omega⟩, ⟨by show _ ≤ xo _; omega, by show xo _ ≤ _; omega⟩⟩
/-- A world whose walk may be stepped: it may play, and its places are words. -/
def playW (w : Wld) : Prop := mayP w ∧ ∀ u ∈ w.U, u.pos.ok
theorem playW.sizes {w : Wld} (h : playW w) : w.G.T.length ≤ 1000000 ∧ w.B.length ≤ 1000000 ∧ w.U.length ≤ 1000000 := by
 have f := mayF h.1
 have := f.hB
 have := f.hU
 have := f.hT
 omega
theorem ykr {w : Wld} {u : Unt} (hw : ∀ x ∈ w.U, x.pos.ok) (hu : u.pos.ok) : ∀ x ∈ (putU w u).U, x.pos.ok := by
 intro x hx
 unfold putU at hx
 obtain ⟨y, hy, rfl⟩ := List.mem_map.1 hx
 split
 ·exact hu
 ·exact hw y hy
end Go.V
