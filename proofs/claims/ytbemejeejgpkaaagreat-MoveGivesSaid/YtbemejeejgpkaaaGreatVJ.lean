/- The ground on which laws of thronglaw24 are proved: contracts of functions and plain lemmas; no condition beyond the row's own. -/
import Derived.Test.YtbemejeejgpkaaaGreatVI
import Derived.Test.YtbemejeejgpkaaaGreatVH
import Derived.Test.YtbemejeejgpkaaaGreatVF
set_option linter.unusedSimpArgs false
set_option linter.unusedVariables false
namespace Go.V
def vadd (a b : Vc) : Vc := (fadd a.1 b.1, fadd a.2 b.2)
def vnrm (v : Vc) : Vc := (nrm v.1, nrm v.2)
def zbt (v : Vc) (k : Nat) : Vc := (v.1.tdiv (2 ^ k : Nat), v.2.tdiv (2 ^ k : Nat))
/-- The root, bit by bit. -/
def ya5 (m : Int) : Nat → Int → Int
 | 0, r => r
 | b + 1, r => ya5 m b (if (r + (2 ^ b : Nat)) * (r + (2 ^ b : Nat)) ≤ m then r + (2 ^ b : Nat) else r)
def j2 (m : Int) : Int := ya5 m 63 0
theorem ya4 {m : Int} (hm : 0 ≤ m) : ∀ (b : Nat) (r : Int), 0 ≤ r → r * r ≤ m → (r + (2 ^ b : Nat) = 9223372036854775808 ∨ m < (r + (2 ^ b : Nat)) * (r + (2 ^ b : Nat))) → r + (2 ^ b : Nat) ≤ 9223372036854775808 → za2 m (ya5 m b r) := by
 intro b
 induction b with
 | zero =>
  intro r h0 h1 h2 h3
  refine ⟨h0, ?_, h1, ?_⟩
  ·simp only [Nat.pow_zero] at h3
   show r ≤ _
   omega
  ·show r = _ ∨ _
   simp only [Nat.pow_zero] at h2
   rcases h2 with h2 | h2
   ·exact .inl (by omega)
   ·exact .inr h2
 | succ b ih =>
  intro r h0 h1 h2 h3
  have hp : (2 ^ (b + 1) : Nat) = 2 ^ b + 2 ^ b := by rw [Nat.pow_succ]; omega
  have hq : 0 < 2 ^ b := Nat.pow_pos (by decide)
  rw [hp] at h2 h3
  generalize hB : 2 ^ b = B at *
  show za2 m (ya5 m b (if _ then _ else _))
  rw [hB]
  split
  ·rename_i hle
   refine ih (r + (B : Nat)) (by omega) hle ?_ (by omega)
   rw [Int.add_assoc, show ((B : Nat) : Int) + (B : Nat) = ((B + B : Nat) : Int) by omega]
   exact h2
  ·rename_i hle
   exact ih r h0 h1 (.inr (by omega)) (by omega)
theorem zbm {m : Int} (hm : 0 ≤ m) : za2 m (j2 m) := ya4 hm 63 0 (by decide) (by simpa using hm) (.inl (by decide)) (by decide)
theorem zps {m r : Int} (hm : 0 ≤ m) (h : za2 m r) : r = j2 m := zkm h (zbm hm)
/-- A part of a way that is cut. -/
def cutC (c most long : Int) : Int := if c < 0 then -((-c) * most / long) else c * most / long
def qu (v : Vc) (most : Int) : Vc :=
 if j2 (sqr v) ≤ max most 0 then vnrm v else (cutC (nrm v.1) (max most 0) (j2 (sqr v)), cutC (nrm v.2) (max most 0) (j2 (sqr v)))
def zf3 (p q : Vc) (speed : Int) : Vc := qu (vsub q p) speed
/-- What pushes one away from another one. -/
def ww (p : Vc) (r : Int) (q : Vc) : Vc :=
 if near p q r then qu (if vsub p q = (0, 0) then (65536, 0) else vsub p q) (r - j2 (sqr (vsub p q))) else (0, 0)
instance (w : Wld) (id k : Int) (p : Vc) : Decidable (qg w id k p) := by unfold qg ziv; infer_instance
/-- Where a unit comes to by a step, and how often that was halved. -/
def tryL (w : Wld) (u : Unt) (v : Vc) : Nat → Nat → Option (Nat × Vc)
 | 0, _ => none
 | n + 1, k => if zbt v k = (0, 0) then none else if qg w u.id u.kind (vadd u.pos (zbt v k)) then some (k, vadd u.pos (zbt v k)) else tryL w u v n (k + 1)
def putU (w : Wld) (u : Unt) : Wld := { w with U := w.U.map fun x => if x.id = u.id then u else x }
def tryK (w : Wld) (u : Unt) (v : Vc) : Int := match tryL w u (vnrm v) 5 0 with | none => 5 | some (k, _) => (k : Int)
def tryW (w : Wld) (u : Unt) (v : Vc) : Wld := match tryL w u (vnrm v) 5 0 with | none => w | some (_, p) => putU w { u with pos := p }
/-- What pushes one without a goal. -/
def znr (w : Wld) (u : Unt) : Vc := w.U.foldl (fun v x => if x.inn = 0 ∧ x.id ≠ u.id then vadd v (ww u.pos (kRad u.kind + kRad x.kind + 16384) x.pos) else v) (0, 0)
def znq (w : Wld) (u : Unt) : Wld := tryW w u (qu (znr w u) ((ju u.kind).tdiv 4))
def endU (s : Int) (u : Unt) : Unt := { u with goal := -1, next := -1, stuck := 0, state := s }
def okU (w : Wld) (u : Unt) (t : Nat) : Bool := zt w.G w.B (kCls u.kind) (qx u.kind) t
def zdu (w : Wld) (u : Unt) (own : Nat) : Bool :=
 decide (u.next = -1) || decide (u.pos = cenV w.G u.next.toNat) || !okU w u u.next.toNat || (decide (u.next ≠ own) && !(zen w.G own).contains u.next)
/-- The next tile; below 0: there is none. -/
noncomputable def zgb (w : Wld) (u : Unt) (own : Nat) : Int :=
 if u.pos ≠ cenV w.G own then own else
  (let way := wayF w.G (okU w u) (kCls u.kind) (farF w.G (okU w u) (kCls u.kind) u.goal.toNat) own
   if way < 0 then -1 else besN w.G own way.toNat)
/-- One step toward the next tile. -/
def zht (w : Wld) (u : Unt) : Wld :=
 if tryK (putU w { u with stuck := 0 }) { u with stuck := 0 } (zf3 u.pos (cenV w.G u.next.toNat) (ju u.kind)) < 5 then tryW (putU w { u with stuck := 0 }) { u with stuck := 0 } (zf3 u.pos (cenV w.G u.next.toNat) (ju u.kind))
 else if u.stuck + 1 = 8 then putU w (endU 4 u) else putU w { u with stuck := u.stuck + 1, next := -1 }
noncomputable def zkr (w : Wld) (u : Unt) : Wld :=
 if u.pos = cenV w.G u.goal.toNat then putU w (endU 2 u)
 else if zdu w u (xc w.G u.pos) then
  (if zgb w u (xc w.G u.pos) < 0 then putU w (endU 3 u) else zht w { u with next := zgb w u (xc w.G u.pos) })
 else zht w u
/-- What a unit on the field does in a tick. -/
noncomputable def wu (w : Wld) (u : Unt) : Wld := if u.goal = -1 then znq w u else zkr w u
end Go.V
namespace Go.V
theorem zav {w : Wld} (hr : ye w.U) {i : Nat} (hi : i < w.U.length) {u : Unt} (hid : u.id = w.U[i].id) : putU w u = { w with U := w.U.set i u } := by
 unfold putU
 congr 1
 refine List.ext_getElem (by simp) fun j h1 h2 => ?_
 have hj : j < w.U.length := by simpa using h1
 rw [List.getElem_map, List.getElem_set]
 by_cases e : i = j
 ·subst e
  rw [if_pos hid.symm, if_pos rfl]
 ·rw [if_neg e, if_neg]
  intro hx
  rcases Nat.lt_or_gt_of_ne e with h | h
  ·have := xh hr h hj; omega
  ·have := xh hr h hi; omega
theorem ygb {w : Wld} (hr : ye w.U) {i : Nat} (hi : i < w.U.length) {u : Unt} (hid : u.id = w.U[i].id) : ∃ h2 : i < (putU w u).U.length, (putU w u).U[i] = u := by
 rw [zav hr hi hid]
 exact ⟨by simpa using hi, by simp⟩
theorem zly (w : Wld) (u : Unt) : (putU w u).U.length = w.U.length := by simp [putU]
theorem yga {w : Wld} (hr : ye w.U) {i : Nat} (hi : i < w.U.length) {u : Unt} (hid : u.id = w.U[i].id) {j : Nat} (hj : j < w.U.length) (hij : j ≠ i) : (putU w u).U[j]'(by rw [zly]; exact hj) = w.U[j] := by
 have h := zav hr hi hid
 have : (putU w u).U = w.U.set i u := by rw [h]
 simp only [this]
 rw [List.getElem_set, if_neg (Ne.symm hij)]
/-- New orders. -/
theorem ygi {w : Wld} (hm : mayP w) {i : Nat} (hi : i < w.U.length) (h0 : w.U[i].inn = 0) {u : Unt} (h1 : mvG 0 u = mvG 0 w.U[i]) (h2 : untP w u) : mayP (putU w u) := by
 have hid : u.id = w.U[i].id := (zid h1).1
 rw [zav hm.1.2.1 hi hid]
 have get : ∀ j, (hj : j < w.U.length) → (w.U.set i u)[j]'(by simpa using hj) = if i = j then u else w.U[j] := fun j hj => List.getElem_set ..
 refine znk hm (by simp) (fun j hj => ?_) (fun j hj hn => ?_) (fun j hj => ?_)
 ·rw [get j hj]
  split
  ·rename_i e; subst e; exact h1
  ·rfl
 ·rw [get j hj]
  split
  ·rename_i e; subst e; exact absurd h0 hn
  ·rfl
 ·rw [get j hj]
  split
  ·exact h2
  ·exact (hm.1.2.2 _ (List.getElem_mem hj)).1
theorem ze2 {w : Wld} {u : Unt} {v : Vc} : ∀ (n k : Nat) {r : Nat × Vc}, tryL w u v n k = some r → qg w u.id u.kind r.2 ∧ (k ≤ r.1 ∧ r.1 < k + n) ∧ r.2 = vadd u.pos (zbt v r.1)
 | 0, k, r, h => by cases h
 | n + 1, k, r, h => by
  unfold tryL at h
  split at h
  ·cases h
  ·split at h
   ·cases h
    exact ⟨‹_›, by omega, rfl⟩
   ·obtain ⟨h1, h2, h3⟩ := ze2 n (k + 1) h
    exact ⟨h1, by omega, h3⟩
theorem yhr {w : Wld} (hm : mayP w) {i : Nat} (hi : i < w.U.length) : untP w w.U[i] := (hm.1.2.2 _ (List.getElem_mem hi)).1
theorem yc3 {w : Wld} {u : Unt} (h : untP w u) (hg : u.goal ≠ -1) {nx st : Int} (hn : zc8 w.G nx) (hs : 0 ≤ st ∧ st < 8) : untP w { u with next := nx, stuck := st } := by
 obtain ⟨⟨a1, a2, a3⟩, ⟨b1, b2, b3⟩, c, d⟩ := h
 exact ⟨⟨a1, a2, a3⟩, ⟨b1, hn, hs⟩, c, fun e => absurd e hg⟩
theorem ycn {w : Wld} (hm : mayP w) {i : Nat} (hi : i < w.U.length) (h0 : w.U[i].inn = 0) : (0 ≤ w.U[i].pos.1 ∧ w.U[i].pos.1 < w.G.W * 65536) ∧ (0 ≤ w.U[i].pos.2 ∧ w.U[i].pos.2 < w.G.H * 65536) := by
 have := ycs hm.1.1.2.1.1 (hm.2.1 _ (List.getElem_mem hi) h0).1
 have := this.1
 have := this.2
 omega
theorem yh8 {w : Wld} (hm : mayP w) {i : Nat} (hi : i < w.U.length) (h0 : w.U[i].inn = 0) : xc w.G w.U[i].pos < w.G.T.length := (zhn hm.1.1.2.1.1 (ycn hm hi h0)).2.1
theorem zjy {g : Gnd} (hg : gndP g) {t : Nat} (h : t < g.T.length) : zc8 g (t : Int) := .inr (by have := hg.2.2.1; omega)
theorem yhp (g : Gnd) (ok : Nat → Bool) (c : Int) (d : Nat → Int) (t : Nat) : wayF g ok c d t = -1 ∨ ∃ way : Nat, way < 8 ∧ wayF g ok c d t = way ∧ 0 < yx g ok c t way := by
 unfold wayF
 split
 ·exact .inl rfl
 ·cases h : (List.range 8).find? fun way => decide (0 < yx g ok c t way ∧ 0 ≤ d (besN g t way).toNat ∧ yx g ok c t way + d (besN g t way).toNat = d t) with
  | none => exact .inl rfl
  | some way =>
   have h1 := List.mem_of_find?_eq_some h
   have h2 := List.find?_some h
   exact .inr ⟨way, by simpa using h1, rfl, (of_decide_eq_true h2).1⟩
theorem zng {w : Wld} (hg : gndP w.G) {u : Unt} {own : Nat} (ho : own < w.G.T.length) : zc8 w.G (zgb w u own) := by
 unfold zgb
 split
 ·exact zjy hg ho
 ·dsimp only
  rcases yhp w.G (okU w u) (kCls u.kind) (farF w.G (okU w u) (kCls u.kind) u.goal.toNat) own with h | ⟨way, h1, h2, _⟩
  ·rw [h, if_pos (by decide)]; exact .inl rfl
  ·rw [h2, if_neg (by omega)]
   rcases zmg hg (t := own) (way := way) h1 with h3 | ⟨x, h3, h4⟩
   ·rw [Int.toNat_natCast, h3]; exact .inl rfl
   ·rw [Int.toNat_natCast, h3]; exact zjy hg h4
end Go.V
namespace Go.V
theorem zdb {a b : Int} (ha : 0 ≤ a) (h : a ≤ b) : a * a ≤ b * b := Int.mul_le_mul h h ha (by omega)
theorem yiy {p q : Int} (hp : 0 ≤ p) (h : p < q) : p * p < q * q :=
 Int.lt_of_le_of_lt (Int.mul_le_mul_of_nonneg_left (Int.le_of_lt h) hp) (Int.mul_lt_mul_of_pos_right h (by omega))
theorem mul4 (a b c d : Int) : a * b * (c * d) = a * c * (b * d) := by ac_rfl
theorem yir {x y m L s a b : Int} (hx : 0 ≤ x) (hy : 0 ≤ y) (hm : 0 ≤ m) (hmL : m < L) (hs : x * x + y * y < (L + 1) * (L + 1)) (ha : a = x * m / L) (hb : b = y * m / L) : a * a + b * b < (m + 1) * (m + 1) := by
 have hL : 0 < L := by omega
 have a1 : a * L ≤ x * m := by rw [ha]; exact Int.ediv_mul_le _ (by omega)
 have b1 : b * L ≤ y * m := by rw [hb]; exact Int.ediv_mul_le _ (by omega)
 have a0 : 0 ≤ a := by rw [ha]; exact Int.ediv_nonneg (Int.mul_nonneg hx hm) (by omega)
 have b0 : 0 ≤ b := by rw [hb]; exact Int.ediv_nonneg (Int.mul_nonneg hy hm) (by omega)
 have a2 := zdb (Int.mul_nonneg a0 (by omega : (0:Int) ≤ L)) a1
 have b2 := zdb (Int.mul_nonneg b0 (by omega : (0:Int) ≤ L)) b1
 have e1 : (a * a + b * b) * (L * L) = a * L * (a * L) + b * L * (b * L) := by
  rw [Int.add_mul, mul4 a a L L, mul4 b b L L]
 have e2 : x * m * (x * m) + y * m * (y * m) = (x * x + y * y) * (m * m) := by
  rw [Int.add_mul, mul4 x x m m, mul4 y y m m]
 have h1 : (a * a + b * b) * (L * L) ≤ (x * x + y * y) * (m * m) := by rw [e1, ← e2]; exact Int.add_le_add a2 b2
 refine Int.not_le.1 fun hle => ?_
 have h2 : (m + 1) * (m + 1) * (L * L) ≤ (x * x + y * y) * (m * m) := Int.le_trans (Int.mul_le_mul_of_nonneg_right hle (Int.mul_nonneg (by omega) (by omega))) h1
 have h3 : (x * x + y * y) * (m * m) ≤ ((L + 1) * (L + 1)) * (m * m) := Int.mul_le_mul_of_nonneg_right (by omega) (Int.mul_nonneg hm hm)
 have e3 : (m + 1) * (m + 1) * (L * L) = ((m + 1) * L) * ((m + 1) * L) := mul4 ..
 have e4 : ((L + 1) * (L + 1)) * (m * m) = ((L + 1) * m) * ((L + 1) * m) := mul4 ..
 have h4 : ((L + 1) * m) * ((L + 1) * m) < ((m + 1) * L) * ((m + 1) * L) := by
  have k1 : (L + 1) * m < (m + 1) * L := by
   rw [Int.add_mul, Int.add_mul, Int.mul_comm L m]; omega
  have k0 : 0 ≤ (L + 1) * m := Int.mul_nonneg (by omega) hm
  exact yiy k0 k1
 omega
/-- A way that is not great. -/
def kr (v : Vc) : Prop := (-1125899906842624 ≤ v.1 ∧ v.1 ≤ 1125899906842624) ∧ (-1125899906842624 ≤ v.2 ∧ v.2 ≤ 1125899906842624)
theorem je {v : Vc} (h : kr v) : sqr v = v.1 * v.1 + v.2 * v.2 ∧ vnrm v = v ∧ 0 ≤ sqr v ∧ sqr v < (j2 (sqr v) + 1) * (j2 (sqr v) + 1) := by
 obtain ⟨h1, h2⟩ := h
 have e : sqr v = v.1 * v.1 + v.2 * v.2 := by unfold sqr; rw [zmi (by omega), zmi (by omega)]
 have p1 : 0 ≤ v.1 * v.1 := by rcases Int.le_total 0 v.1 with h | h; exact Int.mul_nonneg h h; rw [← Int.neg_mul_neg]; exact Int.mul_nonneg (by omega) (by omega)
 have p2 : 0 ≤ v.2 * v.2 := by rcases Int.le_total 0 v.2 with h | h; exact Int.mul_nonneg h h; rw [← Int.neg_mul_neg]; exact Int.mul_nonneg (by omega) (by omega)
 have b : ∀ x : Int, -1125899906842624 ≤ x ∧ x ≤ 1125899906842624 → x * x ≤ 1125899906842624 * 1125899906842624 := fun x hx => by
  rcases Int.le_total 0 x with h | h
  ·exact zdb h hx.2
  ·rw [← Int.neg_mul_neg]; exact zdb (by omega) (by omega)
 have b1 := b _ h1
 have b2 := b _ h2
 have h0 : 0 ≤ sqr v := by omega
 refine ⟨e, ?_, h0, ?_⟩
 ·unfold vnrm; rw [qf (by omega), qf (by omega)]
 ·obtain ⟨r0, r1, r2, r3⟩ := zbm h0
  rcases r3 with r3 | r3
  ·rw [r3] at r2; omega
  ·exact r3
theorem zfz (x : Int) : x * x = (x.natAbs : Int) * x.natAbs := by rw [← Int.natCast_mul, Int.natAbs_mul_self]
theorem zgz {c m L : Int} (hm : 0 ≤ m) (hL : 0 < L) : ((cutC c m L).natAbs : Int) = (c.natAbs : Int) * m / L := by
 have q : ∀ z : Int, 0 ≤ z → 0 ≤ z * m / L := fun z hz => Int.ediv_nonneg (Int.mul_nonneg hz hm) (by omega)
 unfold cutC
 split
 ·have := q (-c) (by omega)
  rw [show (c.natAbs : Int) = -c by omega]; omega
 ·have := q c (by omega)
  rw [show (c.natAbs : Int) = c by omega]; omega
theorem za8 {c m L : Int} (hm : 0 ≤ m) (hmL : m < L) : (cutC c m L).natAbs ≤ c.natAbs := by
 have h1 := zgz (c := c) hm (show 0 < L by omega)
 have h2 : (c.natAbs : Int) * m / L ≤ c.natAbs := by
  have : (c.natAbs : Int) * m ≤ c.natAbs * L := Int.mul_le_mul_of_nonneg_left (by omega) (by omega)
  exact Int.le_trans (Int.ediv_le_ediv (by omega) this) (by rw [Int.mul_ediv_cancel _ (by omega)]; exact Int.le_refl _)
 omega
/-- A way that is cut is not longer. -/
theorem zje {v : Vc} {m : Int} (hs : kr v) (hm : 0 ≤ m) : kr (qu v m) ∧ (qu v m).1 * (qu v m).1 + (qu v m).2 * (qu v m).2 < (m + 1) * (m + 1) := by
 obtain ⟨e, en, h0, h1⟩ := je hs
 have hmx : max m 0 = m := by omega
 have n1 : nrm v.1 = v.1 := congrArg Prod.fst en
 have n2 : nrm v.2 = v.2 := congrArg Prod.snd en
 have r0 := (zbm h0).1
 unfold qu
 rw [hmx]
 split
 ·rename_i hle
  rw [en]
  refine ⟨hs, ?_⟩
  have := zdb (show 0 ≤ j2 (sqr v) + 1 by omega) (show j2 (sqr v) + 1 ≤ m + 1 by omega)
  omega
 ·rename_i hgt
  rw [n1, n2]
  have hmL : m < j2 (sqr v) := by omega
  have c1 := za8 (c := v.1) hm hmL
  have c2 := za8 (c := v.2) hm hmL
  refine ⟨?_, ?_⟩
  ·unfold kr at hs ⊢
   dsimp only
   omega
  ·dsimp only
   rw [zfz (cutC v.1 _ _), zfz (cutC v.2 _ _)]
   refine yir (s := 0) (x := v.1.natAbs) (y := v.2.natAbs) (by omega) (by omega) hm hmL ?_ (zgz hm (by omega)) (zgz hm (by omega))
   rw [← zfz, ← zfz]
   omega
theorem zl7 (x : Int) (k : Nat) : (x.tdiv (2 ^ k : Nat)).natAbs ≤ x.natAbs := by
 rw [Int.natAbs_tdiv]
 exact Nat.div_le_self _ _
/-- A place of a map. -/
def mapV (p : Vc) : Prop := (0 ≤ p.1 ∧ p.1 ≤ 8388608) ∧ (0 ≤ p.2 ∧ p.2 ≤ 8388608)
theorem zbv {a b : Int} (ha : -2251799813685248 ≤ a ∧ a ≤ 2251799813685248) (hb : -2251799813685248 ≤ b ∧ b ≤ 2251799813685248) : fadd a b = a + b := by
 unfold fadd wj
 rw [qf (by omega), qf (by omega), if_neg (by omega), if_neg (by omega)]
theorem zhd {p q : Vc} (hp : mapV p) (hq : mapV q) : vsub q p = (q.1 - p.1, q.2 - p.2) ∧ kr (vsub q p) := by
 obtain ⟨p1, p2⟩ := hp
 obtain ⟨q1, q2⟩ := hq
 have e := zex (a := q) (b := p) (by omega) (by omega) (by omega) (by omega)
 refine ⟨e, ?_⟩
 rw [e]
 unfold kr
 dsimp only
 omega
/-- What one pushes another one is not great. -/
theorem zfb {p q : Vc} (hp : mapV p) (hq : mapV q) {r : Int} (hr : 0 < r) : -16777216 ≤ (ww p r q).1 ∧ (ww p r q).1 ≤ 16777216 ∧ -16777216 ≤ (ww p r q).2 ∧ (ww p r q).2 ≤ 16777216 := by
 obtain ⟨e, hs⟩ := zhd hq hp
 unfold ww
 split
 ·rename_i hn
  generalize hm : r - j2 (sqr (vsub p q)) = m
  have hv : ∀ w : Vc, kr w → (w.1.natAbs ≤ 16777216 ∧ w.2.natAbs ≤ 16777216) → -16777216 ≤ (qu w m).1 ∧ (qu w m).1 ≤ 16777216 ∧ -16777216 ≤ (qu w m).2 ∧ (qu w m).2 ≤ 16777216 := by
   intro w hw hb
   obtain ⟨_, en, _, _⟩ := je hw
   have n1 : nrm w.1 = w.1 := congrArg Prod.fst en
   have n2 : nrm w.2 = w.2 := congrArg Prod.snd en
   unfold qu
   split
   ·rw [en]; omega
   ·rename_i hgt
    rw [n1, n2]
    have c1 := za8 (c := w.1) (m := max m 0) (L := j2 (sqr w)) (by omega) (by omega)
    have c2 := za8 (c := w.2) (m := max m 0) (L := j2 (sqr w)) (by omega) (by omega)
    dsimp only
    omega
  obtain ⟨p1, p2⟩ := hp
  obtain ⟨q1, q2⟩ := hq
  split
  ·exact hv _ (by unfold kr; decide) (by decide)
  ·refine hv _ hs ?_
   rw [e]
   dsimp only
   omega
 ·decide
end Go.V
namespace Go.V
theorem zp7 (w : Wld) {a b : Unt} (h : a.id = b.id) : putU (putU w a) b = putU w b := by
 unfold putU
 simp only [List.map_map]
 congr 1
 refine List.map_congr_left fun x _ => ?_
 simp only [Function.comp]
 by_cases e : x.id = a.id
 ·rw [if_pos e, if_pos h, if_pos (e.trans h)]
 ·rw [if_neg e]
theorem zpg (k : Int) : 8192 ≤ ju k ∧ ju k ≤ 24576 := by unfold ju; split <;> (try split) <;> (try split) <;> omega
theorem zl3 {w : Wld} (hm : mayP w) {u : Unt} (hu : u ∈ w.U) (h0 : u.inn = 0) : mapV u.pos := by
 have := ycs hm.1.1.2.1.1 (hm.2.1 u hu h0).1
 unfold mapV
 omega
theorem yg6 {g : Gnd} (hg : gndP g) {t : Nat} (ht : t < g.T.length) : mapV (cenV g t) := by
 obtain ⟨⟨h1, h2⟩, ⟨h3, h4⟩, h5, _⟩ := hg
 have a := Int.emod_nonneg (t : Int) (show g.W ≠ 0 by omega)
 have b := Int.emod_lt_of_pos (t : Int) (show 0 < g.W by omega)
 have c : 0 ≤ (t : Int) / g.W := Int.ediv_nonneg (by omega) (by omega)
 have d : (t : Int) / g.W < g.H := Int.ediv_lt_of_lt_mul (by omega) (by rw [Int.mul_comm]; omega)
 unfold mapV cenV tx ty
 dsimp only
 omega
end Go.V
namespace Go.V
def atD (d : List Int) (u : Nat) : Int := d.getD u (-1)
def zi0 (g : Gnd) (ok : Nat → Bool) (c : Int) (goal : Nat) (d : List Int) : Bool :=
 decide (d.length = g.T.length) && d.all (fun x => decide (x = -1 ∨ 0 ≤ x)) && decide (atD d goal = 0) &&
 (List.range g.T.length).all (fun u => decide (u = goal) || decide (atD d u < 0) || (ok u && (List.range g.T.length).any fun t => ok t && decide (0 ≤ atD d t) && (List.range 8).any fun way =>
  decide (besN g t way = u) && decide (0 < yx g ok c t way) && decide (atD d t + yx g ok c t way ≤ atD d u))) &&
 (List.range g.T.length).all (fun t => decide (atD d t < 0) || !ok t || (List.range 8).all fun way => decide (yx g ok c t way ≤ 0) ||
  (decide (0 ≤ atD d (besN g t way).toNat) && decide (atD d (besN g t way).toNat ≤ atD d t + yx g ok c t way)))
theorem zrn {g : Gnd} {ok : Nat → Bool} {c : Int} {goal : Nat} {d : List Int} (h : zi0 g ok c goal d = true) : FarOK (vw g ok c) goal (atD d) := by
 unfold zi0 at h
 simp only [Bool.and_eq_true, decide_eq_true_eq, List.all_eq_true, List.any_eq_true, Bool.or_eq_true, Bool.not_eq_true', List.mem_range] at h
 obtain ⟨⟨⟨⟨h1, h2⟩, h3⟩, h4⟩, h5⟩ := h
 have out : ∀ u, g.T.length ≤ u → atD d u = -1 := fun u hu => by
  unfold atD
  rw [List.getD_eq_getElem?_getD, List.getElem?_eq_none (by omega)]
  rfl
 refine ⟨fun u => ?_, h3, fun u hu hl => ?_, fun t u k ht hE => ?_⟩
 ·by_cases hu : u < g.T.length
  ·have hd : u < d.length := by omega
   have : atD d u = d[u] := by unfold atD; rw [List.getD_eq_getElem?_getD, List.getElem?_eq_getElem hd]; rfl
   rw [this]
   exact h2 _ (List.getElem_mem hd)
  ·exact .inl (out u (by omega))
 ·have hun : u < g.T.length := by
   apply Decidable.byContradiction
   intro hx
   rw [out u (by omega)] at hl
   omega
  rcases h4 u hun with (h6 | h6) | ⟨h6, t, htn, ⟨h7, h8⟩, way, hw, ⟨h9, h10⟩, h11⟩
  ·exact absurd h6 hu
  ·omega
  ·exact ⟨t, yx g ok c t way, h8, ⟨h7, htn, way, hw, h9, h6, rfl, h10⟩, h11⟩
 ·obtain ⟨hok, htn, way, hw, hb, hok2, hk, hp⟩ := hE
  rcases h5 t htn with (h6 | h6) | h6
  ·omega
  ·rw [hok] at h6; cases h6
  ·rcases h6 way hw with h7 | ⟨h7, h8⟩
   ·omega
   ·rw [hb, Int.toNat_natCast] at h7 h8
    rw [hk]
    exact ⟨h7, h8⟩
theorem zmc {g : Gnd} {ok : Nat → Bool} {c : Int} {goal : Nat} (hok : ok goal = true) {d : List Int} (h : zi0 g ok c goal d = true) : farF g ok c goal = atD d := zrm hok (zrn h)
/-- The next tile, as its costs are told. -/
def yia (w : Wld) (u : Unt) (own : Nat) (d : Nat → Int) : Int :=
 if u.pos ≠ cenV w.G own then own else
  (let way := if d own ≤ 0 then -1 else match (List.range 8).find? fun way => decide (0 < yx w.G (okU w u) (kCls u.kind) own way ∧ 0 ≤ d (besN w.G own way).toNat ∧ yx w.G (okU w u) (kCls u.kind) own way + d (besN w.G own way).toNat = d own) with
   | some way => (way : Int)
   | none => -1
   if way < 0 then -1 else besN w.G own way.toNat)
def yi7 (w : Wld) (u : Unt) (d : Nat → Int) : Wld :=
 if u.pos = cenV w.G u.goal.toNat then putU w (endU 2 u)
 else if zdu w u (xc w.G u.pos) then
  (if yia w u (xc w.G u.pos) d < 0 then putU w (endU 3 u) else zht w { u with next := yia w u (xc w.G u.pos) d })
 else zht w u
def zo5 (w : Wld) (u : Unt) (d : Nat → Int) : Wld := if u.goal = -1 then znq w u else yi7 w u d
theorem yce {w : Wld} {u : Unt} {d : Nat → Int} (h : farF w.G (okU w u) (kCls u.kind) u.goal.toNat = d) : wu w u = zo5 w u d := by
 subst h
 rfl
end Go.V
namespace Go.V
theorem znb {l : List (Int × Int)} (h : ki l) (x : Int × Int) : UpF (qat (l ++ [x])) (l ++ [x]).length l.length := by
 have h2 : zlj (qat (l ++ [x])) l.length := fun j h0 hj => by
  rw [zfa l x j hj, zfa l x (par j) (by have := js h0; omega)]
  exact h j h0 hj
 have := yc1 h2
 simpa using this
theorem zm8 {l : List (Int × Int)} {i : Nat} (h : UpF (qat l) l.length i) (h0 : 0 < i) (hi : i < l.length) (hl : qlt (qat l i) (qat l (par i))) :
  UpF (qat (j8 l i (par i))) (j8 l i (par i)).length (par i) ∧ (j8 l i (par i)).Perm l := by
 have hp := js h0
 rw [zlx hi (by omega), j7]
 exact ⟨yc0 h h0 hi hl, ze7 hi (by omega)⟩
theorem ze9 {l : List (Int × Int)} {i : Nat} (h : UpF (qat l) l.length i) (hi : i = 0 ∨ ¬ qlt (qat l i) (qat l (par i))) : ki l := yc2 h hi
theorem zna (l : List (Int × Int)) (x : Int × Int) : (l ++ [x]).Perm (x :: l) := List.perm_append_singleton x l
/-- The last one comes to the top. -/
theorem zp1 {l : List (Int × Int)} {n : Nat} (hl : l.length = n + 1) : l.Perm (qat l 0 :: (l.set 0 (qat l n)).take n) := by
 obtain ⟨a, t, rfl⟩ : ∃ a t, l = a :: t := by
  cases l with
  | nil => simp at hl
  | cons a t => exact ⟨a, t, rfl⟩
 simp only [List.length_cons, Nat.add_right_cancel_iff] at hl
 have e0 : qat (a :: t) 0 = a := rfl
 rw [e0]
 refine List.Perm.cons a ?_
 cases n with
 | zero =>
  have : t = [] := List.eq_nil_of_length_eq_zero hl
  subst this
  simp
 | succ n =>
  have e1 : qat (a :: t) (n + 1) = t[n]'(by omega) := by
   rw [zh5 (by simp; omega)]
   rfl
  rw [e1]
  show t.Perm ((t[n]'(by omega) :: t).take (n + 1))
  rw [List.take_succ_cons]
  have e2 : t = t.take n ++ [t[n]'(by omega)] := by
   have h1 := List.take_append_drop n t
   have h2 : t.drop n = [t[n]'(by omega)] := by
    rw [List.drop_eq_getElem_cons (by omega), List.drop_eq_nil_of_le (by omega)]
   rw [h2] at h1
   exact h1.symm
  exact (List.Perm.of_eq e2).trans (List.perm_append_singleton _ _)
theorem zp2 {l : List (Int × Int)} {n : Nat} (hl : l.length = n + 1) (h : ki l) : zha (qat ((l.set 0 (qat l n)).take n)) ((l.set 0 (qat l n)).take n).length 0 := by
 have hlen : ((l.set 0 (qat l n)).take n).length = n := by simp; omega
 rw [hlen]
 have h2 : zlj (qat l) (n + 1) := by rw [← hl]; exact h
 have key : ∀ j, 0 < j → j < n → qat ((l.set 0 (qat l n)).take n) j = qat l j := fun j h0 hj => by
  unfold qat
  simp only [List.getD, List.getElem?_take_of_lt hj]
  rw [List.getElem?_set_ne (by omega)]
 refine ⟨fun j h0 hj hp => ?_, fun j h0 hj hp h1 => by omega⟩
 rw [key j h0 hj, key (par j) (by omega) (by have := js h0; omega)]
 exact h2 j h0 (by omega)
theorem ya6 {l : List (Int × Int)} (h : ki l) : ∀ e ∈ l, ¬ qlt e (qat l 0) := fun e he => by
 obtain ⟨j, hj, rfl⟩ := List.getElem_of_mem he
 rw [← zh5 hj]
 exact ybk h j hj
theorem zp3 {l : List (Int × Int)} {i : Nat} (h : zha (qat l) l.length i) (hc : l.length ≤ 2 * i + 1) : ki l :=
 zi6 h fun j h0 hj hp => by
  rcases (vi h0).1 hp with e | e <;> omega
/-- The lesser child k. -/
theorem zdo {l : List (Int × Int)} {i k : Nat} (h : zha (qat l) l.length i) (hk : ∀ j, 0 < j → j < l.length → par j = i → ¬ qlt (qat l j) (qat l k)) (hs : ¬ qlt (qat l k) (qat l i)) : ki l :=
 zi6 h fun j h0 hj hp => zau hs (hk j h0 hj hp)
theorem zdp {l : List (Int × Int)} {i k : Nat} (h : zha (qat l) l.length i) (hk0 : 0 < k) (hk : k < l.length) (hki : par k = i) (hmin : ∀ j, 0 < j → j < l.length → par j = i → ¬ qlt (qat l j) (qat l k)) (hl : qlt (qat l k) (qat l i)) :
  zha (qat (j8 l i k)) (j8 l i k).length k ∧ (j8 l i k).Perm l := by
 have hp := js hk0
 rw [zlx (by omega) hk, j7]
 exact ⟨zrt h hk0 hk hki hmin hl, ze7 (by omega) hk⟩
theorem zeb {f : Nat → Int × Int} {n i k : Nat} (hk : k = 2 * i + 1 ∧ (2 * i + 2 < n → ¬ qlt (f (2 * i + 2)) (f (2 * i + 1))) ∨ k = 2 * i + 2 ∧ qlt (f (2 * i + 2)) (f (2 * i + 1))) : ∀ j, 0 < j → j < n → par j = i → ¬ qlt (f j) (f k) := by
 intro j h0 hj hp
 rcases (vi h0).1 hp with e | e
 ·subst e
  rcases hk with ⟨rfl, _⟩ | ⟨rfl, h2⟩
  ·exact zkb _
  ·exact zcr h2
 ·subst e
  rcases hk with ⟨rfl, h1⟩ | ⟨rfl, h2⟩
  ·exact h1 hj
  ·exact zkb _
end Go.V
namespace Go.V
def sumN : Nat → (Nat → Nat) → Nat
 | 0, _ => 0
 | n + 1, f => sumN n f + f n
theorem zbj {f g : Nat → Nat} : ∀ n, (∀ t, t < n → f t = g t) → sumN n f = sumN n g
 | 0, _ => rfl
 | n + 1, h => by
  show sumN n f + f n = sumN n g + g n
  rw [zbj n (fun t ht => h t (by omega)), h n (by omega)]
theorem zjz {f g : Nat → Nat} : ∀ n, (∀ t, t < n → f t ≤ g t) → sumN n f ≤ sumN n g
 | 0, _ => Nat.le_refl _
 | n + 1, h => by
  show sumN n f + f n ≤ sumN n g + g n
  have := zjz n (fun t ht => h t (by omega))
  have := h n (by omega)
  omega
theorem zbi (c : Nat) : ∀ n, sumN n (fun _ => c) = n * c
 | 0 => by simp [sumN]
 | n + 1 => by
  show sumN n (fun _ => c) + c = _
  rw [zbi c n, Nat.succ_mul]
/-- One place is another. -/
theorem zf9 {f g : Nat → Nat} {u : Nat} : ∀ n, u < n → (∀ t, t < n → t ≠ u → f t = g t) → sumN n f + g u = sumN n g + f u
 | 0, hu, _ => by omega
 | n + 1, hu, h => by
  show sumN n f + f n + g u = sumN n g + g n + f u
  by_cases e : u = n
  ·subst e
   rw [zbj u (fun t ht => h t (by omega) (by omega))]
   omega
  ·have := zf9 (f := f) (g := g) n (by omega) (fun t ht hne => h t (by omega) hne)
   have := h n (by omega) (Ne.symm e)
   omega
/-- How many are told. -/
def zc6 (n : Nat) (d : Nat → Int) : Nat := sumN n fun t => if 0 ≤ d t then 1 else 0
theorem yc6 (n : Nat) (d : Nat → Int) : zc6 n d ≤ n := by
 have := zjz (f := fun t => if 0 ≤ d t then 1 else 0) (g := fun _ => 1) n (fun t _ => by split <;> omega)
 rw [zbi] at this
 unfold zc6
 omega
theorem zst {n : Nat} {d : Nat → Int} {u : Nat} (hu : u < n) (h : d u < 0) {x : Int} (hx : 0 ≤ x) : zc6 n (updN d u x) = zc6 n d + 1 := by
 have := zf9 (f := fun t => if 0 ≤ updN d u x t then 1 else 0) (g := fun t => if 0 ≤ d t then 1 else 0) n hu (fun t _ hne => by simp only [yn hne])
 simp only [yj, if_pos hx, if_neg (show ¬ 0 ≤ d u by omega)] at this
 unfold zc6
 omega
theorem zss {n : Nat} {d : Nat → Int} {u : Nat} (h : 0 ≤ d u) {x : Int} (hx : 0 ≤ x) : zc6 n (updN d u x) = zc6 n d := by
 unfold zc6
 refine zbj n fun t _ => ?_
 by_cases e : t = u
 ·subst e; rw [yj, if_pos hx, if_pos h]
 ·rw [yn e]
/-- Costs stay small. -/
def zk5 (n : Nat) (d : Nat → Int) : Prop := ∀ t, d t ≤ 84 * (zc6 n d : Int) - 84 ∨ d t < 0
theorem zoe {n goal : Nat} (hg : goal < n) {d : Nat → Int} (hd : ∀ u, d u = if u = goal then 0 else -1) : zk5 n d := by
 intro t
 have h1 : 1 ≤ zc6 n d := by
  have := zf9 (f := fun t => if 0 ≤ d t then 1 else 0) (g := fun t => if t = goal then 0 else if 0 ≤ d t then 1 else 0) n hg (fun t _ hne => by rw [if_neg hne])
  have h0 : (if 0 ≤ d goal then 1 else 0) = 1 := by rw [hd, if_pos rfl]; rfl
  simp only [if_true, h0] at this
  unfold zc6
  omega
 rw [hd]
 split
 ·left; omega
 ·right; omega
theorem zfp {n : Nat} {d : Nat → Int} (h : zk5 n d) {t u : Nat} {c : Int} (hu : u < n) (ht : 0 ≤ d t) (hc : 0 < c ∧ c ≤ 84) (hl : d u < 0 ∨ d t + c < d u) : zk5 n (updN d u (d t + c)) := by
 have hdt := h t
 by_cases hn : d u < 0
 ·have e := zst (n := n) hu hn (show 0 ≤ d t + c by omega)
  intro v
  rw [e]
  by_cases ev : v = u
  ·subst ev; rw [yj]; omega
  ·rw [yn ev]
   have := h v
   omega
 ·have e := zss (n := n) (d := d) (u := u) (by omega) (show 0 ≤ d t + c by omega)
  intro v
  rw [e]
  by_cases ev : v = u
  ·subst ev; rw [yj]
   have := h v
   omega
  ·rw [yn ev]; exact h v
theorem zg0 {n : Nat} {d : Nat → Int} (h : zk5 n d) (t : Nat) : d t ≤ 84 * (n : Int) := by
 have := h t
 have := yc6 n d
 omega
/-- How many are not done. -/
def zdq (n : Nat) (dn : Nat → Bool) : Nat := sumN n fun t => if dn t then 0 else 1
theorem zqc {n : Nat} {dn : Nat → Bool} {t : Nat} (ht : t < n) (h : dn t = false) : zdq n (updN dn t true) + 1 = zdq n dn := by
 have := zf9 (f := fun v => if updN dn t true v = true then 0 else 1) (g := fun v => if dn v = true then 0 else 1) n ht (fun v _ hne => by simp only [yn hne])
 simp only [yj, h, if_true, Bool.false_eq_true, if_false] at this
 unfold zdq
 omega
end Go.V
namespace Go.V
def itC (x : Int × Int) : List AV := [int x.1, int x.2]
theorem w7 (x : Int × Int) : (itC x).length = 2 := rfl
structure QAt (F : Store) (p b cap : Nat) (l : List (Int × Int)) (L : List AV) : Prop where
 hp : F.obj p = some (.cells [.s (.slice (some ⟨b, 0, none⟩) l.length cap)])
 hb : F.obj b = some (.cells ((rws itC l).flatten ++ L))
 ne : b ≠ p
 h1 : l.length ≤ cap
 h2 : cap * 2 ≤ l.length * 2 + L.length
 h3 : cap ≤ 9223372036854775807
def QOf (F : Store) (p : Nat) (l : List (Int × Int)) : Prop := (F.obj p = some (.cells [.s (.slice none 0 0)]) ∧ l = []) ∨ ∃ b cap L, QAt F p b cap l L
theorem QOf.rows {F : Store} {p : Nat} {l : List (Int × Int)} (h : QOf F p l) : ∃ v, F.obj p = some (.cells [v]) ∧ RowsO 2 itC F v l ∧ ∀ b c0, v = .s (.slice (some ⟨b, 0, none⟩) l.length c0) → b ≠ p := by
 rcases h with ⟨h, rfl⟩ | ⟨b, cap, L, h⟩
 ·exact ⟨_, h, .inl ⟨rfl, rfl⟩, fun b c0 e => by simp at e⟩
 ·refine ⟨_, h.hp, .inr ⟨b, cap, L, rfl, h.hb, h.h1, h.h2, h.h3⟩, fun b' c0 e => ?_⟩
  simp only [AV.s.injEq, Value.slice.injEq, Option.some.injEq, Addr.mk.injEq] at e
  exact e.1.1 ▸ h.ne
theorem QOf.pos {F : Store} {p : Nat} {l : List (Int × Int)} (h : QOf F p l) (hl : 0 < l.length) : ∃ b cap L, QAt F p b cap l L := by
 rcases h with ⟨h, rfl⟩ | h
 ·exact absurd hl (Nat.lt_irrefl 0)
 ·exact h
/-- One element is written. -/
theorem zqu {l : List (Int × Int)} {i : Nat} (hi : i < l.length) (x : Int × Int) (L : List AV) : zm ((rws itC l).flatten ++ L) (0 + i * 2) (itC x) = (rws itC (l.set i x)).flatten ++ L := by
 have := zdd (f := itC) (k := 2) w7 hi (j := 0) (x' := x) (ys := itC x) (L := L) (by show 0 + 2 ≤ 2; omega) (by
  unfold zm
  rw [w7]
  rfl)
 rw [Nat.add_zero] at this
 rw [Nat.zero_add]
 exact this
theorem yy {l : List (Int × Int)} {L : List AV} {i : Nat} (hi : i < l.length) : List.drop (0 + i * 2) ((rws itC l).flatten ++ L) = itC (qat l i) ++ ((rws itC (l.drop (i + 1))).flatten ++ L) := by
 have h1 : (rws itC (l.take i)).flatten.length = i * 2 := by rw [y9 w7, List.length_take, Nat.min_eq_left (by omega)]
 rw [Nat.zero_add, zaq hi, List.append_assoc, ← h1, List.drop_left, List.append_assoc, zh5 hi]
theorem kl {l : List (Int × Int)} {L : List AV} {i : Nat} (hi : i < l.length) (x : Int × Int) : 0 + i * 2 + (itC x).length ≤ ((rws itC l).flatten ++ L).length := by
 rw [List.length_append, y9 w7, w7]
 omega
theorem QAt.set {F : Store} {p b cap : Nat} {l : List (Int × Int)} {L : List AV} (h : QAt F p b cap l L) {i : Nat} (hi : i < l.length) (x : Int × Int) : QAt (F.setObj b (.cells (zm ((rws itC l).flatten ++ L) (0 + i * 2) (itC x)))) p b cap (l.set i x) L := by
 rw [zqu hi]
 exact ⟨by rw [zf (Ne.symm h.ne), List.length_set]; exact h.hp, zb _ _ _, h.ne, by rw [List.length_set]; exact h.h1, by rw [List.length_set]; exact h.h2, h.h3⟩
/-- The last one is cut off. -/
theorem QAt.cut {F : Store} {p b cap : Nat} {l : List (Int × Int)} {L : List AV} (h : QAt F p b cap l L) {n : Nat} (hn : n ≤ l.length) : QAt (F.setObj p (.cells [.s (.slice (some ⟨b, 0, none⟩) n cap)])) p b cap (l.take n) ((rws itC (l.drop n)).flatten ++ L) := by
 have e : (rws itC (l.take n)).flatten ++ ((rws itC (l.drop n)).flatten ++ L) = (rws itC l).flatten ++ L := by
  rw [← List.append_assoc, ← vg, List.take_append_drop]
 have hl : (l.take n).length = n := by rw [List.length_take]; omega
 refine ⟨by rw [zb, hl], by rw [zf h.ne, e]; exact h.hb, h.ne, by rw [hl]; have := h.h1; omega, ?_, h.h3⟩
 have := h.h2
 rw [hl, List.length_append, y9 w7, List.length_drop]
 omega
end Go.V
namespace Go.V
def wh (v : Int) (k : Nat) (t : Nat) : Int := if t < k then v else 0
theorem zm7 {n k m : Nat} {v : Int} (hk : m ≤ k) (hn : k + m ≤ n) : zm (il n (wh v k)) (0 + k * 1) ((List.drop (0 + 0 * 1) (il n (wh v k))).take (m * 1)) = il n (wh v (k + m)) := by
 have e : (List.drop (0 + 0 * 1) (il n (wh v k))).take (m * 1) = List.replicate m (int v) := by
  rw [show 0 + 0 * 1 = 0 from rfl, List.drop_zero, Nat.mul_one]
  apply List.ext_getElem
  ·rw [List.length_take, yq, List.length_replicate]; omega
  ·intro i h1 h2
   rw [List.length_replicate] at h2
   rw [List.getElem_take, List.getElem_replicate]
   simp only [il, List.getElem_map, List.getElem_range]
   rw [wh, if_pos (by omega)]
 rw [e]
 unfold zm
 rw [List.length_replicate, show 0 + k * 1 = k by omega]
 apply List.ext_getElem?
 intro i
 by_cases h1 : i < k
 ·rw [List.append_assoc, List.getElem?_append_left (by rw [List.length_take, yq]; omega), List.getElem?_take_of_lt h1, vo (by omega), vo (by omega), wh, wh, if_pos h1, if_pos (by omega)]
 ·by_cases h2 : i < k + m
  ·rw [List.append_assoc, List.getElem?_append_right (by rw [List.length_take, yq]; omega), List.length_take, yq, List.getElem?_append_left (by rw [List.length_replicate]; omega), List.getElem?_replicate, if_pos (by omega), vo (by omega), wh, if_pos h2]
  ·rw [List.getElem?_append_right (by rw [List.length_append, List.length_take, yq, List.length_replicate]; omega), List.length_append, List.length_take, yq, List.length_replicate, List.getElem?_drop, show k + m + (i - (min k n + m)) = i by omega]
   by_cases h3 : i < n
   ·rw [vo h3, vo h3, wh, wh, if_neg h1, if_neg h2]
   ·rw [List.getElem?_eq_none (by rw [yq]; omega), List.getElem?_eq_none (by rw [yq]; omega)]
theorem yif (n : Nat) (v : Int) : il n (wh v n) = il n fun _ => v := za3 fun t ht => if_pos ht
/-- A tile's neighbours, in an array. -/
def besV (g : Gnd) (t : Nat) : AV := .agg (il 8 (besN g t))
def zee (g : Gnd) (t i : Nat) (j : Nat) : Int := if j < i then besN g t j else 0
theorem zr6 (g : Gnd) (t : Nat) : il 8 (zee g t 8) = il 8 (besN g t) := za3 fun j hj => if_pos hj
theorem yhc (g : Gnd) (t : Nat) {i : Nat} (hi : i < 8) : besN g t i = zds g ((t : Int) % g.W) ((t : Int) / g.W) (dirL.getD i (0, 0)) := by
 unfold besN zen
 rw [List.getD_eq_getElem?_getD, List.getElem?_map, List.getD_eq_getElem?_getD, List.getElem?_eq_getElem (show i < dirL.length from hi)]
 rfl
theorem zr5 (g : Gnd) (t : Nat) {i : Nat} (v : Int) (hv : v = besN g t i) : setI (zee g t i) i v = zee g t (i + 1) := funext fun j => by
 unfold setI zee
 by_cases h : j = i
 ·subst h
  rw [if_pos rfl, if_pos (by omega), hv]
 ·rw [if_neg h]
  by_cases h2 : j < i
  ·rw [if_pos h2, if_pos (by omega)]
  ·rw [if_neg h2, if_neg (by omega)]
def dirC : List AV := (dirL.map wayC).flatten
theorem ybx {i : Nat} (hi : i < 8) : dirC.drop (i * 2) = wayC (dirL.getD i (0, 0)) ++ dirC.drop (i * 2 + 2) := by
 have h : i = 0 ∨ i = 1 ∨ i = 2 ∨ i = 3 ∨ i = 4 ∨ i = 5 ∨ i = 6 ∨ i = 7 := by omega
 rcases h with rfl | rfl | rfl | rfl | rfl | rfl | rfl | rfl <;> rfl
theorem yja {i : Nat} (hi : i < 8) : (-1 ≤ (dirL.getD i (0, 0)).1 ∧ (dirL.getD i (0, 0)).1 ≤ 1) ∧ -1 ≤ (dirL.getD i (0, 0)).2 ∧ (dirL.getD i (0, 0)).2 ≤ 1 := by
 have h : i = 0 ∨ i = 1 ∨ i = 2 ∨ i = 3 ∨ i = 4 ∨ i = 5 ∨ i = 6 ∨ i = 7 := by omega
 rcases h with rfl | rfl | rfl | rfl | rfl | rfl | rfl | rfl <;> decide
end Go.V
namespace Go.V
def wayO (g : Gnd) (ok : Nat → Bool) (c : Int) (t i : Nat) : Nat → Nat → Int → Prop := fun a u k => a = t ∧ ∃ w, i ≤ w ∧ w < 8 ∧ besN g t w = (u : Int) ∧ k = yx g ok c t w
theorem zk0 {E : Nat → Nat → Int → Prop} {n goal : Nat} {d : Nat → Int} {dn : Nat → Bool} {q q' : List (Int × Int)} {cur : Int} {O : Nat → Nat → Int → Prop} (h : DJ E n goal d dn q cur O) (hp : q.Perm q') : DJ E n goal d dn q' cur O :=
 ⟨h.lab, h.gl, h.pre, h.rel, h.mono, fun e he => h.ent e (hp.mem_iff.2 he), fun u hu hn => hp.mem_iff.1 (h.wait u hu hn)⟩
section
variable {g : Gnd} {ok : Nat → Bool} {c : Int} {n goal : Nat} {d : Nat → Int} {dn : Nat → Bool} {q : List (Int × Int)} {cur : Int}
theorem zmq {t : Nat} (h : DJ (vw g ok c) n goal d dn q cur (fun a _ _ => a = t)) : DJ (vw g ok c) n goal d dn q cur (wayO g ok c t 0) :=
 zk1 h fun a u k ha hn hE => by
  obtain ⟨_, _, w, hw, h1, _, h2, _⟩ := hE
  subst ha
  exact absurd ⟨rfl, w, Nat.zero_le _, hw, h1, h2⟩ hn
theorem zsj {t : Nat} (h : DJ (vw g ok c) n goal d dn q cur (wayO g ok c t 8)) : DJ (vw g ok c) n goal d dn q cur zki :=
 zk1 h fun a u k ha hn hE => by
  obtain ⟨_, w, h1, h2, _⟩ := ha
  omega
theorem zc2 {t i : Nat} (h : DJ (vw g ok c) n goal d dn q cur (wayO g ok c t i)) (hp : ∀ u : Nat, besN g t i = u → 0 < yx g ok c t i → 0 ≤ d u ∧ d u ≤ d t + yx g ok c t i) : DJ (vw g ok c) n goal d dn q cur (wayO g ok c t (i + 1)) :=
 zk1 h fun a u k ha hn hE => by
  obtain ⟨rfl, w, h1, h2, h3, rfl⟩ := ha
  by_cases hw : w = i
  ·subst hw
   exact hp u h3 (zcz _ _ _ hE)
  ·exact absurd ⟨rfl, w, by omega, h2, h3, rfl⟩ hn
theorem yi9 {O : Nat → Nat → Int → Prop} (h : DJ (vw g ok c) n goal d dn q cur O) (hgoal : ok goal = true) {u : Nat} (hu : 0 ≤ d u) : ok u = true := by
 by_cases e : u = goal
 ·rw [e]; exact hgoal
 ·obtain ⟨t, k, _, _, hE, _⟩ := h.pre u e hu
  obtain ⟨_, _, _, _, _, h1, _⟩ := hE
  exact h1
end
/-- What is popped: nothing, or the least. -/
def keyO : Option (Int × Int) → Int
 | none => 0
 | some x => x.1
def valO : Option (Int × Int) → Int
 | none => 0
 | some x => x.2
/-- Costs and marks in memory. -/
def fldS (S : Store) (b b2 n : Nat) (d : Nat → Int) (dn : Nat → Bool) : Store := (S.setObj b (.cells (il n d))).setObj b2 (.cells (bl n dn))
section
variable {S : Store} {b b2 n : Nat}
theorem yin (hb : b ≠ b2) (d : Nat → Int) (dn : Nat → Bool) : (fldS S b b2 n d dn).obj b = some (.cells (il n d)) := by
 unfold fldS
 rw [zf hb, zb]
theorem yim (d : Nat → Int) (dn : Nat → Bool) : (fldS S b b2 n d dn).obj b2 = some (.cells (bl n dn)) := zb _ _ _
theorem yi8 {i : Nat} {x : AObj} (hf : Fresh S b) (hf2 : Fresh (S.setObj b x) b2) {y : AObj} (h : S.obj i = some y) (d : Nat → Int) (dn : Nat → Bool) : (fldS S b b2 n d dn).obj i = some y := by
 have h1 : i ≠ b := fun e => by rw [e, hf.1] at h; cases h
 have h2 : i ≠ b2 := fun e => by
  have := hf2.1
  rw [← e, zf h1, h] at this; cases this
 unfold fldS
 rw [zf h2, zf h1]
 exact h
theorem zma (hb : b ≠ b2) (d d' : Nat → Int) (dn : Nat → Bool) : (fldS S b b2 n d dn).setObj b (.cells (il n d')) = fldS S b b2 n d' dn := by
 unfold fldS
 rw [jf hb, zg]
theorem ybn (d : Nat → Int) (dn dn' : Nat → Bool) : (fldS S b b2 n d dn).setObj b2 (.cells (bl n dn')) = fldS S b b2 n d dn' := zg _ _ _ _
theorem fld_has {d : Nat → Int} {dn : Nat → Bool} {i : Nat} : (fldS S b b2 n d dn).has i ↔ i = b2 ∨ i = b ∨ S.has i := by
 unfold fldS
 rw [has_setObj_iff, has_setObj_iff]
theorem ybo {F : Store} {d d' : Nat → Int} {dn dn' : Nat → Bool} (h : Disj F (fldS S b b2 n d dn)) : Disj F (fldS S b b2 n d' dn') := fun i h1 h2 => h i h1 (fld_has.2 (fld_has.1 h2))
theorem ybp (hf : Fresh S b) {x : AObj} (hf2 : Fresh (S.setObj b x) b2) {F : Store} (hb : b ≠ b2) {d : Nat → Int} {dn : Nat → Bool} : (F.un (fldS S b b2 n d dn)).Has (S.setObj b (.cells (il n d))) := by
 have hn : (S.setObj b (.cells (il n d))).obj b2 = none := by
  have := hf2.1
  rw [zf (Ne.symm hb)] at this ⊢
  exact this
 exact ⟨fun i y hi => un_r ((yp hn).obj i y hi), fun i y hi => zhl hi⟩
end
theorem zl6 (n : Nat) (d : Nat → Int) (u : Nat) (v : Int) (hu : u < n) : zm (il n d) (0 + u * 1) [int v] = il n (updN d u v) := by
 rw [show 0 + u * 1 = u by omega, zca hu]
 rfl
theorem yis (n : Nat) (d : Nat → Bool) (u : Nat) (v : Bool) (hu : u < n) : zm (bl n d) (0 + u * 1) [bool v] = bl n (updN d u v) := by
 rw [show 0 + u * 1 = u by omega]
 have := zfu (f := d) hu (updN d u v) (fun s hs => yn hs)
 rw [yj] at this
 exact this
theorem zgm {n : Nat} {f : Nat → Int} {t : Nat} (h : t < n) : ((il n f).drop (t * 1)).head? = some (int (f t)) := by
 have := xb (f := f) h
 rwa [Nat.zero_add] at this
theorem yba (n : Nat) (dn : Nat → Bool) : zdq n dn ≤ n := by
 have := zjz (f := fun t => if dn t = true then 0 else 1) (g := fun _ => 1) n (fun t _ => by split <;> omega)
 rw [zbi] at this
 unfold zdq
 omega
end Go.V
namespace Go.V
def za5 (g : Gnd) (ok : Nat → Bool) (c : Int) (d : Nat → Int) (t w : Nat) : Prop := 0 < yx g ok c t w ∧ 0 ≤ d (besN g t w).toNat ∧ yx g ok c t w + d (besN g t w).toNat = d t
theorem zn3 {p : Nat → Bool} {n j : Nat} (hj : j < n) (hp : p j = true) (hn : ∀ w, w < j → p w = false) : (List.range n).find? p = some j := by
 rw [List.find?_range_eq_some]
 exact ⟨hp, List.mem_range.2 hj, fun w hw => by rw [hn w hw]; rfl⟩
theorem zrh {p : Nat → Bool} {n : Nat} (hn : ∀ w, w < n → p w = false) : (List.range n).find? p = none := by
 rw [List.find?_eq_none]
 intro w hw
 rw [hn w (List.mem_range.1 hw)]
 decide
section
variable {g : Gnd} {ok : Nat → Bool} {c : Int} {d : Nat → Int} {t : Nat}
theorem zsk (h : d t ≤ 0) : wayF g ok c d t = -1 := by
 unfold wayF
 rw [if_pos h]
theorem zoy (h : ¬ d t ≤ 0) {j : Nat} (hj : j < 8) (hp : za5 g ok c d t j) (hn : ∀ w, w < j → ¬ za5 g ok c d t w) : wayF g ok c d t = (j : Int) := by
 unfold wayF
 rw [if_neg h, zn3 hj (by exact decide_eq_true hp) (fun w hw => by exact decide_eq_false (hn w hw))]
theorem zoz (h : ¬ d t ≤ 0) (hn : ∀ w, w < 8 → ¬ za5 g ok c d t w) : wayF g ok c d t = -1 := by
 unfold wayF
 rw [if_neg h, zrh (fun w hw => by exact decide_eq_false (hn w hw))]
end
theorem ycz (g : Gnd) (ok : Nat → Bool) (c : Int) (d : Nat → Int) (t : Nat) : wayF g ok c d t = -1 ∨ ∃ j : Nat, j < 8 ∧ wayF g ok c d t = (j : Int) ∧ za5 g ok c d t j := by
 unfold wayF
 split
 ·exact .inl rfl
 ·cases h : (List.range 8).find? fun way => decide (0 < yx g ok c t way ∧ 0 ≤ d (besN g t way).toNat ∧ yx g ok c t way + d (besN g t way).toNat = d t) with
  | none => exact .inl rfl
  | some j =>
   have h1 := List.mem_of_find?_eq_some h
   have h2 := List.find?_some h
   exact .inr ⟨j, List.mem_range.1 h1, rfl, by simp only [decide_eq_true_eq] at h2; exact h2⟩
/-- The ways of the first tiles. -/
noncomputable def wg (g : Gnd) (ok : Nat → Bool) (c : Int) (d : Nat → Int) (i t : Nat) : Int := if t < i then wayF g ok c d t else -1
theorem zew {g : Gnd} {ok : Nat → Bool} {c : Int} {d : Nat → Int} {i : Nat} : wg g ok c d (i + 1) = updN (wg g ok c d i) i (wayF g ok c d i) := funext fun t => by
 unfold wg updN
 dsimp only
 by_cases h : t = i
 ·subst h; rw [if_pos (by omega), if_pos rfl]
 ·rw [if_neg h]
  by_cases h2 : t < i
  ·rw [if_pos h2, if_pos (by omega)]
  ·rw [if_neg h2, if_neg (by omega)]
theorem zev {g : Gnd} {ok : Nat → Bool} {c : Int} {d : Nat → Int} {i : Nat} (h : wayF g ok c d i = -1) : wg g ok c d (i + 1) = wg g ok c d i := by
 rw [zew, h]
 funext t
 unfold updN wg
 by_cases h : t = i
 ·subst h; rw [if_pos rfl, if_neg (by omega)]
 ·rw [if_neg h]
theorem zmp (g : Gnd) (ok : Nat → Bool) (c : Int) (d : Nat → Int) : wg g ok c d 0 = fun _ => -1 := funext fun t => if_neg (Nat.not_lt_zero t)
theorem zox (g : Gnd) (ok : Nat → Bool) (c : Int) (d : Nat → Int) (n : Nat) : il n (wg g ok c d n) = il n (wayF g ok c d) := za3 fun t ht => if_pos ht
/-- Two lists of numbers in memory. -/
def twoS (S : Store) (b b2 n : Nat) (d f : Nat → Int) : Store := (S.setObj b (.cells (il n d))).setObj b2 (.cells (il n f))
section
variable {S : Store} {b b2 n : Nat}
theorem yix (hb : b ≠ b2) (d f : Nat → Int) : (twoS S b b2 n d f).obj b = some (.cells (il n d)) := by
 unfold twoS
 rw [zf hb, zb]
theorem yiw (d f : Nat → Int) : (twoS S b b2 n d f).obj b2 = some (.cells (il n f)) := zb _ _ _
theorem yiv {i : Nat} {x : AObj} (hf : Fresh S b) (hf2 : Fresh (S.setObj b x) b2) {y : AObj} (h : S.obj i = some y) (d f : Nat → Int) : (twoS S b b2 n d f).obj i = some y := by
 have h1 : i ≠ b := fun e => by rw [e, hf.1] at h; cases h
 have h2 : i ≠ b2 := fun e => by
  have := hf2.1
  rw [← e, zf h1, h] at this; cases this
 unfold twoS
 rw [zf h2, zf h1]
 exact h
theorem zsp (d f f' : Nat → Int) : (twoS S b b2 n d f).setObj b2 (.cells (il n f')) = twoS S b b2 n d f' := zg _ _ _ _
theorem zo8 {x : AObj} (hb : b ≠ b2) (hf2 : Fresh (S.setObj b x) b2) : Fresh S b2 := by
 have := hf2
 unfold Fresh at this ⊢
 rw [zf (Ne.symm hb)] at this
 exact this
theorem zsq (hf : Fresh S b) (hb : b ≠ b2) (d f : Nat → Int) : (twoS S b b2 n d f).Has (S.setObj b2 (.cells (il n f))) := by
 unfold twoS
 rw [jf (Ne.symm hb)]
 refine yp ?_
 rw [zf hb]
 exact hf.1
end
end Go.V
namespace Go.V
def wi (v : Vc) : Prop := (-1099511627776 ≤ v.1 ∧ v.1 ≤ 1099511627776) ∧ (-1099511627776 ≤ v.2 ∧ v.2 ≤ 1099511627776)
theorem xf {v : Vc} (h : wi v) : kr v := by unfold wi at h; unfold kr; omega
theorem yc7 {v : Vc} (h : wi v) : v.ok := by
 unfold wi at h
 exact ⟨⟨by omega, by omega⟩, ⟨by omega, by omega⟩⟩
theorem zcq {p q : Vc} (hp : mapV p) (hq : mapV q) : wi (vsub q p) := by
 rw [(zhd hp hq).1]
 unfold mapV at hp hq
 unfold wi
 dsimp only
 omega
theorem zq0 {w : Wld} {u : Unt} (hu : mapV u.pos) (h : ∀ x ∈ w.U, x.inn = 0 → mapV x.pos) (hl : w.U.length ≤ 4096) : wi (znr w u) := by
 have key : ∀ (l : List Unt) (v : Vc) (B : Nat), (∀ x ∈ l, x.inn = 0 → mapV x.pos) → B + l.length ≤ 4096 → (v.1.natAbs ≤ B * 16777216 ∧ v.2.natAbs ≤ B * 16777216) →
   wi (l.foldl (fun v x => if x.inn = 0 ∧ x.id ≠ u.id then vadd v (ww u.pos (kRad u.kind + kRad x.kind + 16384) x.pos) else v) v) := by
  intro l
  induction l with
  | nil =>
   intro v B _ hB hv
   unfold wi
   simp only [List.length_nil] at hB
   simp only [List.foldl_nil]
   omega
  | cons x l ih =>
   intro v B hx hB hv
   simp only [List.length_cons] at hB
   rw [List.foldl_cons]
   refine ih _ (B + 1) (fun y hy => hx y (List.mem_cons_of_mem _ hy)) (by omega) ?_
   split
   ·rename_i hc
    have r1 := yf7 u.kind
    have r2 := yf7 x.kind
    have := zfb hu (hx x List.mem_cons_self hc.1) (r := kRad u.kind + kRad x.kind + 16384) (by omega)
    generalize ww u.pos (kRad u.kind + kRad x.kind + 16384) x.pos = z at *
    have e : vadd v z = (v.1 + z.1, v.2 + z.2) := by
     unfold vadd
     rw [zbv (by omega) (by omega), zbv (by omega) (by omega)]
    rw [e]
    dsimp only
    omega
   ·exact ⟨Nat.le_trans hv.1 (Nat.mul_le_mul_right _ (Nat.le_succ B)), Nat.le_trans hv.2 (Nat.mul_le_mul_right _ (Nat.le_succ B))⟩
 unfold znr
 refine key w.U (0, 0) 0 h (by omega) ⟨?_, ?_⟩
 ·show (0 : Int).natAbs ≤ _; simp
 ·show (0 : Int).natAbs ≤ _; simp
end Go.V
namespace Go.V
theorem zi2 : ∀ {a b : List Unt}, (a.map (·.id)).Pairwise (· < ·) → (b.map (·.id)).Pairwise (· < ·) → (∀ u, u ∈ a ↔ u ∈ b) → a = b
 | [], [], _, _, _ => rfl
 | [], y :: b, _, _, h => absurd ((h y).2 List.mem_cons_self) (by simp)
 | x :: a, [], _, _, h => absurd ((h x).1 List.mem_cons_self) (by simp)
 | x :: a, y :: b, ha, hb, h => by
  rw [List.map_cons, List.pairwise_cons] at ha hb
  have hx := (h x).1 List.mem_cons_self
  have hy := (h y).2 List.mem_cons_self
  have e : x = y := by
   rcases List.mem_cons.1 hx with e | hx
   ·exact e
   ·rcases List.mem_cons.1 hy with e | hy
    ·exact e.symm
    ·have h1 := hb.1 _ (List.mem_map.2 ⟨x, hx, rfl⟩)
     have h2 := ha.1 _ (List.mem_map.2 ⟨y, hy, rfl⟩)
     omega
  subst e
  refine congrArg _ (zi2 ha.2 hb.2 fun u => ⟨fun hu => ?_, fun hu => ?_⟩)
  ·rcases List.mem_cons.1 ((h u).1 (List.mem_cons_of_mem _ hu)) with e | e
   ·have := ha.1 _ (List.mem_map.2 ⟨u, hu, rfl⟩)
    rw [e] at this
    omega
   ·exact e
  ·rcases List.mem_cons.1 ((h u).2 (List.mem_cons_of_mem _ hu)) with e | e
   ·have := hb.1 _ (List.mem_map.2 ⟨u, hu, rfl⟩)
    rw [e] at this
    omega
   ·exact e
/-- Ways that are numbers as they count. -/
def nV (v : Vc) : Prop := (-9223372036854775807 ≤ v.1 ∧ v.1 ≤ 9223372036854775807) ∧ (-9223372036854775807 ≤ v.2 ∧ v.2 ≤ 9223372036854775807)
theorem yco (a b : Vc) : nV (vadd a b) := ⟨zd8 _ _, zd8 _ _⟩
theorem ygh {v : Vc} (h : nV v) : v.ok := by
 unfold nV at h
 exact ⟨⟨by omega, by omega⟩, ⟨by omega, by omega⟩⟩
theorem zi1 {a : Int} (h : -9223372036854775807 ≤ a ∧ a ≤ 9223372036854775807) : fadd a 0 = a := by
 unfold fadd
 rw [qf (by omega), qf (by omega)]
 unfold wj
 split
 ·omega
 ·split <;> omega
theorem zo1 {v : Vc} (h : nV v) : vadd v (0, 0) = v := by
 unfold vadd
 rw [zi1 h.1, zi1 h.2]
/-- What one adds. -/
def y7 (u : Unt) (v : Vc) (x : Unt) : Vc := if x.id ≠ u.id then vadd v (ww u.pos (kRad u.kind + kRad x.kind + 16384) x.pos) else v
theorem zql {u x : Unt} {v : Vc} (h : nV v) : nV (y7 u v x) := by
 unfold y7
 split
 ·exact yco _ _
 ·exact h
theorem zic {u : Unt} : ∀ (l : List Unt) {v : Vc}, nV v → nV (l.foldl (y7 u) v)
 | [], _, h => h
 | x :: l, _, h => zic l (zql h)
theorem ya7 {p q : Vc} {r : Int} (h : near p q r = false) : ww p r q = (0, 0) := by
 unfold ww
 rw [h]
 simp
theorem za4 (u : Unt) (r : Int) (hr : ∀ k, kRad u.kind + kRad k + 16384 ≤ r) : ∀ (l : List Unt) (v : Vc), nV v →
  l.foldl (fun v x => if x.inn = 0 ∧ x.id ≠ u.id then vadd v (ww u.pos (kRad u.kind + kRad x.kind + 16384) x.pos) else v) v = (l.filter fun x => decide (x.inn = 0) && near u.pos x.pos r).foldl (y7 u) v
 | [], v, _ => rfl
 | x :: l, v, h => by
  rw [List.foldl_cons, List.filter_cons]
  by_cases h0 : x.inn = 0
  ·cases hn : near u.pos x.pos r with
   | true =>
    simp only [h0, decide_true, Bool.and_self, if_true, List.foldl_cons, true_and]
    exact za4 u r hr l _ (zql h)
   | false =>
    have hf : near u.pos x.pos (kRad u.kind + kRad x.kind + 16384) = false := by
     cases hc : near u.pos x.pos (kRad u.kind + kRad x.kind + 16384) with
     | false => rfl
     | true => rw [zib (hr x.kind) hc] at hn; cases hn
    simp only [h0, decide_true, Bool.and_false, Bool.false_eq_true, if_false, true_and]
    rw [ya7 hf, zo1 h, ite_self]
    exact za4 u r hr l _ h
  ·simp only [h0, decide_false, Bool.false_and, Bool.false_eq_true, if_false, false_and]
   exact za4 u r hr l _ h
theorem ygs {w : Wld} {u : Unt} (hr : ye w.U) {us : List Unt} (hn : zkj w u.pos (kRad u.kind + 16384 + 81920) us) (hs : (us.map (·.id)).Pairwise (· < ·)) : znr w u = us.foldl (y7 u) (0, 0) := by
 unfold znr
 rw [za4 u (kRad u.kind + 16384 + 81920) (fun k => by have := (zb9 k).2; omega) w.U (0, 0) ⟨⟨by decide, by decide⟩, ⟨by decide, by decide⟩⟩]
 congr 1
 refine zi2 ?_ hs fun x => ?_
 ·have : (w.U.map (·.id)).Pairwise (· < ·) := by
   rw [List.pairwise_iff_getElem]
   intro i j hi hj hij
   rw [List.length_map] at hi hj
   simp only [List.getElem_map]
   exact xh hr hij hj
  exact this.sublist (List.filter_sublist.map _)
 ·rw [List.mem_filter, hn x, Bool.and_eq_true, decide_eq_true_iff]
  constructor
  ·rintro ⟨h1, h2, h3⟩; exact ⟨⟨h1, h2⟩, h3⟩
  ·rintro ⟨⟨h1, h2⟩, h3⟩; exact ⟨h1, h2, h3⟩
/-- A way's halves. -/
theorem ygt {v : Vc} (h : nV v) (k : Nat) : nV (zbt v k) := by
 obtain ⟨h1, h2⟩ := h
 have e1 := zl7 v.1 k
 have e2 := zl7 v.2 k
 unfold nV zbt
 dsimp only
 omega
theorem yhq {v : Vc} (h : v.ok) : nV (vnrm v) := by
 obtain ⟨h1, h2⟩ := h
 have e1 := zaw h1
 have e2 := zaw h2
 unfold nV vnrm
 dsimp only
 omega
/-- One more try. -/
theorem zpb {w : Wld} {u : Unt} {v : Vc} {n k : Nat} (h0 : zbt v k ≠ (0, 0)) (hc : ¬ qg w u.id u.kind (vadd u.pos (zbt v k))) : tryL w u v (n + 1) k = tryL w u v n (k + 1) := by
 show (if _ then _ else if _ then _ else _) = _
 rw [if_neg h0, if_neg hc]
theorem zo9 {w : Wld} {u : Unt} {v : Vc} {n k : Nat} (h0 : zbt v k = (0, 0)) : tryL w u v (n + 1) k = none := by
 show (if _ then _ else if _ then _ else _) = _
 rw [if_pos h0]
theorem zpa {w : Wld} {u : Unt} {v : Vc} {n k : Nat} (h0 : zbt v k ≠ (0, 0)) (hc : qg w u.id u.kind (vadd u.pos (zbt v k))) : tryL w u v (n + 1) k = some (k, vadd u.pos (zbt v k)) := by
 show (if _ then _ else if _ then _ else _) = _
 rw [if_neg h0, if_pos hc]
theorem yfp {k : Nat} (hk : k < 5) : IntKind.i64.wrap (1 * 2 ^ (min ((k : Int)).toNat IntKind.i64.bits)) = ((2 ^ k : Nat) : Int) := by
 have : k = 0 ∨ k = 1 ∨ k = 2 ∨ k = 3 ∨ k = 4 := by omega
 rcases this with rfl | rfl | rfl | rfl | rfl <;> decide
end Go.V
namespace Go.V
structure MayF (w : Wld) : Prop where
 hg : gndP w.G
 hB : w.B.length ≤ 256
 hU : w.U.length ≤ 4096
 hT : w.G.T.length ≤ 16384
 hb : ∀ b ∈ w.B, bldP b ∧ onP w.G b
 hk : ∀ u ∈ w.U, zcn u.kind
 hr : ye w.U
 hn1 : 1 ≤ w.next
 hn2 : w.next ≤ 1099511627776
theorem mayF {w : Wld} (h : mayP w) : MayF w := by
 obtain ⟨⟨hh, hok⟩, _⟩ := h
 have hbl := hh.2.1.2.1
 have ha := ya hh.2.1.1
 exact ⟨hh.2.1.1, hbl.1, hh.2.1.2.2, by omega, fun b hb => ⟨(hbl.2.2.1 b hb).1, (hbl.2.2.1 b hb).2.1⟩, fun u hu => (hok.2 u hu).1.1.2.2, hok.1, hh.1.2.2.1, hh.1.2.2.2⟩
theorem MayF.fits {w : Wld} (h : MayF w) : w.fits := ⟨by unfold Gnd.fits; have := h.hT; omega, by have := h.hB; omega, by have := h.hU; omega⟩
theorem zqs (k : Int) : 0 ≤ qx k ∧ qx k ≤ 3 := by unfold qx; split <;> decide
end Go.V
namespace Go.V
theorem ygg (g : Gnd) (t : Nat) : zen g t = (List.range 8).map (besN g t) := by
 apply List.ext_getElem
 ·rw [zax, List.length_map, List.length_range]
 ·intro i h1 h2
  rw [zax] at h1
  simp only [List.getElem_map, List.getElem_range]
  unfold besN
  rw [List.getD_eq_getElem?_getD, List.getElem?_eq_getElem (by rw [zax]; exact h1)]
  rfl
theorem ybd (g : Gnd) (t : Nat) (x : Int) : (zen g t).contains x = (List.range 8).any fun j => besN g t j == x := by
 rw [ygg, List.contains_eq_any_beq, List.any_map]
 congr 1
 funext j
 show (x == besN g t j) = _
 rw [Bool.eq_iff_iff, beq_iff_eq, beq_iff_eq]
 exact eq_comm
theorem zse {p : Nat → Bool} {n k : Nat} (hk : k < n) (hp : p k = true) : (List.range n).any p = true := List.any_eq_true.2 ⟨k, List.mem_range.2 hk, hp⟩
theorem yca {p : Nat → Bool} {n : Nat} (hp : ∀ k, k < n → p k = false) : (List.range n).any p = false := by
 rw [List.any_eq_false]
 intro k hk
 rw [hp k (List.mem_range.1 hk)]
 decide
end Go.V
namespace Go.V
def wkG : Gnd := ⟨2, 1, [0, 0]⟩
def wkW0 : Wld := { tick := 0, players := 1, next := 2, G := wkG, B := [], U := [{ id := 1, owner := 1, kind := 0, pos := (32768, 32768), goal := 1, next := -1, stuck := 0, inn := 0, state := 1 }] }
def wkD : List Int := [20, 0]
def unt1 : Unt := { id := 0, owner := 0, kind := 0, pos := (0, 0), goal := 0, next := 0, stuck := 0, inn := 0, state := 0 }
def oneU (w : Wld) : Unt := w.U.headD unt1
def wkS : Nat → Wld
 | 0 => wkW0
 | n + 1 => zo5 (wkS n) (oneU (wkS n)) (atD wkD)
theorem zlk : ∀ n, n < 6 → mayP (wkS n) := by decide +kernel
theorem zb1 : ∀ n, n < 6 → (wkS n).U = [oneU (wkS n)] ∧ (oneU (wkS n)).id = 1 ∧ (oneU (wkS n)).inn = 0 ∧ (wkS n).G = wkG ∧ (wkS n).B = [] := by decide +kernel
theorem yhl : ∀ n, n < 5 → okU (wkS n) (oneU (wkS n)) (oneU (wkS n)).goal.toNat = true ∧ zi0 (wkS n).G (okU (wkS n) (oneU (wkS n))) (kCls (oneU (wkS n)).kind) (oneU (wkS n)).goal.toNat wkD = true := by decide +kernel
theorem yhm : (oneU (wkS 5)).pos = cenV wkG 1 ∧ (oneU (wkS 5)).state = 2 := by decide +kernel
theorem yhn : cenV wkG 0 = (32768, 32768) := by decide +kernel
theorem ycw {n : Nat} (hn : n < 5) : wu (wkS n) (oneU (wkS n)) = wkS (n + 1) := by
 obtain ⟨h1, h2⟩ := yhl n hn
 exact yce (zmc h1 h2)
theorem ycc : gndP wkG := by decide +kernel
end Go.V
namespace Go.V
structure Scr24 where
 W : Wld
 I : List Int
 V : List Vc
def zhy (s : Scr24) : List AV := wldC s.W ++ [ints s.I, lst 2 vecC s.V]
def Scr24.good (s : Scr24) : Prop := (∀ u ∈ s.W.U, u.pos.ok) ∧ (∀ n ∈ s.I, yv n) ∧ ∀ v ∈ s.V, v.ok
theorem ygk {p : Vc} (h : mapV p) : p.ok := by
 unfold mapV at h
 exact ⟨⟨by omega, by omega⟩, ⟨by omega, by omega⟩⟩
/-- A world whose walk may be stepped: it may play, and its places are words. -/
def playW (w : Wld) : Prop := mayP w ∧ ∀ u ∈ w.U, u.pos.ok
theorem playW.sizes {w : Wld} (h : playW w) : w.G.T.length ≤ 1000000 ∧ w.B.length ≤ 1000000 ∧ w.U.length ≤ 1000000 := by
 have f := mayF h.1
 have := f.hB
 have := f.hU
 have := f.hT
 omega
end Go.V
