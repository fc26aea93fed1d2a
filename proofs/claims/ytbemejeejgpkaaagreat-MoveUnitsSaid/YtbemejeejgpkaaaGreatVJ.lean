/- The ground on which laws of thronglaw24 are proved: contracts of functions and plain lemmas; no condition beyond the row's own. -/
import Derived.Test.YtbemejeejgpkaaaGreatVI
import Derived.Test.YtbemejeejgpkaaaGreatVH
import Derived.Test.YtbemejeejgpkaaaGreatVF
set_option linter.unusedSimpArgs false
set_option linter.unusedVariables false
namespace Go.V
def vadd (a b : Vc) : Vc := (fadd a.1 b.1, fadd a.2 b.2)
def vnrm (v : Vc) : Vc := (nrm v.1, nrm v.2)
def ki (v : Vc) (k : Nat) : Vc := (v.1.tdiv (2 ^ k : Nat), v.2.tdiv (2 ^ k : Nat))
/-- The root, bit by bit. -/
def yhw (m : Int) : Nat -> Int -> Int
 | 0, r => r
 | b + 1, r => yhw m b (if (r + (2 ^ b : Nat)) * (r + (2 ^ b : Nat)) <= m then r + (2 ^ b : Nat) else r)
def jl (m : Int) : Int := yhw m 63 0
theorem yhv {m : Int} (hm : 0 <= m) : ∀ (b : Nat) (r : Int), 0 <= r -> r * r <= m -> (r + (2 ^ b : Nat) = 9223372036854775808 \/ m < (r + (2 ^ b : Nat)) * (r + (2 ^ b : Nat))) -> r + (2 ^ b : Nat) <= 9223372036854775808 -> zap m (yhw m b r) := by
 intro b
 induction b with
 | zero =>
  intro r h0 h1 h2 h3
  refine ⟨h0, ?_, h1, ?_⟩
  ·simp only [Nat.pow_zero] at h3
   show r <= _
   omega
  ·show r = _ \/ _
   simp only [Nat.pow_zero] at h2
   rcases h2 with h2 | h2
   ·exact .inl (by omega)
   ·exact .inr h2
 | succ b ih =>
  intro r h0 h1 h2 h3
  have hp : (2 ^ (b + 1) : Nat) = 2 ^ b + 2 ^ b := by rw [Nat.pow_succ]; omega
  have hq : 0 < 2 ^ b := Nat.pow_pos (by decide)
  rw [hp] at h2 h3
  generalize hB : 2 ^ b = B at *
  show zap m (yhw m b (if _ then _ else _))
  rw [hB]
  split
  ·rename_i hle
   refine ih (r + (B : Nat)) (by omega) hle ?_ (by omega)
   rw [Int.add_assoc, show ((B : Nat) : Int) + (B : Nat) = ((B + B : Nat) : Int) by omega]
   exact h2
  ·rename_i hle
   exact ih r h0 h1 (.inr (by omega)) (by omega)
theorem zab {m : Int} (hm : 0 <= m) : zap m (jl m) := yhv hm 63 0 (by decide) (by simpa using hm) (.inl (by decide)) (by decide)
theorem zf7 {m r : Int} (hm : 0 <= m) (h : zap m r) : r = jl m := zos h (zab hm)
/-- A part of a way that is cut. -/
def cutC (c most long : Int) : Int := if c < 0 then -((-c) * most / long) else c * most / long
def yz (v : Vc) (most : Int) : Vc :=
 if jl (sqr v) <= max most 0 then vnrm v else (cutC (nrm v.1) (max most 0) (jl (sqr v)), cutC (nrm v.2) (max most 0) (jl (sqr v)))
def xh (p q : Vc) (speed : Int) : Vc := yz (vsub q p) speed
/-- What pushes one away from another one. -/
def kf (p : Vc) (r : Int) (q : Vc) : Vc :=
 if near p q r then yz (if vsub p q = (0, 0) then (65536, 0) else vsub p q) (r - jl (sqr (vsub p q))) else (0, 0)
instance (w : Wld) (id k : Int) (p : Vc) : Decidable (ym w id k p) := by unfold ym ze5; infer_instance
/-- Where a unit comes to by a step, and how often that was halved. -/
def tryL (w : Wld) (u : Unt) (v : Vc) : Nat -> Nat -> Option (Nat × Vc)
 | 0, _ => none
 | n + 1, k => if ki v k = (0, 0) then none else if ym w u.id u.kind (vadd u.pos (ki v k)) then some (k, vadd u.pos (ki v k)) else tryL w u v n (k + 1)
def putU (w : Wld) (u : Unt) : Wld := { w with U := w.U.map fun x => if x.id = u.id then u else x }
def tryK (w : Wld) (u : Unt) (v : Vc) : Int := match tryL w u (vnrm v) 5 0 with | none => 5 | some (k, _) => (k : Int)
def tryW (w : Wld) (u : Unt) (v : Vc) : Wld := match tryL w u (vnrm v) 5 0 with | none => w | some (_, p) => putU w { u with pos := p }
/-- What pushes one without a goal. -/
def zbf (w : Wld) (u : Unt) : Vc := w.U.foldl (fun v x => if x.inn = 0 /\ x.id ≠ u.id then vadd v (kf u.pos (kRad u.kind + kRad x.kind + 16384) x.pos) else v) (0, 0)
def zow (w : Wld) (u : Unt) : Wld := tryW w u (yz (zbf w u) ((yl u.kind).tdiv 4))
def endU (s : Int) (u : Unt) : Unt := { u with goal := -1, next := -1, stuck := 0, state := s }
def okU (w : Wld) (u : Unt) (t : Nat) : Bool := zk w.G w.B (kCls u.kind) (yy u.kind) t
def jc (w : Wld) (u : Unt) (own : Nat) : Bool :=
 decide (u.next = -1) || decide (u.pos = cenV w.G u.next.toNat) || !okU w u u.next.toNat || (decide (u.next ≠ own) && !(jq w.G own).contains u.next)
/-- The next tile; below 0: there is none. -/
noncomputable def zac (w : Wld) (u : Unt) (own : Nat) : Int :=
 if u.pos ≠ cenV w.G own then own else
  (let way := wayF w.G (okU w u) (kCls u.kind) (farF w.G (okU w u) (kCls u.kind) u.goal.toNat) own
   if way < 0 then -1 else besN w.G own way.toNat)
/-- One step toward the next tile. -/
def w7 (w : Wld) (u : Unt) : Wld :=
 if tryK (putU w { u with stuck := 0 }) { u with stuck := 0 } (xh u.pos (cenV w.G u.next.toNat) (yl u.kind)) < 5 then tryW (putU w { u with stuck := 0 }) { u with stuck := 0 } (xh u.pos (cenV w.G u.next.toNat) (yl u.kind))
 else if u.stuck + 1 = 8 then putU w (endU 4 u) else putU w { u with stuck := u.stuck + 1, next := -1 }
noncomputable def zd7 (w : Wld) (u : Unt) : Wld :=
 if u.pos = cenV w.G u.goal.toNat then putU w (endU 2 u)
 else if jc w u (qm w.G u.pos) then
  (if zac w u (qm w.G u.pos) < 0 then putU w (endU 3 u) else w7 w { u with next := zac w u (qm w.G u.pos) })
 else w7 w u
/-- What a unit on the field does in a tick. -/
noncomputable def vi (w : Wld) (u : Unt) : Wld := if u.goal = -1 then zow w u else zd7 w u
end Go.V
namespace Go.V
theorem qe {w : Wld} (hr : yf w.U) {i : Nat} (hi : i < w.U.length) {u : Unt} (hid : u.id = w.U[i].id) : putU w u = { w with U := w.U.set i u } := by
 unfold putU
 congr 1
 refine List.ext_getElem (by simp) fun j h1 h2 => ?_
 have hj : j < w.U.length := by simpa using h1
 rw [List.getElem_map, List.getElem_set]
 by_cases e : i = j
 ·subst e
  rw [if_pos hid.symm, if_pos rfl]
 ·rw [if_neg e, if_neg]
  intro hx
  rcases Nat.lt_or_gt_of_ne e with h | h
  ·have := xd hr h hj; omega
  ·have := xd hr h hi; omega
theorem zjy {w : Wld} (hr : yf w.U) {i : Nat} (hi : i < w.U.length) {u : Unt} (hid : u.id = w.U[i].id) : ∃ h2 : i < (putU w u).U.length, (putU w u).U[i] = u := by
 rw [qe hr hi hid]
 exact ⟨by simpa using hi, by simp⟩
theorem zjx (w : Wld) (u : Unt) : (putU w u).U.length = w.U.length := by simp [putU]
theorem zvm {w : Wld} (hr : yf w.U) {i : Nat} (hi : i < w.U.length) {u : Unt} (hid : u.id = w.U[i].id) {j : Nat} (hj : j < w.U.length) (hij : j ≠ i) : (putU w u).U[j]'(by rw [zjx]; exact hj) = w.U[j] := by
 have h := qe hr hi hid
 have : (putU w u).U = w.U.set i u := by rw [h]
 simp only [this]
 rw [List.getElem_set, if_neg (Ne.symm hij)]
/-- New orders. -/
theorem zgm {w : Wld} (hm : mayP w) {i : Nat} (hi : i < w.U.length) (h0 : w.U[i].inn = 0) {u : Unt} (h1 : mvG 0 u = mvG 0 w.U[i]) (h2 : untP w u) : mayP (putU w u) := by
 have hid : u.id = w.U[i].id := (za6 h1).1
 rw [qe hm.1.2.1 hi hid]
 have get : ∀ j, (hj : j < w.U.length) -> (w.U.set i u)[j]'(by simpa using hj) = if i = j then u else w.U[j] := fun j hj => List.getElem_set ..
 refine zsi hm (by simp) (fun j hj => ?_) (fun j hj hn => ?_) (fun j hj => ?_)
 ·rw [get j hj]
  split
  ·rename_i e; subst e; exact h1
  ·rfl
 ·rw [get j hj]
  split
  ·rename_i e; subst e; exact absurd h0 hn
  ·rfl
 ·rw [get j hj]
  split
  ·exact h2
  ·exact (hm.1.2.2 _ (List.getElem_mem hj)).1
theorem zbn {w : Wld} {u : Unt} {v : Vc} : ∀ (n k : Nat) {r : Nat × Vc}, tryL w u v n k = some r -> ym w u.id u.kind r.2 /\ (k <= r.1 /\ r.1 < k + n) /\ r.2 = vadd u.pos (ki v r.1)
 | 0, k, r, h => by cases h
 | n + 1, k, r, h => by
  unfold tryL at h
  split at h
  ·cases h
  ·split at h
   ·cases h
    exact ⟨‹_›, by omega, rfl⟩
   ·obtain ⟨h1, h2, h3⟩ := zbn n (k + 1) h
    exact ⟨h1, by omega, h3⟩
/-- A step. -/
theorem zwe {w : Wld} (hm : mayP w) {i : Nat} (hi : i < w.U.length) (h0 : w.U[i].inn = 0) (v : Vc) : mayP (tryW w w.U[i] v) := by
 unfold tryW
 cases h : tryL w w.U[i] (vnrm v) 5 0 with
 | none => exact hm
 | some r =>
  obtain ⟨k, p⟩ := r
  dsimp only
  obtain ⟨h1, _, _⟩ := zbn 5 0 h
  rw [qe (u := { w.U[i] with pos := p }) hm.1.2.1 hi rfl]
  have := zwf hm hi h1
  have e : ({ w.U[i] with pos := p, inn := 0 } : Unt) = { w.U[i] with pos := p } := by rw [<- h0]
  rw [e] at this
  exact this
theorem zpu {w : Wld} (hm : mayP w) {i : Nat} (hi : i < w.U.length) : untP w w.U[i] := (hm.1.2.2 _ (List.getElem_mem hi)).1
theorem zyq {w : Wld} {u : Unt} (h : untP w u) {s : Int} (hs : s = 2 \/ s = 3 \/ s = 4) : untP w (endU s u) := by
 obtain ⟨⟨a1, a2, a3⟩, _, _, _⟩ := h
 refine ⟨⟨a1, a2, a3⟩, ⟨.inl rfl, .inl rfl, by show (0 : Int) <= 0 /\ (0 : Int) < 8; omega⟩, ⟨by show 0 <= s /\ s <= 4; omega, ?_⟩, fun _ => ⟨rfl, rfl⟩⟩
 show s = 1 ↔ (-1 : Int) ≠ -1
 omega
theorem zfp {w : Wld} {u : Unt} (h : untP w u) (hg : u.goal ≠ -1) {nx st : Int} (hn : wz w.G nx) (hs : 0 <= st /\ st < 8) : untP w { u with next := nx, stuck := st } := by
 obtain ⟨⟨a1, a2, a3⟩, ⟨b1, b2, b3⟩, c, d⟩ := h
 exact ⟨⟨a1, a2, a3⟩, ⟨b1, hn, hs⟩, c, fun e => absurd e hg⟩
theorem zoq {w : Wld} (hm : mayP w) {i : Nat} (hi : i < w.U.length) (h0 : w.U[i].inn = 0) {s : Int} (hs : s = 2 \/ s = 3 \/ s = 4) {u : Unt} (hu : mvG 0 u = mvG 0 w.U[i]) (hup : untP w u) : mayP (putU w (endU s u)) :=
 zgm hm hi h0 (by rw [<- hu]; rfl) (zyq hup hs)
theorem zqm {w : Wld} (hm : mayP w) {i : Nat} (hi : i < w.U.length) (h0 : w.U[i].inn = 0) {u : Unt} (hu : mvG 0 u = mvG 0 w.U[i]) (hup : untP w u) (hg : u.goal ≠ -1) : mayP (w7 w u) := by
 have hid : u.id = w.U[i].id := (za6 hu).1
 have hin : u.inn = w.U[i].inn := (za6 hu).2.2.2.2
 unfold w7
 split
 ·have hp : untP w { u with stuck := 0 } := zfp hup hg hup.2.1.2.1 (by omega)
  have hm2 : mayP (putU w { u with stuck := 0 }) := zgm hm hi h0 (by rw [<- hu]; rfl) hp
  obtain ⟨h2, e⟩ := zjy (u := { u with stuck := 0 }) hm.1.2.1 hi hid
  have := zwe hm2 h2 (by rw [e]; exact hin.trans h0) (xh u.pos (cenV w.G u.next.toNat) (yl u.kind))
  rw [e] at this
  exact this
 ·split
  ·exact zoq hm hi h0 (.inr (.inr rfl)) hu hup
  ·rename_i h8
   have := hup.2.1.2.2
   exact zgm hm hi h0 (by rw [<- hu]; rfl) (zfp hup hg (.inl rfl) (by omega))
theorem zvy {w : Wld} (hm : mayP w) {i : Nat} (hi : i < w.U.length) (h0 : w.U[i].inn = 0) : (0 <= w.U[i].pos.1 /\ w.U[i].pos.1 < w.G.W * 65536) /\ (0 <= w.U[i].pos.2 /\ w.U[i].pos.2 < w.G.H * 65536) := by
 have := zqr hm.1.1.2.1.1 (hm.2.1 _ (List.getElem_mem hi) h0).1
 have := this.1
 have := this.2
 omega
theorem zqe {w : Wld} (hm : mayP w) {i : Nat} (hi : i < w.U.length) (h0 : w.U[i].inn = 0) : qm w.G w.U[i].pos < w.G.T.length := (zfw hm.1.1.2.1.1 (zvy hm hi h0)).2.1
theorem zji {g : Gnd} (hg : gndP g) {t : Nat} (h : t < g.T.length) : wz g (t : Int) := .inr (by have := hg.2.2.1; omega)
theorem yjg (g : Gnd) (ok : Nat -> Bool) (c : Int) (d : Nat -> Int) (t : Nat) : wayF g ok c d t = -1 \/ ∃ way : Nat, way < 8 /\ wayF g ok c d t = way /\ 0 < yr g ok c t way := by
 unfold wayF
 split
 ·exact .inl rfl
 ·cases h : (List.range 8).find? fun way => decide (0 < yr g ok c t way /\ 0 <= d (besN g t way).toNat /\ yr g ok c t way + d (besN g t way).toNat = d t) with
  | none => exact .inl rfl
  | some way =>
   have h1 := List.mem_of_find?_eq_some h
   have h2 := List.find?_some h
   exact .inr ⟨way, by simpa using h1, rfl, (of_decide_eq_true h2).1⟩
theorem zdx {w : Wld} (hg : gndP w.G) {u : Unt} {own : Nat} (ho : own < w.G.T.length) : wz w.G (zac w u own) := by
 unfold zac
 split
 ·exact zji hg ho
 ·dsimp only
  rcases yjg w.G (okU w u) (kCls u.kind) (farF w.G (okU w u) (kCls u.kind) u.goal.toNat) own with h | ⟨way, h1, h2, _⟩
  ·rw [h, if_pos (by decide)]; exact .inl rfl
  ·rw [h2, if_neg (by omega)]
   rcases zqy hg (t := own) (way := way) h1 with h3 | ⟨x, h3, h4⟩
   ·rw [Int.toNat_natCast, h3]; exact .inl rfl
   ·rw [Int.toNat_natCast, h3]; exact zji hg h4
theorem yif {w : Wld} (hm : mayP w) {i : Nat} (hi : i < w.U.length) (h0 : w.U[i].inn = 0) (hg : w.U[i].goal ≠ -1) : mayP (zd7 w w.U[i]) := by
 have hu := zpu hm hi
 unfold zd7
 split
 ·exact zoq hm hi h0 (.inl rfl) rfl hu
 ·split
  ·split
   ·exact zoq hm hi h0 (.inr (.inl rfl)) rfl hu
   ·exact zqm hm hi h0 (u := { w.U[i] with next := zac w w.U[i] (qm w.G w.U[i].pos) }) rfl (zfp hu hg (zdx hm.1.1.2.1.1 (zqe hm hi h0)) hu.2.1.2.2) hg
  ·exact zqm hm hi h0 rfl hu hg
/-- A world that may be stays one, whoever goes. -/
theorem yid {w : Wld} (hm : mayP w) {i : Nat} (hi : i < w.U.length) (h0 : w.U[i].inn = 0) : mayP (vi w w.U[i]) := by
 unfold vi
 split
 ·exact zwe hm hi h0 _
 ·exact yif hm hi h0 ‹_›
end Go.V
namespace Go.V
theorem yfs {a b : Int} (hb : 0 <= b) (h : a * a < b * b) : a < b := by
 refine Int.not_le.1 fun hle => ?_
 have := Int.mul_le_mul hle hle hb (by omega)
 omega
theorem zfz {a b : Int} (ha : 0 <= a) (h : a <= b) : a * a <= b * b := Int.mul_le_mul h h ha (by omega)
theorem yp8 {p q : Int} (hp : 0 <= p) (h : p < q) : p * p < q * q :=
 Int.lt_of_le_of_lt (Int.mul_le_mul_of_nonneg_left (Int.le_of_lt h) hp) (Int.mul_lt_mul_of_pos_right h (by omega))
theorem mul4 (a b c d : Int) : a * b * (c * d) = a * c * (b * d) := by ac_rfl
theorem yp1 {x y m L s a b : Int} (hx : 0 <= x) (hy : 0 <= y) (hm : 0 <= m) (hmL : m < L) (hs : x * x + y * y < (L + 1) * (L + 1)) (ha : a = x * m / L) (hb : b = y * m / L) : a * a + b * b < (m + 1) * (m + 1) := by
 have hL : 0 < L := by omega
 have a1 : a * L <= x * m := by rw [ha]; exact Int.ediv_mul_le _ (by omega)
 have b1 : b * L <= y * m := by rw [hb]; exact Int.ediv_mul_le _ (by omega)
 have a0 : 0 <= a := by rw [ha]; exact Int.ediv_nonneg (Int.mul_nonneg hx hm) (by omega)
 have b0 : 0 <= b := by rw [hb]; exact Int.ediv_nonneg (Int.mul_nonneg hy hm) (by omega)
 have a2 := zfz (Int.mul_nonneg a0 (by omega : (0:Int) <= L)) a1
 have b2 := zfz (Int.mul_nonneg b0 (by omega : (0:Int) <= L)) b1
 have e1 : (a * a + b * b) * (L * L) = a * L * (a * L) + b * L * (b * L) := by
  rw [Int.add_mul, mul4 a a L L, mul4 b b L L]
 have e2 : x * m * (x * m) + y * m * (y * m) = (x * x + y * y) * (m * m) := by
  rw [Int.add_mul, mul4 x x m m, mul4 y y m m]
 have h1 : (a * a + b * b) * (L * L) <= (x * x + y * y) * (m * m) := by rw [e1, <- e2]; exact Int.add_le_add a2 b2
 refine Int.not_le.1 fun hle => ?_
 have h2 : (m + 1) * (m + 1) * (L * L) <= (x * x + y * y) * (m * m) := Int.le_trans (Int.mul_le_mul_of_nonneg_right hle (Int.mul_nonneg (by omega) (by omega))) h1
 have h3 : (x * x + y * y) * (m * m) <= ((L + 1) * (L + 1)) * (m * m) := Int.mul_le_mul_of_nonneg_right (by omega) (Int.mul_nonneg hm hm)
 have e3 : (m + 1) * (m + 1) * (L * L) = ((m + 1) * L) * ((m + 1) * L) := mul4 ..
 have e4 : ((L + 1) * (L + 1)) * (m * m) = ((L + 1) * m) * ((L + 1) * m) := mul4 ..
 have h4 : ((L + 1) * m) * ((L + 1) * m) < ((m + 1) * L) * ((m + 1) * L) := by
  have k1 : (L + 1) * m < (m + 1) * L := by
   rw [Int.add_mul, Int.add_mul, Int.mul_comm L m]; omega
  have k0 : 0 <= (L + 1) * m := Int.mul_nonneg (by omega) hm
  exact yp8 k0 k1
 omega
/-- A way that is not great. -/
def xk (v : Vc) : Prop := (-1125899906842624 <= v.1 /\ v.1 <= 1125899906842624) /\ (-1125899906842624 <= v.2 /\ v.2 <= 1125899906842624)
theorem xj {v : Vc} (h : xk v) : sqr v = v.1 * v.1 + v.2 * v.2 /\ vnrm v = v /\ 0 <= sqr v /\ sqr v < (jl (sqr v) + 1) * (jl (sqr v) + 1) := by
 obtain ⟨h1, h2⟩ := h
 have e : sqr v = v.1 * v.1 + v.2 * v.2 := by unfold sqr; rw [zq0 (by omega), zq0 (by omega)]
 have p1 : 0 <= v.1 * v.1 := by rcases Int.le_total 0 v.1 with h | h; exact Int.mul_nonneg h h; rw [<- Int.neg_mul_neg]; exact Int.mul_nonneg (by omega) (by omega)
 have p2 : 0 <= v.2 * v.2 := by rcases Int.le_total 0 v.2 with h | h; exact Int.mul_nonneg h h; rw [<- Int.neg_mul_neg]; exact Int.mul_nonneg (by omega) (by omega)
 have b : ∀ x : Int, -1125899906842624 <= x /\ x <= 1125899906842624 -> x * x <= 1125899906842624 * 1125899906842624 := fun x hx => by
  rcases Int.le_total 0 x with h | h
  ·exact zfz h hx.2
  ·rw [<- Int.neg_mul_neg]; exact zfz (by omega) (by omega)
 have b1 := b _ h1
 have b2 := b _ h2
 have h0 : 0 <= sqr v := by omega
 refine ⟨e, ?_, h0, ?_⟩
 ·unfold vnrm; rw [qx (by omega), qx (by omega)]
 ·obtain ⟨r0, r1, r2, r3⟩ := zab h0
  rcases r3 with r3 | r3
  ·rw [r3] at r2; omega
  ·exact r3
theorem zey (x : Int) : x * x = (x.natAbs : Int) * x.natAbs := by rw [<- Int.natCast_mul, Int.natAbs_mul_self]
/-- How long it is told to be. -/
theorem yno {v : Vc} {m : Int} (hs : xk v) (hm : 0 <= m) (h : v.1 * v.1 + v.2 * v.2 < (m + 1) * (m + 1)) : jl (sqr v) <= m := by
 obtain ⟨e, _, h0, _⟩ := xj hs
 obtain ⟨r0, _, r2, _⟩ := zab h0
 have : jl (sqr v) < m + 1 := yfs (by omega) (by omega)
 omega
theorem zkk {c m L : Int} (hm : 0 <= m) (hL : 0 < L) : ((cutC c m L).natAbs : Int) = (c.natAbs : Int) * m / L := by
 have q : ∀ z : Int, 0 <= z -> 0 <= z * m / L := fun z hz => Int.ediv_nonneg (Int.mul_nonneg hz hm) (by omega)
 unfold cutC
 split
 ·have := q (-c) (by omega)
  rw [show (c.natAbs : Int) = -c by omega]; omega
 ·have := q c (by omega)
  rw [show (c.natAbs : Int) = c by omega]; omega
theorem zdf {c m L : Int} (hm : 0 <= m) (hmL : m < L) : (cutC c m L).natAbs <= c.natAbs := by
 have h1 := zkk (c := c) hm (show 0 < L by omega)
 have h2 : (c.natAbs : Int) * m / L <= c.natAbs := by
  have : (c.natAbs : Int) * m <= c.natAbs * L := Int.mul_le_mul_of_nonneg_left (by omega) (by omega)
  exact Int.le_trans (Int.ediv_le_ediv (by omega) this) (by rw [Int.mul_ediv_cancel _ (by omega)]; exact Int.le_refl _)
 omega
/-- A way that is cut is not longer. -/
theorem zdi {v : Vc} {m : Int} (hs : xk v) (hm : 0 <= m) : xk (yz v m) /\ (yz v m).1 * (yz v m).1 + (yz v m).2 * (yz v m).2 < (m + 1) * (m + 1) := by
 obtain ⟨e, en, h0, h1⟩ := xj hs
 have hmx : max m 0 = m := by omega
 have n1 : nrm v.1 = v.1 := congrArg Prod.fst en
 have n2 : nrm v.2 = v.2 := congrArg Prod.snd en
 have r0 := (zab h0).1
 unfold yz
 rw [hmx]
 split
 ·rename_i hle
  rw [en]
  refine ⟨hs, ?_⟩
  have := zfz (show 0 <= jl (sqr v) + 1 by omega) (show jl (sqr v) + 1 <= m + 1 by omega)
  omega
 ·rename_i hgt
  rw [n1, n2]
  have hmL : m < jl (sqr v) := by omega
  have c1 := zdf (c := v.1) hm hmL
  have c2 := zdf (c := v.2) hm hmL
  refine ⟨?_, ?_⟩
  ·unfold xk at hs ⊢
   dsimp only
   omega
  ·dsimp only
   rw [zey (cutC v.1 _ _), zey (cutC v.2 _ _)]
   refine yp1 (s := 0) (x := v.1.natAbs) (y := v.2.natAbs) (by omega) (by omega) hm hmL ?_ (zkk hm (by omega)) (zkk hm (by omega))
   rw [<- zey, <- zey]
   omega
theorem zqq (x : Int) (k : Nat) : (x.tdiv (2 ^ k : Nat)).natAbs <= x.natAbs := by
 rw [Int.natAbs_tdiv]
 exact Nat.div_le_self _ _
/-- A place of a map. -/
def mapV (p : Vc) : Prop := (0 <= p.1 /\ p.1 <= 8388608) /\ (0 <= p.2 /\ p.2 <= 8388608)
theorem jt {a b : Int} (ha : -2251799813685248 <= a /\ a <= 2251799813685248) (hb : -2251799813685248 <= b /\ b <= 2251799813685248) : fadd a b = a + b := by
 unfold fadd j2
 rw [qx (by omega), qx (by omega), if_neg (by omega), if_neg (by omega)]
theorem zfk {p q : Vc} (hp : mapV p) (hq : mapV q) : vsub q p = (q.1 - p.1, q.2 - p.2) /\ xk (vsub q p) := by
 obtain ⟨p1, p2⟩ := hp
 obtain ⟨q1, q2⟩ := hq
 have e := zhx (a := q) (b := p) (by omega) (by omega) (by omega) (by omega)
 refine ⟨e, ?_⟩
 rw [e]
 unfold xk
 dsimp only
 omega
/-- What one pushes another one is not great. -/
theorem zbu {p q : Vc} (hp : mapV p) (hq : mapV q) {r : Int} (hr : 0 < r) : -16777216 <= (kf p r q).1 /\ (kf p r q).1 <= 16777216 /\ -16777216 <= (kf p r q).2 /\ (kf p r q).2 <= 16777216 := by
 obtain ⟨e, hs⟩ := zfk hq hp
 unfold kf
 split
 ·rename_i hn
  generalize hm : r - jl (sqr (vsub p q)) = m
  have hv : ∀ w : Vc, xk w -> (w.1.natAbs <= 16777216 /\ w.2.natAbs <= 16777216) -> -16777216 <= (yz w m).1 /\ (yz w m).1 <= 16777216 /\ -16777216 <= (yz w m).2 /\ (yz w m).2 <= 16777216 := by
   intro w hw hb
   obtain ⟨_, en, _, _⟩ := xj hw
   have n1 : nrm w.1 = w.1 := congrArg Prod.fst en
   have n2 : nrm w.2 = w.2 := congrArg Prod.snd en
   unfold yz
   split
   ·rw [en]; omega
   ·rename_i hgt
    rw [n1, n2]
    have c1 := zdf (c := w.1) (m := max m 0) (L := jl (sqr w)) (by omega) (by omega)
    have c2 := zdf (c := w.2) (m := max m 0) (L := jl (sqr w)) (by omega) (by omega)
    dsimp only
    omega
  obtain ⟨p1, p2⟩ := hp
  obtain ⟨q1, q2⟩ := hq
  split
  ·exact hv _ (by unfold xk; decide) (by decide)
  ·refine hv _ hs ?_
   rw [e]
   dsimp only
   omega
 ·decide
theorem zsp {w : Wld} {u : Unt} (hu : mapV u.pos) (h : ∀ x ∈ w.U, x.inn = 0 -> mapV x.pos) (hl : w.U.length <= 4096) : xk (zbf w u) := by
 have key : ∀ (l : List Unt) (v : Vc) (B : Nat), (∀ x ∈ l, x.inn = 0 -> mapV x.pos) -> B + l.length <= 4096 -> (v.1.natAbs <= B * 16777216 /\ v.2.natAbs <= B * 16777216) ->
   xk (l.foldl (fun v x => if x.inn = 0 /\ x.id ≠ u.id then vadd v (kf u.pos (kRad u.kind + kRad x.kind + 16384) x.pos) else v) v) := by
  intro l
  induction l with
  | nil =>
   intro v B _ hB hv
   unfold xk
   simp only [List.length_nil] at hB
   simp only [List.foldl_nil]
   omega
  | cons x l ih =>
   intro v B hx hB hv
   simp only [List.length_cons] at hB
   rw [List.foldl_cons]
   refine ih _ (B + 1) (fun y hy => hx y (List.mem_cons_of_mem _ hy)) (by omega) ?_
   split
   ·rename_i hc
    have r1 := zoe u.kind
    have r2 := zoe x.kind
    have := zbu hu (hx x List.mem_cons_self hc.1) (r := kRad u.kind + kRad x.kind + 16384) (by omega)
    generalize kf u.pos (kRad u.kind + kRad x.kind + 16384) x.pos = z at *
    have e : vadd v z = (v.1 + z.1, v.2 + z.2) := by
     unfold vadd
     rw [jt (by omega) (by omega), jt (by omega) (by omega)]
    rw [e]
    dsimp only
    omega
   ·exact ⟨Nat.le_trans hv.1 (Nat.mul_le_mul_right _ (Nat.le_succ B)), Nat.le_trans hv.2 (Nat.mul_le_mul_right _ (Nat.le_succ B))⟩
 unfold zbf
 refine key w.U (0, 0) 0 h (by omega) ⟨?_, ?_⟩
 ·show (0 : Int).natAbs <= _; simp
 ·show (0 : Int).natAbs <= _; simp
end Go.V
namespace Go.V
theorem zc3 (w : Wld) {a b : Unt} (h : a.id = b.id) : putU (putU w a) b = putU w b := by
 unfold putU
 simp only [List.map_map]
 congr 1
 refine List.map_congr_left fun x _ => ?_
 simp only [Function.comp]
 by_cases e : x.id = a.id
 ·rw [if_pos e, if_pos h, if_pos (e.trans h)]
 ·rw [if_neg e]
theorem zvl {w : Wld} (hr : yf w.U) {i : Nat} (hi : i < w.U.length) : putU w w.U[i] = w := by
 rw [qe hr hi rfl]
 congr 1
 exact List.set_getElem_self hi
theorem zrx {w : Wld} (hr : yf w.U) {i : Nat} (hi : i < w.U.length) {u : Unt} (hid : u.id = w.U[i].id) : yf (putU w u).U := by
 refine zgb (zjx w u) (fun j hj => ?_) hr
 by_cases e : j = i
 ·subst e
  obtain ⟨_, h⟩ := zjy hr hi hid
  rw [h]; exact hid
 ·rw [zvm hr hi hid hj e]
/-- What a tick makes of a unit. -/
def zq7 (u u' : Unt) : Prop := u'.id = u.id /\ u'.kind = u.kind /\ (u'.pos = u.pos \/ ∃ (v : Vc) (m : Int) (k : Nat), xk v /\ 0 <= m /\ m <= yl u.kind /\ u'.pos = vadd u.pos (ki (vnrm (yz v m)) k))
theorem zds (k : Int) : 8192 <= yl k /\ yl k <= 24576 := by unfold yl; split <;> (try split) <;> (try split) <;> omega
theorem zpx {w : Wld} (hr : yf w.U) {i : Nat} (hi : i < w.U.length) {v : Vc} {m : Int} (hs : xk v) (hm : 0 <= m) (hm2 : m <= yl w.U[i].kind) : ∃ u', tryW w w.U[i] (yz v m) = putU w u' /\ zq7 w.U[i] u' := by
 unfold tryW
 cases h : tryL w w.U[i] (vnrm (yz v m)) 5 0 with
 | none => exact ⟨w.U[i], (zvl hr hi).symm, rfl, rfl, .inl rfl⟩
 | some r =>
  obtain ⟨k, p⟩ := r
  obtain ⟨_, _, h3⟩ := zbn 5 0 h
  exact ⟨_, rfl, rfl, rfl, .inr ⟨v, m, k, hs, hm, hm2, h3⟩⟩
theorem za8 {w : Wld} (hm : mayP w) {u : Unt} (hu : u ∈ w.U) (h0 : u.inn = 0) : mapV u.pos := by
 have := zqr hm.1.1.2.1.1 (hm.2.1 u hu h0).1
 unfold mapV
 omega
theorem zpj {g : Gnd} (hg : gndP g) {t : Nat} (ht : t < g.T.length) : mapV (cenV g t) := by
 obtain ⟨⟨h1, h2⟩, ⟨h3, h4⟩, h5, _⟩ := hg
 have a := Int.emod_nonneg (t : Int) (show g.W ≠ 0 by omega)
 have b := Int.emod_lt_of_pos (t : Int) (show 0 < g.W by omega)
 have c : 0 <= (t : Int) / g.W := Int.ediv_nonneg (by omega) (by omega)
 have d : (t : Int) / g.W < g.H := Int.ediv_lt_of_lt_mul (by omega) (by rw [Int.mul_comm]; omega)
 unfold mapV cenV tx ty
 dsimp only
 omega
theorem zlj {w : Wld} (hm : mayP w) {i : Nat} (hi : i < w.U.length) (h0 : w.U[i].inn = 0) {u : Unt} (hu : mvG 0 u = mvG 0 w.U[i]) (ht : u.next.toNat < w.G.T.length) : ∃ u', w7 w u = putU w u' /\ zq7 w.U[i] u' := by
 obtain ⟨f1, f2, f3, f4, f5⟩ := za6 hu
 have hmp := za8 hm (List.getElem_mem hi) h0
 have same : ∀ u' : Unt, u'.id = u.id -> u'.kind = u.kind -> u'.pos = u.pos -> ∃ u2, putU w u' = putU w u2 /\ zq7 w.U[i] u2 := fun u' a b c => ⟨u', rfl, a.trans f1, b.trans f3, .inl (c.trans f4)⟩
 unfold w7
 split
 ·obtain ⟨h2, e⟩ := zjy (u := { u with stuck := 0 }) hm.1.2.1 hi f1
  have hr2 := zrx (u := { u with stuck := 0 }) hm.1.2.1 hi f1
  have hs := (zfk (p := u.pos) (q := cenV w.G u.next.toNat) (by rw [f4]; exact hmp) (zpj hm.1.1.2.1.1 ht)).2
  have hsp := zds u.kind
  obtain ⟨u2, e2, k1, k2, k3⟩ := zpx hr2 h2 (v := vsub (cenV w.G u.next.toNat) u.pos) (m := yl u.kind) hs (by omega) (by rw [e]; exact Int.le_refl _)
  rw [e] at e2 k1 k2 k3
  refine ⟨u2, ?_, k1.trans f1, k2.trans f3, ?_⟩
  ·unfold xh
   rw [e2]
   exact zc3 w k1.symm
  ·rw [<- f4, <- f3]; exact k3
 ·split
  ·exact same _ rfl rfl rfl
  ·exact same _ rfl rfl rfl
theorem ynz {w : Wld} (hg : gndP w.G) {u : Unt} {own : Nat} (ho : own < w.G.T.length) (h : ¬ zac w u own < 0) : (zac w u own).toNat < w.G.T.length := by
 have := zdx hg (u := u) ho
 have := hg.2.2.1
 unfold wz at *
 omega
theorem zw6 {w : Wld} (hm : mayP w) {i : Nat} (hi : i < w.U.length) (h0 : w.U[i].inn = 0) (hg : w.U[i].goal ≠ -1) : ∃ u', zd7 w w.U[i] = putU w u' /\ zq7 w.U[i] u' := by
 have hu := zpu hm hi
 have hgn := hm.1.1.2.1.1
 unfold zd7
 split
 ·exact ⟨_, rfl, rfl, rfl, .inl rfl⟩
 ·split
  ·split
   ·exact ⟨_, rfl, rfl, rfl, .inl rfl⟩
   ·rename_i hn
    exact zlj hm hi h0 (u := { w.U[i] with next := zac w w.U[i] (qm w.G w.U[i].pos) }) rfl (ynz hgn (zqe hm hi h0) hn)
  ·rename_i hl
   refine zlj hm hi h0 rfl ?_
   have hne : w.U[i].next ≠ -1 := fun e => hl (by unfold jc; simp [e])
   have := hu.2.1.2.1
   have := hgn.2.2.1
   unfold wz at *
   omega
/-- Who goes: the others stay; nobody goes farther than its speed. -/
theorem zt4 {w : Wld} (hm : mayP w) {i : Nat} (hi : i < w.U.length) (h0 : w.U[i].inn = 0) : ∃ u', vi w w.U[i] = putU w u' /\ zq7 w.U[i] u' := by
 unfold vi
 split
 ·have hsp := zds w.U[i].kind
  have e : (yl w.U[i].kind).tdiv 4 = yl w.U[i].kind / 4 := Int.tdiv_eq_ediv_of_nonneg (by omega)
  unfold zow
  rw [e]
  exact zpx hm.1.2.1 hi (zsp (za8 hm (List.getElem_mem hi) h0) (fun x hx h => za8 hm hx h) hm.1.1.2.1.2.2) (by omega) (by omega)
 ·exact zw6 hm hi h0 ‹_›
end Go.V
namespace Go.V
def atD (d : List Int) (u : Nat) : Int := d.getD u (-1)
def zqu (g : Gnd) (ok : Nat -> Bool) (c : Int) (goal : Nat) (d : List Int) : Bool :=
 decide (d.length = g.T.length) && d.all (fun x => decide (x = -1 \/ 0 <= x)) && decide (atD d goal = 0) &&
 (List.range g.T.length).all (fun u => decide (u = goal) || decide (atD d u < 0) || (ok u && (List.range g.T.length).any fun t => ok t && decide (0 <= atD d t) && (List.range 8).any fun way =>
  decide (besN g t way = u) && decide (0 < yr g ok c t way) && decide (atD d t + yr g ok c t way <= atD d u))) &&
 (List.range g.T.length).all (fun t => decide (atD d t < 0) || !ok t || (List.range 8).all fun way => decide (yr g ok c t way <= 0) ||
  (decide (0 <= atD d (besN g t way).toNat) && decide (atD d (besN g t way).toNat <= atD d t + yr g ok c t way)))
theorem zxk {g : Gnd} {ok : Nat -> Bool} {c : Int} {goal : Nat} {d : List Int} (h : zqu g ok c goal d = true) : FarOK (x7 g ok c) goal (atD d) := by
 unfold zqu at h
 simp only [Bool.and_eq_true, decide_eq_true_eq, List.all_eq_true, List.any_eq_true, Bool.or_eq_true, Bool.not_eq_true', List.mem_range] at h
 obtain ⟨⟨⟨⟨h1, h2⟩, h3⟩, h4⟩, h5⟩ := h
 have out : ∀ u, g.T.length <= u -> atD d u = -1 := fun u hu => by
  unfold atD
  rw [List.getD_eq_getElem?_getD, List.getElem?_eq_none (by omega)]
  rfl
 refine ⟨fun u => ?_, h3, fun u hu hl => ?_, fun t u k ht hE => ?_⟩
 ·by_cases hu : u < g.T.length
  ·have hd : u < d.length := by omega
   have : atD d u = d[u] := by unfold atD; rw [List.getD_eq_getElem?_getD, List.getElem?_eq_getElem hd]; rfl
   rw [this]
   exact h2 _ (List.getElem_mem hd)
  ·exact .inl (out u (by omega))
 ·have hun : u < g.T.length := by
   apply Decidable.byContradiction
   intro hx
   rw [out u (by omega)] at hl
   omega
  rcases h4 u hun with (h6 | h6) | ⟨h6, t, htn, ⟨h7, h8⟩, way, hw, ⟨h9, h10⟩, h11⟩
  ·exact absurd h6 hu
  ·omega
  ·exact ⟨t, yr g ok c t way, h8, ⟨h7, htn, way, hw, h9, h6, rfl, h10⟩, h11⟩
 ·obtain ⟨hok, htn, way, hw, hb, hok2, hk, hp⟩ := hE
  rcases h5 t htn with (h6 | h6) | h6
  ·omega
  ·rw [hok] at h6; cases h6
  ·rcases h6 way hw with h7 | ⟨h7, h8⟩
   ·omega
   ·rw [hb, Int.toNat_natCast] at h7 h8
    rw [hk]
    exact ⟨h7, h8⟩
theorem yiw {g : Gnd} {ok : Nat -> Bool} {c : Int} {goal : Nat} (hok : ok goal = true) {d : List Int} (h : zqu g ok c goal d = true) : farF g ok c goal = atD d := zo2 hok (zxk h)
/-- The next tile, as its costs are told. -/
def ypm (w : Wld) (u : Unt) (own : Nat) (d : Nat -> Int) : Int :=
 if u.pos ≠ cenV w.G own then own else
  (let way := if d own <= 0 then -1 else match (List.range 8).find? fun way => decide (0 < yr w.G (okU w u) (kCls u.kind) own way /\ 0 <= d (besN w.G own way).toNat /\ yr w.G (okU w u) (kCls u.kind) own way + d (besN w.G own way).toNat = d own) with
   | some way => (way : Int)
   | none => -1
   if way < 0 then -1 else besN w.G own way.toNat)
def yqh (w : Wld) (u : Unt) (d : Nat -> Int) : Wld :=
 if u.pos = cenV w.G u.goal.toNat then putU w (endU 2 u)
 else if jc w u (qm w.G u.pos) then
  (if ypm w u (qm w.G u.pos) d < 0 then putU w (endU 3 u) else w7 w { u with next := ypm w u (qm w.G u.pos) d })
 else w7 w u
def yow (w : Wld) (u : Unt) (d : Nat -> Int) : Wld := if u.goal = -1 then zow w u else yqh w u d
theorem yov {w : Wld} {u : Unt} {d : Nat -> Int} (h : farF w.G (okU w u) (kCls u.kind) u.goal.toNat = d) : vi w u = yow w u d := by
 subst h
 rfl
end Go.V
namespace Go.V
theorem zsa {l : List (Int × Int)} (h : wx l) (x : Int × Int) : UpF (qat (l ++ [x])) (l ++ [x]).length l.length := by
 have h2 : zpp (qat (l ++ [x])) l.length := fun j h0 hj => by
  rw [zii l x j hj, zii l x (par j) (by have := vp h0; omega)]
  exact h j h0 hj
 have := yj6 h2
 simpa using this
theorem zr7 {l : List (Int × Int)} {i : Nat} (h : UpF (qat l) l.length i) (h0 : 0 < i) (hi : i < l.length) (hl : qlt (qat l i) (qat l (par i))) :
  UpF (qat (wk l i (par i))) (wk l i (par i)).length (par i) /\ (wk l i (par i)).Perm l := by
 have hp := vp h0
 rw [zqb hi (by omega), wj]
 exact ⟨yj5 h h0 hi hl, zh8 hi (by omega)⟩
theorem zih {l : List (Int × Int)} {i : Nat} (h : UpF (qat l) l.length i) (hi : i = 0 \/ ¬ qlt (qat l i) (qat l (par i))) : wx l := yj7 h hi
theorem zr9 (l : List (Int × Int)) (x : Int × Int) : (l ++ [x]).Perm (x :: l) := List.perm_append_singleton x l
/-- The last one comes to the top. -/
theorem zve {l : List (Int × Int)} {n : Nat} (hl : l.length = n + 1) : l.Perm (qat l 0 :: (l.set 0 (qat l n)).take n) := by
 obtain ⟨a, t, rfl⟩ : ∃ a t, l = a :: t := by
  cases l with
  | nil => simp at hl
  | cons a t => exact ⟨a, t, rfl⟩
 simp only [List.length_cons, Nat.add_right_cancel_iff] at hl
 have e0 : qat (a :: t) 0 = a := rfl
 rw [e0]
 refine List.Perm.cons a ?_
 cases n with
 | zero =>
  have : t = [] := List.eq_nil_of_length_eq_zero hl
  subst this
  simp
 | succ n =>
  have e1 : qat (a :: t) (n + 1) = t[n]'(by omega) := by
   rw [zlz (by simp; omega)]
   rfl
  rw [e1]
  show t.Perm ((t[n]'(by omega) :: t).take (n + 1))
  rw [List.take_succ_cons]
  have e2 : t = t.take n ++ [t[n]'(by omega)] := by
   have h1 := List.take_append_drop n t
   have h2 : t.drop n = [t[n]'(by omega)] := by
    rw [List.drop_eq_getElem_cons (by omega), List.drop_eq_nil_of_le (by omega)]
   rw [h2] at h1
   exact h1.symm
  exact (List.Perm.of_eq e2).trans (List.perm_append_singleton _ _)
theorem zvf {l : List (Int × Int)} {n : Nat} (hl : l.length = n + 1) (h : wx l) : zkz (qat ((l.set 0 (qat l n)).take n)) ((l.set 0 (qat l n)).take n).length 0 := by
 have hlen : ((l.set 0 (qat l n)).take n).length = n := by simp; omega
 rw [hlen]
 have h2 : zpp (qat l) (n + 1) := by rw [<- hl]; exact h
 have key : ∀ j, 0 < j -> j < n -> qat ((l.set 0 (qat l n)).take n) j = qat l j := fun j h0 hj => by
  unfold qat
  simp only [List.getD, List.getElem?_take_of_lt hj]
  rw [List.getElem?_set_ne (by omega)]
 refine ⟨fun j h0 hj hp => ?_, fun j h0 hj hp h1 => by omega⟩
 rw [key j h0 hj, key (par j) (by omega) (by have := vp h0; omega)]
 exact h2 j h0 (by omega)
theorem yh0 {l : List (Int × Int)} (h : wx l) : ∀ e ∈ l, ¬ qlt e (qat l 0) := fun e he => by
 obtain ⟨j, hj, rfl⟩ := List.getElem_of_mem he
 rw [<- zlz hj]
 exact yij h j hj
theorem zvg {l : List (Int × Int)} {i : Nat} (h : zkz (qat l) l.length i) (hc : l.length <= 2 * i + 1) : wx l :=
 zm2 h fun j h0 hj hp => by
  rcases (za4 h0).1 hp with e | e <;> omega
/-- The lesser child k. -/
theorem zgi {l : List (Int × Int)} {i k : Nat} (h : zkz (qat l) l.length i) (hk : ∀ j, 0 < j -> j < l.length -> par j = i -> ¬ qlt (qat l j) (qat l k)) (hs : ¬ qlt (qat l k) (qat l i)) : wx l :=
 zm2 h fun j h0 hj hp => zc2 hs (hk j h0 hj hp)
theorem zgj {l : List (Int × Int)} {i k : Nat} (h : zkz (qat l) l.length i) (hk0 : 0 < k) (hk : k < l.length) (hki : par k = i) (hmin : ∀ j, 0 < j -> j < l.length -> par j = i -> ¬ qlt (qat l j) (qat l k)) (hl : qlt (qat l k) (qat l i)) :
  zkz (qat (wk l i k)) (wk l i k).length k /\ (wk l i k).Perm l := by
 have hp := vp hk0
 rw [zqb (by omega) hk, wj]
 exact ⟨zxq h hk0 hk hki hmin hl, zh8 (by omega) hk⟩
theorem zg7 {f : Nat -> Int × Int} {n i k : Nat} (hk : k = 2 * i + 1 /\ (2 * i + 2 < n -> ¬ qlt (f (2 * i + 2)) (f (2 * i + 1))) \/ k = 2 * i + 2 /\ qlt (f (2 * i + 2)) (f (2 * i + 1))) : ∀ j, 0 < j -> j < n -> par j = i -> ¬ qlt (f j) (f k) := by
 intro j h0 hj hp
 rcases (za4 h0).1 hp with e | e
 ·subst e
  rcases hk with ⟨rfl, _⟩ | ⟨rfl, h2⟩
  ·exact zof _
  ·exact ze8 h2
 ·subst e
  rcases hk with ⟨rfl, h1⟩ | ⟨rfl, h2⟩
  ·exact h1 hj
  ·exact zof _
end Go.V
namespace Go.V
def sumN : Nat -> (Nat -> Nat) -> Nat
 | 0, _ => 0
 | n + 1, f => sumN n f + f n
theorem zdp {f g : Nat -> Nat} : ∀ n, (∀ t, t < n -> f t = g t) -> sumN n f = sumN n g
 | 0, _ => rfl
 | n + 1, h => by
  show sumN n f + f n = sumN n g + g n
  rw [zdp n (fun t ht => h t (by omega)), h n (by omega)]
theorem zjl {f g : Nat -> Nat} : ∀ n, (∀ t, t < n -> f t <= g t) -> sumN n f <= sumN n g
 | 0, _ => Nat.le_refl _
 | n + 1, h => by
  show sumN n f + f n <= sumN n g + g n
  have := zjl n (fun t ht => h t (by omega))
  have := h n (by omega)
  omega
theorem zbp (c : Nat) : ∀ n, sumN n (fun _ => c) = n * c
 | 0 => by simp [sumN]
 | n + 1 => by
  show sumN n (fun _ => c) + c = _
  rw [zbp c n, Nat.succ_mul]
/-- One place is another. -/
theorem zdq {f g : Nat -> Nat} {u : Nat} : ∀ n, u < n -> (∀ t, t < n -> t ≠ u -> f t = g t) -> sumN n f + g u = sumN n g + f u
 | 0, hu, _ => by omega
 | n + 1, hu, h => by
  show sumN n f + f n + g u = sumN n g + g n + f u
  by_cases e : u = n
  ·subst e
   rw [zdp u (fun t ht => h t (by omega) (by omega))]
   omega
  ·have := zdq (f := f) (g := g) n (by omega) (fun t ht hne => h t (by omega) hne)
   have := h n (by omega) (Ne.symm e)
   omega
/-- How many are told. -/
def zft (n : Nat) (d : Nat -> Int) : Nat := sumN n fun t => if 0 <= d t then 1 else 0
theorem ykb (n : Nat) (d : Nat -> Int) : zft n d <= n := by
 have := zjl (f := fun t => if 0 <= d t then 1 else 0) (g := fun _ => 1) n (fun t _ => by split <;> omega)
 rw [zbp] at this
 unfold zft
 omega
theorem zyx {n : Nat} {d : Nat -> Int} {u : Nat} (hu : u < n) (h : d u < 0) {x : Int} (hx : 0 <= x) : zft n (updN d u x) = zft n d + 1 := by
 have := zdq (f := fun t => if 0 <= updN d u x t then 1 else 0) (g := fun t => if 0 <= d t then 1 else 0) n hu (fun t _ hne => by simp only [z7 hne])
 simp only [zx, if_pos hx, if_neg (show ¬ 0 <= d u by omega)] at this
 unfold zft
 omega
theorem zyw {n : Nat} {d : Nat -> Int} {u : Nat} (h : 0 <= d u) {x : Int} (hx : 0 <= x) : zft n (updN d u x) = zft n d := by
 unfold zft
 refine zdp n fun t _ => ?_
 by_cases e : t = u
 ·subst e; rw [zx, if_pos hx, if_pos h]
 ·rw [z7 e]
/-- Costs stay small. -/
def zg4 (n : Nat) (d : Nat -> Int) : Prop := ∀ t, d t <= 84 * (zft n d : Int) - 84 \/ d t < 0
theorem zi1 {n goal : Nat} (hg : goal < n) {d : Nat -> Int} (hd : ∀ u, d u = if u = goal then 0 else -1) : zg4 n d := by
 intro t
 have h1 : 1 <= zft n d := by
  have := zdq (f := fun t => if 0 <= d t then 1 else 0) (g := fun t => if t = goal then 0 else if 0 <= d t then 1 else 0) n hg (fun t _ hne => by rw [if_neg hne])
  have h0 : (if 0 <= d goal then 1 else 0) = 1 := by rw [hd, if_pos rfl]; rfl
  simp only [if_true, h0] at this
  unfold zft
  omega
 rw [hd]
 split
 ·left; omega
 ·right; omega
theorem zby {n : Nat} {d : Nat -> Int} (h : zg4 n d) {t u : Nat} {c : Int} (hu : u < n) (ht : 0 <= d t) (hc : 0 < c /\ c <= 84) (hl : d u < 0 \/ d t + c < d u) : zg4 n (updN d u (d t + c)) := by
 have hdt := h t
 by_cases hn : d u < 0
 ·have e := zyx (n := n) hu hn (show 0 <= d t + c by omega)
  intro v
  rw [e]
  by_cases ev : v = u
  ·subst ev; rw [zx]; omega
  ·rw [z7 ev]
   have := h v
   omega
 ·have e := zyw (n := n) (d := d) (u := u) (by omega) (show 0 <= d t + c by omega)
  intro v
  rw [e]
  by_cases ev : v = u
  ·subst ev; rw [zx]
   have := h v
   omega
  ·rw [z7 ev]; exact h v
theorem zbz {n : Nat} {d : Nat -> Int} (h : zg4 n d) (t : Nat) : d t <= 84 * (n : Int) := by
 have := h t
 have := ykb n d
 omega
/-- What is left to lower. -/
def zj3 (n : Nat) (d : Nat -> Int) : Nat := sumN n fun t => if 0 <= d t then (d t).toNat else 84 * n + 1
theorem zwh {n : Nat} {d : Nat -> Int} (h : zg4 n d) {t u : Nat} {c : Int} (hu : u < n) (ht : 0 <= d t) (hc : 0 < c /\ c <= 84) (hl : d u < 0 \/ d t + c < d u) : zj3 n (updN d u (d t + c)) < zj3 n d := by
 have hb := zbz (zby h hu ht hc hl) u
 rw [zx] at hb
 have := zdq (f := fun v => if 0 <= updN d u (d t + c) v then (updN d u (d t + c) v).toNat else 84 * n + 1) (g := fun v => if 0 <= d v then (d v).toNat else 84 * n + 1) n hu (fun v _ hne => by simp only [z7 hne])
 simp only [zx, if_pos (show 0 <= d t + c by omega)] at this
 unfold zj3
 split at this <;> omega
/-- How many are not done. -/
def zgk (n : Nat) (dn : Nat -> Bool) : Nat := sumN n fun t => if dn t then 0 else 1
theorem zvv {n : Nat} {dn : Nat -> Bool} {t : Nat} (ht : t < n) (h : dn t = false) : zgk n (updN dn t true) + 1 = zgk n dn := by
 have := zdq (f := fun v => if updN dn t true v = true then 0 else 1) (g := fun v => if dn v = true then 0 else 1) n ht (fun v _ hne => by simp only [z7 hne])
 simp only [zx, h, if_true, Bool.false_eq_true, if_false] at this
 unfold zgk
 omega
end Go.V
namespace Go.V
def itC (x : Int × Int) : List AV := [int x.1, int x.2]
theorem zcg (x : Int × Int) : (itC x).length = 2 := rfl
structure QAt (F : Store) (p b cap : Nat) (l : List (Int × Int)) (L : List AV) : Prop where
 hp : F.obj p = some (.cells [.s (.slice (some ⟨b, 0, none⟩) l.length cap)])
 hb : F.obj b = some (.cells ((rws itC l).flatten ++ L))
 ne : b ≠ p
 h1 : l.length <= cap
 h2 : cap * 2 <= l.length * 2 + L.length
 h3 : cap <= 9223372036854775807
def QOf (F : Store) (p : Nat) (l : List (Int × Int)) : Prop := (F.obj p = some (.cells [.s (.slice none 0 0)]) /\ l = []) \/ ∃ b cap L, QAt F p b cap l L
theorem QOf.rows {F : Store} {p : Nat} {l : List (Int × Int)} (h : QOf F p l) : ∃ v, F.obj p = some (.cells [v]) /\ RowsO 2 itC F v l /\ ∀ b c0, v = .s (.slice (some ⟨b, 0, none⟩) l.length c0) -> b ≠ p := by
 rcases h with ⟨h, rfl⟩ | ⟨b, cap, L, h⟩
 ·exact ⟨_, h, .inl ⟨rfl, rfl⟩, fun b c0 e => by simp at e⟩
 ·refine ⟨_, h.hp, .inr ⟨b, cap, L, rfl, h.hb, h.h1, h.h2, h.h3⟩, fun b' c0 e => ?_⟩
  simp only [AV.s.injEq, Value.slice.injEq, Option.some.injEq, Addr.mk.injEq] at e
  exact e.1.1 ▸ h.ne
theorem QOf.pos {F : Store} {p : Nat} {l : List (Int × Int)} (h : QOf F p l) (hl : 0 < l.length) : ∃ b cap L, QAt F p b cap l L := by
 rcases h with ⟨h, rfl⟩ | h
 ·exact absurd hl (Nat.lt_irrefl 0)
 ·exact h
/-- One element is written. -/
theorem zwl {l : List (Int × Int)} {i : Nat} (hi : i < l.length) (x : Int × Int) (L : List AV) : zo ((rws itC l).flatten ++ L) (0 + i * 2) (itC x) = (rws itC (l.set i x)).flatten ++ L := by
 have := w9 (f := itC) (k := 2) zcg hi (j := 0) (x' := x) (ys := itC x) (L := L) (by show 0 + 2 <= 2; omega) (by
  unfold zo
  rw [zcg]
  rfl)
 rw [Nat.add_zero] at this
 rw [Nat.zero_add]
 exact this
theorem qg {l : List (Int × Int)} {L : List AV} {i : Nat} (hi : i < l.length) : List.drop (0 + i * 2) ((rws itC l).flatten ++ L) = itC (qat l i) ++ ((rws itC (l.drop (i + 1))).flatten ++ L) := by
 have h1 : (rws itC (l.take i)).flatten.length = i * 2 := by rw [y9 zcg, List.length_take, Nat.min_eq_left (by omega)]
 rw [Nat.zero_add, zcw hi, List.append_assoc, <- h1, List.drop_left, List.append_assoc, zlz hi]
theorem zae {l : List (Int × Int)} {L : List AV} {i : Nat} (hi : i < l.length) (x : Int × Int) : 0 + i * 2 + (itC x).length <= ((rws itC l).flatten ++ L).length := by
 rw [List.length_append, y9 zcg, zcg]
 omega
theorem QAt.set {F : Store} {p b cap : Nat} {l : List (Int × Int)} {L : List AV} (h : QAt F p b cap l L) {i : Nat} (hi : i < l.length) (x : Int × Int) : QAt (F.setObj b (.cells (zo ((rws itC l).flatten ++ L) (0 + i * 2) (itC x)))) p b cap (l.set i x) L := by
 rw [zwl hi]
 exact ⟨by rw [zf (Ne.symm h.ne), List.length_set]; exact h.hp, zb _ _ _, h.ne, by rw [List.length_set]; exact h.h1, by rw [List.length_set]; exact h.h2, h.h3⟩
/-- The last one is cut off. -/
theorem QAt.cut {F : Store} {p b cap : Nat} {l : List (Int × Int)} {L : List AV} (h : QAt F p b cap l L) {n : Nat} (hn : n <= l.length) : QAt (F.setObj p (.cells [.s (.slice (some ⟨b, 0, none⟩) n cap)])) p b cap (l.take n) ((rws itC (l.drop n)).flatten ++ L) := by
 have e : (rws itC (l.take n)).flatten ++ ((rws itC (l.drop n)).flatten ++ L) = (rws itC l).flatten ++ L := by
  rw [<- List.append_assoc, <- za1, List.take_append_drop]
 have hl : (l.take n).length = n := by rw [List.length_take]; omega
 refine ⟨by rw [zb, hl], by rw [zf h.ne, e]; exact h.hb, h.ne, by rw [hl]; have := h.h1; omega, ?_, h.h3⟩
 have := h.h2
 rw [hl, List.length_append, y9 zcg, List.length_drop]
 omega
end Go.V
namespace Go.V
def vy (v : Int) (k : Nat) (t : Nat) : Int := if t < k then v else 0
theorem zr5 {n k m : Nat} {v : Int} (hk : m <= k) (hn : k + m <= n) : zo (il n (vy v k)) (0 + k * 1) ((List.drop (0 + 0 * 1) (il n (vy v k))).take (m * 1)) = il n (vy v (k + m)) := by
 have e : (List.drop (0 + 0 * 1) (il n (vy v k))).take (m * 1) = List.replicate m (int v) := by
  rw [show 0 + 0 * 1 = 0 from rfl, List.drop_zero, Nat.mul_one]
  apply List.ext_getElem
  ·rw [List.length_take, yv, List.length_replicate]; omega
  ·intro i h1 h2
   rw [List.length_replicate] at h2
   rw [List.getElem_take, List.getElem_replicate]
   simp only [il, List.getElem_map, List.getElem_range]
   rw [vy, if_pos (by omega)]
 rw [e]
 unfold zo
 rw [List.length_replicate, show 0 + k * 1 = k by omega]
 apply List.ext_getElem?
 intro i
 by_cases h1 : i < k
 ·rw [List.append_assoc, List.getElem?_append_left (by rw [List.length_take, yv]; omega), List.getElem?_take_of_lt h1, zbe (by omega), zbe (by omega), vy, vy, if_pos h1, if_pos (by omega)]
 ·by_cases h2 : i < k + m
  ·rw [List.append_assoc, List.getElem?_append_right (by rw [List.length_take, yv]; omega), List.length_take, yv, List.getElem?_append_left (by rw [List.length_replicate]; omega), List.getElem?_replicate, if_pos (by omega), zbe (by omega), vy, if_pos h2]
  ·rw [List.getElem?_append_right (by rw [List.length_append, List.length_take, yv, List.length_replicate]; omega), List.length_append, List.length_take, yv, List.length_replicate, List.getElem?_drop, show k + m + (i - (min k n + m)) = i by omega]
   by_cases h3 : i < n
   ·rw [zbe h3, zbe h3, vy, vy, if_neg h1, if_neg h2]
   ·rw [List.getElem?_eq_none (by rw [yv]; omega), List.getElem?_eq_none (by rw [yv]; omega)]
theorem yjv (n : Nat) (v : Int) : il n (vy v n) = il n fun _ => v := kh fun t ht => if_pos ht
/-- A tile's neighbours, in an array. -/
def besV (g : Gnd) (t : Nat) : AV := .agg (il 8 (besN g t))
def zhb (g : Gnd) (t i : Nat) (j : Nat) : Int := if j < i then besN g t j else 0
theorem zx4 (g : Gnd) (t : Nat) : il 8 (zhb g t 8) = il 8 (besN g t) := kh fun j hj => if_pos hj
theorem yol (g : Gnd) (t : Nat) {i : Nat} (hi : i < 8) : besN g t i = xl g ((t : Int) % g.W) ((t : Int) / g.W) (dirL.getD i (0, 0)) := by
 unfold besN jq
 rw [List.getD_eq_getElem?_getD, List.getElem?_map, List.getD_eq_getElem?_getD, List.getElem?_eq_getElem (show i < dirL.length from hi)]
 rfl
theorem zx3 (g : Gnd) (t : Nat) {i : Nat} (v : Int) (hv : v = besN g t i) : setI (zhb g t i) i v = zhb g t (i + 1) := funext fun j => by
 unfold setI zhb
 by_cases h : j = i
 ·subst h
  rw [if_pos rfl, if_pos (by omega), hv]
 ·rw [if_neg h]
  by_cases h2 : j < i
  ·rw [if_pos h2, if_pos (by omega)]
  ·rw [if_neg h2, if_neg (by omega)]
def dirC : List AV := (dirL.map wayC).flatten
theorem yiz {i : Nat} (hi : i < 8) : dirC.drop (i * 2) = wayC (dirL.getD i (0, 0)) ++ dirC.drop (i * 2 + 2) := by
 have h : i = 0 \/ i = 1 \/ i = 2 \/ i = 3 \/ i = 4 \/ i = 5 \/ i = 6 \/ i = 7 := by omega
 rcases h with rfl | rfl | rfl | rfl | rfl | rfl | rfl | rfl <;> rfl
theorem yqk {i : Nat} (hi : i < 8) : (-1 <= (dirL.getD i (0, 0)).1 /\ (dirL.getD i (0, 0)).1 <= 1) /\ -1 <= (dirL.getD i (0, 0)).2 /\ (dirL.getD i (0, 0)).2 <= 1 := by
 have h : i = 0 \/ i = 1 \/ i = 2 \/ i = 3 \/ i = 4 \/ i = 5 \/ i = 6 \/ i = 7 := by omega
 rcases h with rfl | rfl | rfl | rfl | rfl | rfl | rfl | rfl <;> decide
end Go.V
namespace Go.V
def wayO (g : Gnd) (ok : Nat -> Bool) (c : Int) (t i : Nat) : Nat -> Nat -> Int -> Prop := fun a u k => a = t /\ ∃ w, i <= w /\ w < 8 /\ besN g t w = (u : Int) /\ k = yr g ok c t w
theorem zo7 {E : Nat -> Nat -> Int -> Prop} {n goal : Nat} {d : Nat -> Int} {dn : Nat -> Bool} {q q' : List (Int × Int)} {cur : Int} {O : Nat -> Nat -> Int -> Prop} (h : DJ E n goal d dn q cur O) (hp : q.Perm q') : DJ E n goal d dn q' cur O :=
 ⟨h.lab, h.gl, h.pre, h.rel, h.mono, fun e he => h.ent e (hp.mem_iff.2 he), fun u hu hn => hp.mem_iff.1 (h.wait u hu hn)⟩
section
variable {g : Gnd} {ok : Nat -> Bool} {c : Int} {n goal : Nat} {d : Nat -> Int} {dn : Nat -> Bool} {q : List (Int × Int)} {cur : Int}
theorem zrb {t : Nat} (h : DJ (x7 g ok c) n goal d dn q cur (fun a _ _ => a = t)) : DJ (x7 g ok c) n goal d dn q cur (wayO g ok c t 0) :=
 zo8 h fun a u k ha hn hE => by
  obtain ⟨_, _, w, hw, h1, _, h2, _⟩ := hE
  subst ha
  exact absurd ⟨rfl, w, Nat.zero_le _, hw, h1, h2⟩ hn
theorem zym {t : Nat} (h : DJ (x7 g ok c) n goal d dn q cur (wayO g ok c t 8)) : DJ (x7 g ok c) n goal d dn q cur ze1 :=
 zo8 h fun a u k ha hn hE => by
  obtain ⟨_, w, h1, h2, _⟩ := ha
  omega
theorem zfl {t i : Nat} (h : DJ (x7 g ok c) n goal d dn q cur (wayO g ok c t i)) (hp : ∀ u : Nat, besN g t i = u -> 0 < yr g ok c t i -> 0 <= d u /\ d u <= d t + yr g ok c t i) : DJ (x7 g ok c) n goal d dn q cur (wayO g ok c t (i + 1)) :=
 zo8 h fun a u k ha hn hE => by
  obtain ⟨rfl, w, h1, h2, h3, rfl⟩ := ha
  by_cases hw : w = i
  ·subst hw
   exact hp u h3 (zbx _ _ _ hE)
  ·exact absurd ⟨rfl, w, by omega, h2, h3, rfl⟩ hn
theorem yqj {O : Nat -> Nat -> Int -> Prop} (h : DJ (x7 g ok c) n goal d dn q cur O) (hgoal : ok goal = true) {u : Nat} (hu : 0 <= d u) : ok u = true := by
 by_cases e : u = goal
 ·rw [e]; exact hgoal
 ·obtain ⟨t, k, _, _, hE, _⟩ := h.pre u e hu
  obtain ⟨_, _, _, _, _, h1, _⟩ := hE
  exact h1
end
/-- What is popped: nothing, or the least. -/
def keyO : Option (Int × Int) -> Int
 | none => 0
 | some x => x.1
def valO : Option (Int × Int) -> Int
 | none => 0
 | some x => x.2
/-- Costs and marks in memory. -/
def fldS (S : Store) (b b2 n : Nat) (d : Nat -> Int) (dn : Nat -> Bool) : Store := (S.setObj b (.cells (il n d))).setObj b2 (.cells (bl n dn))
section
variable {S : Store} {b b2 n : Nat}
theorem ypu (hb : b ≠ b2) (d : Nat -> Int) (dn : Nat -> Bool) : (fldS S b b2 n d dn).obj b = some (.cells (il n d)) := by
 unfold fldS
 rw [zf hb, zb]
theorem ypt (d : Nat -> Int) (dn : Nat -> Bool) : (fldS S b b2 n d dn).obj b2 = some (.cells (bl n dn)) := zb _ _ _
theorem yqi {i : Nat} {x : AObj} (hf : Fresh S b) (hf2 : Fresh (S.setObj b x) b2) {y : AObj} (h : S.obj i = some y) (d : Nat -> Int) (dn : Nat -> Bool) : (fldS S b b2 n d dn).obj i = some y := by
 have h1 : i ≠ b := fun e => by rw [e, hf.1] at h; cases h
 have h2 : i ≠ b2 := fun e => by
  have := hf2.1
  rw [<- e, zf h1, h] at this; cases this
 unfold fldS
 rw [zf h2, zf h1]
 exact h
theorem zqs (hb : b ≠ b2) (d d' : Nat -> Int) (dn : Nat -> Bool) : (fldS S b b2 n d dn).setObj b (.cells (il n d')) = fldS S b b2 n d' dn := by
 unfold fldS
 rw [jk hb, zg]
theorem yio (d : Nat -> Int) (dn dn' : Nat -> Bool) : (fldS S b b2 n d dn).setObj b2 (.cells (bl n dn')) = fldS S b b2 n d dn' := zg _ _ _ _
theorem fld_has {d : Nat -> Int} {dn : Nat -> Bool} {i : Nat} : (fldS S b b2 n d dn).has i ↔ i = b2 \/ i = b \/ S.has i := by
 unfold fldS
 rw [has_setObj_iff, has_setObj_iff]
theorem yip {F : Store} {d d' : Nat -> Int} {dn dn' : Nat -> Bool} (h : Disj F (fldS S b b2 n d dn)) : Disj F (fldS S b b2 n d' dn') := fun i h1 h2 => h i h1 (fld_has.2 (fld_has.1 h2))
theorem yiq (hf : Fresh S b) {x : AObj} (hf2 : Fresh (S.setObj b x) b2) {F : Store} (hb : b ≠ b2) {d : Nat -> Int} {dn : Nat -> Bool} : (F.un (fldS S b b2 n d dn)).Has (S.setObj b (.cells (il n d))) := by
 have hn : (S.setObj b (.cells (il n d))).obj b2 = none := by
  have := hf2.1
  rw [zf (Ne.symm hb)] at this ⊢
  exact this
 exact ⟨fun i y hi => un_r ((y8 hn).obj i y hi), fun i y hi => zld hi⟩
end
theorem zc7 (n : Nat) (d : Nat -> Int) (u : Nat) (v : Int) (hu : u < n) : zo (il n d) (0 + u * 1) [int v] = il n (updN d u v) := by
 rw [show 0 + u * 1 = u by omega, zc8 hu]
 rfl
theorem zx0 (n : Nat) (d : Nat -> Bool) (u : Nat) (v : Bool) (hu : u < n) : zo (bl n d) (0 + u * 1) [bool v] = bl n (updN d u v) := by
 rw [show 0 + u * 1 = u by omega]
 have := zbk (f := d) hu (updN d u v) (fun s hs => z7 hs)
 rw [zx] at this
 exact this
theorem zj8 {n : Nat} {f : Nat -> Int} {t : Nat} (h : t < n) : ((il n f).drop (t * 1)).head? = some (int (f t)) := by
 have := yx (f := f) h
 rwa [Nat.zero_add] at this
theorem yh4 (n : Nat) (dn : Nat -> Bool) : zgk n dn <= n := by
 have := zjl (f := fun t => if dn t = true then 0 else 1) (g := fun _ => 1) n (fun t _ => by split <;> omega)
 rw [zbp] at this
 unfold zgk
 omega
end Go.V
namespace Go.V
def xm (g : Gnd) (ok : Nat -> Bool) (c : Int) (d : Nat -> Int) (t w : Nat) : Prop := 0 < yr g ok c t w /\ 0 <= d (besN g t w).toNat /\ yr g ok c t w + d (besN g t w).toNat = d t
theorem zs6 {p : Nat -> Bool} {n j : Nat} (hj : j < n) (hp : p j = true) (hn : ∀ w, w < j -> p w = false) : (List.range n).find? p = some j := by
 rw [List.find?_range_eq_some]
 exact ⟨hp, List.mem_range.2 hj, fun w hw => by rw [hn w hw]; rfl⟩
theorem zxd {p : Nat -> Bool} {n : Nat} (hn : ∀ w, w < n -> p w = false) : (List.range n).find? p = none := by
 rw [List.find?_eq_none]
 intro w hw
 rw [hn w (List.mem_range.1 hw)]
 decide
section
variable {g : Gnd} {ok : Nat -> Bool} {c : Int} {d : Nat -> Int} {t : Nat}
theorem zpr (h : d t <= 0) : wayF g ok c d t = -1 := by
 unfold wayF
 rw [if_pos h]
theorem zk3 (h : ¬ d t <= 0) {j : Nat} (hj : j < 8) (hp : xm g ok c d t j) (hn : ∀ w, w < j -> ¬ xm g ok c d t w) : wayF g ok c d t = (j : Int) := by
 unfold wayF
 rw [if_neg h, zs6 hj (by exact decide_eq_true hp) (fun w hw => by exact decide_eq_false (hn w hw))]
theorem zk4 (h : ¬ d t <= 0) (hn : ∀ w, w < 8 -> ¬ xm g ok c d t w) : wayF g ok c d t = -1 := by
 unfold wayF
 rw [if_neg h, zxd (fun w hw => by exact decide_eq_false (hn w hw))]
end
theorem yj4 (g : Gnd) (ok : Nat -> Bool) (c : Int) (d : Nat -> Int) (t : Nat) : wayF g ok c d t = -1 \/ ∃ j : Nat, j < 8 /\ wayF g ok c d t = (j : Int) /\ xm g ok c d t j := by
 unfold wayF
 split
 ·exact .inl rfl
 ·cases h : (List.range 8).find? fun way => decide (0 < yr g ok c t way /\ 0 <= d (besN g t way).toNat /\ yr g ok c t way + d (besN g t way).toNat = d t) with
  | none => exact .inl rfl
  | some j =>
   have h1 := List.mem_of_find?_eq_some h
   have h2 := List.find?_some h
   exact .inr ⟨j, List.mem_range.1 h1, rfl, by simp only [decide_eq_true_eq] at h2; exact h2⟩
/-- The ways of the first tiles. -/
noncomputable def zb3 (g : Gnd) (ok : Nat -> Bool) (c : Int) (d : Nat -> Int) (i t : Nat) : Int := if t < i then wayF g ok c d t else -1
theorem zhw {g : Gnd} {ok : Nat -> Bool} {c : Int} {d : Nat -> Int} {i : Nat} : zb3 g ok c d (i + 1) = updN (zb3 g ok c d i) i (wayF g ok c d i) := funext fun t => by
 unfold zb3 updN
 dsimp only
 by_cases h : t = i
 ·subst h; rw [if_pos (by omega), if_pos rfl]
 ·rw [if_neg h]
  by_cases h2 : t < i
  ·rw [if_pos h2, if_pos (by omega)]
  ·rw [if_neg h2, if_neg (by omega)]
theorem zhv {g : Gnd} {ok : Nat -> Bool} {c : Int} {d : Nat -> Int} {i : Nat} (h : wayF g ok c d i = -1) : zb3 g ok c d (i + 1) = zb3 g ok c d i := by
 rw [zhw, h]
 funext t
 unfold updN zb3
 by_cases h : t = i
 ·subst h; rw [if_pos rfl, if_neg (by omega)]
 ·rw [if_neg h]
theorem zq9 (g : Gnd) (ok : Nat -> Bool) (c : Int) (d : Nat -> Int) : zb3 g ok c d 0 = fun _ => -1 := funext fun t => if_neg (Nat.not_lt_zero t)
theorem ztz (g : Gnd) (ok : Nat -> Bool) (c : Int) (d : Nat -> Int) (n : Nat) : il n (zb3 g ok c d n) = il n (wayF g ok c d) := kh fun t ht => if_pos ht
/-- Two lists of numbers in memory. -/
def twoS (S : Store) (b b2 n : Nat) (d f : Nat -> Int) : Store := (S.setObj b (.cells (il n d))).setObj b2 (.cells (il n f))
section
variable {S : Store} {b b2 n : Nat}
theorem yp7 (hb : b ≠ b2) (d f : Nat -> Int) : (twoS S b b2 n d f).obj b = some (.cells (il n d)) := by
 unfold twoS
 rw [zf hb, zb]
theorem yp6 (d f : Nat -> Int) : (twoS S b b2 n d f).obj b2 = some (.cells (il n f)) := zb _ _ _
theorem yp5 {i : Nat} {x : AObj} (hf : Fresh S b) (hf2 : Fresh (S.setObj b x) b2) {y : AObj} (h : S.obj i = some y) (d f : Nat -> Int) : (twoS S b b2 n d f).obj i = some y := by
 have h1 : i ≠ b := fun e => by rw [e, hf.1] at h; cases h
 have h2 : i ≠ b2 := fun e => by
  have := hf2.1
  rw [<- e, zf h1, h] at this; cases this
 unfold twoS
 rw [zf h2, zf h1]
 exact h
theorem zys (d f f' : Nat -> Int) : (twoS S b b2 n d f).setObj b2 (.cells (il n f')) = twoS S b b2 n d f' := zg _ _ _ _
theorem zt9 {x : AObj} (hb : b ≠ b2) (hf2 : Fresh (S.setObj b x) b2) : Fresh S b2 := by
 have := hf2
 unfold Fresh at this ⊢
 rw [zf (Ne.symm hb)] at this
 exact this
theorem zyt (hf : Fresh S b) (hb : b ≠ b2) (d f : Nat -> Int) : (twoS S b b2 n d f).Has (S.setObj b2 (.cells (il n f))) := by
 unfold twoS
 rw [jk (Ne.symm hb)]
 refine y8 ?_
 rw [zf hb]
 exact hf.1
end
end Go.V
namespace Go.V
def wh (v : Vc) : Prop := (-1099511627776 <= v.1 /\ v.1 <= 1099511627776) /\ (-1099511627776 <= v.2 /\ v.2 <= 1099511627776)
theorem y6 {v : Vc} (h : wh v) : xk v := by unfold wh at h; unfold xk; omega
theorem znz {v : Vc} (h : wh v) : v.ok := by
 unfold wh at h
 exact ⟨⟨by omega, by omega⟩, ⟨by omega, by omega⟩⟩
theorem wy {p q : Vc} (hp : mapV p) (hq : mapV q) : wh (vsub q p) := by
 rw [(zfk hp hq).1]
 unfold mapV at hp hq
 unfold wh
 dsimp only
 omega
theorem zmj {w : Wld} {u : Unt} (hu : mapV u.pos) (h : ∀ x ∈ w.U, x.inn = 0 -> mapV x.pos) (hl : w.U.length <= 4096) : wh (zbf w u) := by
 have key : ∀ (l : List Unt) (v : Vc) (B : Nat), (∀ x ∈ l, x.inn = 0 -> mapV x.pos) -> B + l.length <= 4096 -> (v.1.natAbs <= B * 16777216 /\ v.2.natAbs <= B * 16777216) ->
   wh (l.foldl (fun v x => if x.inn = 0 /\ x.id ≠ u.id then vadd v (kf u.pos (kRad u.kind + kRad x.kind + 16384) x.pos) else v) v) := by
  intro l
  induction l with
  | nil =>
   intro v B _ hB hv
   unfold wh
   simp only [List.length_nil] at hB
   simp only [List.foldl_nil]
   omega
  | cons x l ih =>
   intro v B hx hB hv
   simp only [List.length_cons] at hB
   rw [List.foldl_cons]
   refine ih _ (B + 1) (fun y hy => hx y (List.mem_cons_of_mem _ hy)) (by omega) ?_
   split
   ·rename_i hc
    have r1 := zoe u.kind
    have r2 := zoe x.kind
    have := zbu hu (hx x List.mem_cons_self hc.1) (r := kRad u.kind + kRad x.kind + 16384) (by omega)
    generalize kf u.pos (kRad u.kind + kRad x.kind + 16384) x.pos = z at *
    have e : vadd v z = (v.1 + z.1, v.2 + z.2) := by
     unfold vadd
     rw [jt (by omega) (by omega), jt (by omega) (by omega)]
    rw [e]
    dsimp only
    omega
   ·exact ⟨Nat.le_trans hv.1 (Nat.mul_le_mul_right _ (Nat.le_succ B)), Nat.le_trans hv.2 (Nat.mul_le_mul_right _ (Nat.le_succ B))⟩
 unfold zbf
 refine key w.U (0, 0) 0 h (by omega) ⟨?_, ?_⟩
 ·show (0 : Int).natAbs <= _; simp
 ·show (0 : Int).natAbs <= _; simp
theorem ypz {A b t : Int} (hb : 0 < b) (h0 : 0 <= t) (h : 2 * (A % b) + t < b) : (2 * A + t) / b = 2 * (A / b) /\ (2 * A + t) % b = 2 * (A % b) + t := by
 have h1 := Int.emod_nonneg A (show b ≠ 0 by omega)
 have e : 2 * A + t = (2 * (A % b) + t) + b * (2 * (A / b)) := by
  have := Int.mul_ediv_add_emod A b
  have e2 : b * (2 * (A / b)) = 2 * (b * (A / b)) := by rw [Int.mul_left_comm]
  rw [e2]
  omega
 rw [e, Int.add_mul_ediv_left _ _ (by omega), Int.add_mul_emod_self_left]
 rw [Int.ediv_eq_zero_of_lt (by omega) h, Int.emod_eq_of_lt (by omega) h]
 omega
theorem yp0 {A b t : Int} (hb : 0 < b) (h0 : 0 <= t) (ht : t <= 1) (h : b <= 2 * (A % b) + t) : (2 * A + t) / b = 2 * (A / b) + 1 /\ (2 * A + t) % b = 2 * (A % b) + t - b := by
 have h1 := Int.emod_nonneg A (show b ≠ 0 by omega)
 have h2 := Int.emod_lt_of_pos A hb
 have e : 2 * A + t = (2 * (A % b) + t - b) + b * (2 * (A / b) + 1) := by
  have := Int.mul_ediv_add_emod A b
  have e2 : b * (2 * (A / b) + 1) = 2 * (b * (A / b)) + b := by rw [Int.mul_add, Int.mul_left_comm, Int.mul_one]
  rw [e2]
  omega
 rw [e, Int.add_mul_ediv_left _ _ (by omega), Int.add_mul_emod_self_left]
 rw [Int.ediv_eq_zero_of_lt (by omega) (by omega), Int.emod_eq_of_lt (by omega) (by omega)]
 omega
theorem yjd {x : Int} (h0 : 0 <= x) (h1 : x < 18446744073709551616) : qi .and .u64 x 1 = x % 2 := by
 obtain ⟨n, rfl⟩ := Int.eq_ofNat_of_zero_le h0
 have key : (BitVec.ofInt 64 (n : Int) &&& BitVec.ofInt 64 1).toNat = n % 2 := by
  have e1 : BitVec.ofInt 64 (n : Int) = BitVec.ofNat 64 n := by simp
  have e2 : BitVec.ofInt 64 1 = BitVec.ofNat 64 1 := rfl
  rw [e1, e2, BitVec.toNat_and, BitVec.toNat_ofNat, BitVec.toNat_ofNat, Nat.mod_eq_of_lt (by omega)]
  show n &&& 1 = _
  exact Nat.and_one_is_mod n
 show IntKind.u64.wrap ((BitVec.ofInt 64 (n : Int) &&& BitVec.ofInt 64 1).toNat : Int) = _
 rw [key, ya (by omega) (by omega)]
 omega
end Go.V
namespace Go.V
theorem zmz : ∀ {a b : List Unt}, (a.map (·.id)).Pairwise (· < ·) -> (b.map (·.id)).Pairwise (· < ·) -> (∀ u, u ∈ a ↔ u ∈ b) -> a = b
 | [], [], _, _, _ => rfl
 | [], y :: b, _, _, h => absurd ((h y).2 List.mem_cons_self) (by simp)
 | x :: a, [], _, _, h => absurd ((h x).1 List.mem_cons_self) (by simp)
 | x :: a, y :: b, ha, hb, h => by
  rw [List.map_cons, List.pairwise_cons] at ha hb
  have hx := (h x).1 List.mem_cons_self
  have hy := (h y).2 List.mem_cons_self
  have e : x = y := by
   rcases List.mem_cons.1 hx with e | hx
   ·exact e
   ·rcases List.mem_cons.1 hy with e | hy
    ·exact e.symm
    ·have h1 := hb.1 _ (List.mem_map.2 ⟨x, hx, rfl⟩)
     have h2 := ha.1 _ (List.mem_map.2 ⟨y, hy, rfl⟩)
     omega
  subst e
  refine congrArg _ (zmz ha.2 hb.2 fun u => ⟨fun hu => ?_, fun hu => ?_⟩)
  ·rcases List.mem_cons.1 ((h u).1 (List.mem_cons_of_mem _ hu)) with e | e
   ·have := ha.1 _ (List.mem_map.2 ⟨u, hu, rfl⟩)
    rw [e] at this
    omega
   ·exact e
  ·rcases List.mem_cons.1 ((h u).2 (List.mem_cons_of_mem _ hu)) with e | e
   ·have := hb.1 _ (List.mem_map.2 ⟨u, hu, rfl⟩)
    rw [e] at this
    omega
   ·exact e
/-- Ways that are numbers as they count. -/
def nV (v : Vc) : Prop := (-9223372036854775807 <= v.1 /\ v.1 <= 9223372036854775807) /\ (-9223372036854775807 <= v.2 /\ v.2 <= 9223372036854775807)
theorem yjt (a b : Vc) : nV (vadd a b) := ⟨zg0 _ _, zg0 _ _⟩
theorem yib {v : Vc} (h : nV v) : v.ok := by
 unfold nV at h
 exact ⟨⟨by omega, by omega⟩, ⟨by omega, by omega⟩⟩
theorem zmy {a : Int} (h : -9223372036854775807 <= a /\ a <= 9223372036854775807) : fadd a 0 = a := by
 unfold fadd
 rw [qx (by omega), qx (by omega)]
 unfold j2
 split
 ·omega
 ·split <;> omega
theorem zt1 {v : Vc} (h : nV v) : vadd v (0, 0) = v := by
 unfold vadd
 rw [zmy h.1, zmy h.2]
/-- What one adds. -/
def qr (u : Unt) (v : Vc) (x : Unt) : Vc := if x.id ≠ u.id then vadd v (kf u.pos (kRad u.kind + kRad x.kind + 16384) x.pos) else v
theorem zv6 {u x : Unt} {v : Vc} (h : nV v) : nV (qr u v x) := by
 unfold qr
 split
 ·exact yjt _ _
 ·exact h
theorem zl8 {u : Unt} : ∀ (l : List Unt) {v : Vc}, nV v -> nV (l.foldl (qr u) v)
 | [], _, h => h
 | x :: l, _, h => zl8 l (zv6 h)
theorem yh1 {p q : Vc} {r : Int} (h : near p q r = false) : kf p r q = (0, 0) := by
 unfold kf
 rw [h]
 simp
theorem zc9 (u : Unt) (r : Int) (hr : ∀ k, kRad u.kind + kRad k + 16384 <= r) : ∀ (l : List Unt) (v : Vc), nV v ->
  l.foldl (fun v x => if x.inn = 0 /\ x.id ≠ u.id then vadd v (kf u.pos (kRad u.kind + kRad x.kind + 16384) x.pos) else v) v = (l.filter fun x => decide (x.inn = 0) && near u.pos x.pos r).foldl (qr u) v
 | [], v, _ => rfl
 | x :: l, v, h => by
  rw [List.foldl_cons, List.filter_cons]
  by_cases h0 : x.inn = 0
  ·cases hn : near u.pos x.pos r with
   | true =>
    simp only [h0, decide_true, Bool.and_self, if_true, List.foldl_cons, true_and]
    exact zc9 u r hr l _ (zv6 h)
   | false =>
    have hf : near u.pos x.pos (kRad u.kind + kRad x.kind + 16384) = false := by
     cases hc : near u.pos x.pos (kRad u.kind + kRad x.kind + 16384) with
     | false => rfl
     | true => rw [zl6 (hr x.kind) hc] at hn; cases hn
    simp only [h0, decide_true, Bool.and_false, Bool.false_eq_true, if_false, true_and]
    rw [yh1 hf, zt1 h, ite_self]
    exact zc9 u r hr l _ h
  ·simp only [h0, decide_false, Bool.false_and, Bool.false_eq_true, if_false, false_and]
   exact zc9 u r hr l _ h
theorem yn7 {w : Wld} {u : Unt} (hr : yf w.U) {us : List Unt} (hn : zoo w u.pos (kRad u.kind + 16384 + 81920) us) (hs : (us.map (·.id)).Pairwise (· < ·)) : zbf w u = us.foldl (qr u) (0, 0) := by
 unfold zbf
 rw [zc9 u (kRad u.kind + 16384 + 81920) (fun k => by have := (zao k).2; omega) w.U (0, 0) ⟨⟨by decide, by decide⟩, ⟨by decide, by decide⟩⟩]
 congr 1
 refine zmz ?_ hs fun x => ?_
 ·have : (w.U.map (·.id)).Pairwise (· < ·) := by
   rw [List.pairwise_iff_getElem]
   intro i j hi hj hij
   rw [List.length_map] at hi hj
   simp only [List.getElem_map]
   exact xd hr hij hj
  exact this.sublist (List.filter_sublist.map _)
 ·rw [List.mem_filter, hn x, Bool.and_eq_true, decide_eq_true_iff]
  constructor
  ·rintro ⟨h1, h2, h3⟩; exact ⟨⟨h1, h2⟩, h3⟩
  ·rintro ⟨⟨h1, h2⟩, h3⟩; exact ⟨h1, h2, h3⟩
/-- A way's halves. -/
theorem zwx {v : Vc} (h : nV v) (k : Nat) : nV (ki v k) := by
 obtain ⟨h1, h2⟩ := h
 have e1 := zqq v.1 k
 have e2 := zqq v.2 k
 unfold nV ki
 dsimp only
 omega
theorem yjh {v : Vc} (h : v.ok) : nV (vnrm v) := by
 obtain ⟨h1, h2⟩ := h
 have e1 := v7 h1
 have e2 := v7 h2
 unfold nV vnrm
 dsimp only
 omega
/-- One more try. -/
theorem zuc {w : Wld} {u : Unt} {v : Vc} {n k : Nat} (h0 : ki v k ≠ (0, 0)) (hc : ¬ ym w u.id u.kind (vadd u.pos (ki v k))) : tryL w u v (n + 1) k = tryL w u v n (k + 1) := by
 show (if _ then _ else if _ then _ else _) = _
 rw [if_neg h0, if_neg hc]
theorem zua {w : Wld} {u : Unt} {v : Vc} {n k : Nat} (h0 : ki v k = (0, 0)) : tryL w u v (n + 1) k = none := by
 show (if _ then _ else if _ then _ else _) = _
 rw [if_pos h0]
theorem zub {w : Wld} {u : Unt} {v : Vc} {n k : Nat} (h0 : ki v k ≠ (0, 0)) (hc : ym w u.id u.kind (vadd u.pos (ki v k))) : tryL w u v (n + 1) k = some (k, vadd u.pos (ki v k)) := by
 show (if _ then _ else if _ then _ else _) = _
 rw [if_neg h0, if_pos hc]
theorem zum {k : Nat} (hk : k < 5) : IntKind.i64.wrap (1 * 2 ^ (min ((k : Int)).toNat IntKind.i64.bits)) = ((2 ^ k : Nat) : Int) := by
 have : k = 0 \/ k = 1 \/ k = 2 \/ k = 3 \/ k = 4 := by omega
 rcases this with rfl | rfl | rfl | rfl | rfl <;> decide
end Go.V
namespace Go.V
structure MayF (w : Wld) : Prop where
 hg : gndP w.G
 hB : w.B.length <= 256
 hU : w.U.length <= 4096
 hT : w.G.T.length <= 16384
 hb : ∀ b ∈ w.B, bldP b /\ onP w.G b
 hk : ∀ u ∈ w.U, zat u.kind
 hr : yf w.U
 hn1 : 1 <= w.next
 hn2 : w.next <= 1099511627776
theorem mayF {w : Wld} (h : mayP w) : MayF w := by
 obtain ⟨⟨hh, hok⟩, _⟩ := h
 have hbl := hh.2.1.2.1
 have ha := zr hh.2.1.1
 exact ⟨hh.2.1.1, hbl.1, hh.2.1.2.2, by omega, fun b hb => ⟨(hbl.2.2.1 b hb).1, (hbl.2.2.1 b hb).2.1⟩, fun u hu => (hok.2 u hu).1.1.2.2, hok.1, hh.1.2.2.1, hh.1.2.2.2⟩
theorem MayF.fits {w : Wld} (h : MayF w) : w.fits := ⟨by unfold Gnd.fits; have := h.hT; omega, by have := h.hB; omega, by have := h.hU; omega⟩
theorem zj5 (k : Int) : 0 <= yy k /\ yy k <= 3 := by unfold yy; split <;> decide
end Go.V
namespace Go.V
theorem yn0 (g : Gnd) (t : Nat) : jq g t = (List.range 8).map (besN g t) := by
 apply List.ext_getElem
 ·rw [k7, List.length_map, List.length_range]
 ·intro i h1 h2
  rw [k7] at h1
  simp only [List.getElem_map, List.getElem_range]
  unfold besN
  rw [List.getD_eq_getElem?_getD, List.getElem?_eq_getElem (by rw [k7]; exact h1)]
  rfl
theorem yia (g : Gnd) (t : Nat) (x : Int) : (jq g t).contains x = (List.range 8).any fun j => besN g t j == x := by
 rw [yn0, List.contains_eq_any_beq, List.any_map]
 congr 1
 funext j
 show (x == besN g t j) = _
 rw [Bool.eq_iff_iff, beq_iff_eq, beq_iff_eq]
 exact eq_comm
theorem zyf {p : Nat -> Bool} {n k : Nat} (hk : k < n) (hp : p k = true) : (List.range n).any p = true := List.any_eq_true.2 ⟨k, List.mem_range.2 hk, hp⟩
theorem yjc {p : Nat -> Bool} {n : Nat} (hp : ∀ k, k < n -> p k = false) : (List.range n).any p = false := by
 rw [List.any_eq_false]
 intro k hk
 rw [hp k (List.mem_range.1 hk)]
 decide
end Go.V
namespace Go.V
def wkG : Gnd := ⟨2, 1, [0, 0]⟩
def wkW0 : Wld := { tick := 0, players := 1, next := 2, G := wkG, B := [], U := [{ id := 1, owner := 1, kind := 0, pos := (32768, 32768), goal := 1, next := -1, stuck := 0, inn := 0, state := 1 }] }
def wkD : List Int := [20, 0]
def unt1 : Unt := { id := 0, owner := 0, kind := 0, pos := (0, 0), goal := 0, next := 0, stuck := 0, inn := 0, state := 0 }
def oneU (w : Wld) : Unt := w.U.headD unt1
def wkS : Nat -> Wld
 | 0 => wkW0
 | n + 1 => yow (wkS n) (oneU (wkS n)) (atD wkD)
theorem zpq : ∀ n, n < 6 -> mayP (wkS n) := by decide +kernel
theorem zee : ∀ n, n < 6 -> (wkS n).U = [oneU (wkS n)] /\ (oneU (wkS n)).id = 1 /\ (oneU (wkS n)).inn = 0 /\ (wkS n).G = wkG /\ (wkS n).B = [] := by decide +kernel
theorem yor : ∀ n, n < 5 -> okU (wkS n) (oneU (wkS n)) (oneU (wkS n)).goal.toNat = true /\ zqu (wkS n).G (okU (wkS n) (oneU (wkS n))) (kCls (oneU (wkS n)).kind) (oneU (wkS n)).goal.toNat wkD = true := by decide +kernel
theorem yos : (oneU (wkS 5)).pos = cenV wkG 1 /\ (oneU (wkS 5)).state = 2 := by decide +kernel
theorem yot : cenV wkG 0 = (32768, 32768) := by decide +kernel
theorem yj1 {n : Nat} (hn : n < 5) : vi (wkS n) (oneU (wkS n)) = wkS (n + 1) := by
 obtain ⟨h1, h2⟩ := yor n hn
 exact yov (yiw h1 h2)
theorem yjf : gndP wkG := by decide +kernel
end Go.V
namespace Go.V
structure Scr24 where
 W : Wld
 I : List Int
 V : List Vc
def zlq (s : Scr24) : List AV := wldC s.W ++ [ints s.I, lst 2 vecC s.V]
def zfc (s : Scr24) : Prop := (zmq s.W \/ s.I.length > 40) \/ s.V.length > 40
def Scr24.good (s : Scr24) : Prop := (∀ u ∈ s.W.U, u.pos.ok) /\ (∀ n ∈ s.I, yi n) /\ ∀ v ∈ s.V, v.ok
theorem znv (a b : Vc) : (vadd a b).ok := by
 have h1 := zko (nrm a.1 + nrm b.1)
 have h2 := zko (nrm a.2 + nrm b.2)
 exact ⟨⟨by show _ <= j2 _; omega, by show j2 _ <= _; omega⟩, ⟨by show _ <= j2 _; omega, by show j2 _ <= _; omega⟩⟩
/-- A world whose walk may be stepped: it may play, and its places are words. -/
def playW (w : Wld) : Prop := mayP w /\ ∀ u ∈ w.U, u.pos.ok
theorem playW.sizes {w : Wld} (h : playW w) : w.G.T.length <= 1000000 /\ w.B.length <= 1000000 /\ w.U.length <= 1000000 := by
 have f := mayF h.1
 have := f.hB
 have := f.hU
 have := f.hT
 omega
theorem yj3 {u u' : Unt} (h : zq7 u u') (hu : u.pos.ok) : u'.pos.ok := by
 rcases h.2.2 with e | ⟨v, m, k, _, _, _, e⟩
 ·rw [e]; exact hu
 ·rw [e]; exact znv _ _
theorem yph {w : Wld} {u : Unt} (hw : ∀ x ∈ w.U, x.pos.ok) (hu : u.pos.ok) : ∀ x ∈ (putU w u).U, x.pos.ok := by
 intro x hx
 unfold putU at hx
 obtain ⟨y, hy, rfl⟩ := List.mem_map.1 hx
 split
 ·exact hu
 ·exact hw y hy
end Go.V
