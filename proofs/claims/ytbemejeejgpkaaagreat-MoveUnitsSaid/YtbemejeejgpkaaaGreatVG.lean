/- The ground on which laws of thronglaw24 are proved: contracts of functions and plain lemmas; no condition beyond the row's own. -/
import Derived.Test.YtbemejeejgpkaaaGreatVD
import Derived.Test.YtbemejeejgpkaaaGreatVF
import Derived.Test.YtbemejeejgpkaaaGreatVC
set_option linter.unusedSimpArgs false
set_option linter.unusedVariables false
namespace Go.V
/-- A building, a unit, a world. -/
structure Bld where
 id : Int
 owner : Int
 x : Int
 y : Int
 w : Int
 h : Int
 deriving DecidableEq
structure Unt where
 id : Int
 owner : Int
 kind : Int
 pos : Vc
 goal : Int
 next : Int
 stuck : Int
 inn : Int
 state : Int
 deriving DecidableEq
structure Wld where
 tick : Int
 players : Int
 next : Int
 G : Gnd
 B : List Bld
 U : List Unt
 deriving DecidableEq
def bldC (b : Bld) : List AV := [int b.id, int b.owner, int b.x, int b.y, int b.w, int b.h]
def untC (u : Unt) : List AV := [int u.id, int u.owner, int u.kind, int u.pos.1, int u.pos.2, int u.goal, int u.next, int u.stuck, int u.inn, int u.state]
def wldC (w : Wld) : List AV := [int w.tick, int w.players, int w.next, int w.G.W, int w.G.H, byts w.G.T, lst 6 bldC w.B, lst 10 untC w.U]
def Wld.fits (w : Wld) : Prop := w.G.fits /\ w.B.length <= 1000000000000 /\ w.U.length <= 1000000000000
/-- Kinds. -/
def kRad (k : Int) : Int := if k = 0 then 24576 else if k = 2 then 81920 else 32768
def yl (k : Int) : Int := if k = 0 then 16384 else if k = 1 then 24576 else if k = 2 then 8192 else 16384
def kCls (k : Int) : Int := if k = 0 then 0 else if k = 1 then 1 else if k = 2 then 0 else 2
def yy (k : Int) : Int := if k = 2 then 1 else 0
def wv (k : Int) : Int := if k = 0 then 0 else if k = 1 then 0 else if k = 2 then 0 else 4
def zd4 (k : Int) : List AV := [int (kRad k), int (yl k), int (kCls k), int (yy k), int (wv k)]
def zat (k : Int) : Prop := 0 <= k /\ k <= 3
def zar (c : Int) (t : Nat) : Int := ((if c = 0 then [2, 1, 3, 5, 0, 0] else if c = 1 then [2, 1, 6, 0, 0, 0] else [2, 1, 0, 3, 2, 0]) : List Int).getD t 0
/-- Buildings. -/
def bldP (b : Bld) : Prop := (1 <= b.id /\ b.id <= 1099511627776) /\ (1 <= b.owner /\ b.owner <= 8) /\ (1 <= b.w /\ b.w <= 4) /\ (1 <= b.h /\ b.h <= 4)
def onP (g : Gnd) (b : Bld) : Prop := (0 <= b.x /\ b.x + b.w <= g.W) /\ (0 <= b.y /\ b.y + b.h <= g.H)
def hasP (g : Gnd) (b : Bld) (t : Nat) : Prop := (b.x <= (t : Int) % g.W /\ (t : Int) % g.W < b.x + b.w) /\ (b.y <= (t : Int) / g.W /\ (t : Int) / g.W < b.y + b.h)
instance (g : Gnd) (b : Bld) (t : Nat) : Decidable (hasP g b t) := inferInstanceAs (Decidable (_ /\ _))
def zhp (g : Gnd) (b : Bld) : Prop := ∀ t, t < g.T.length -> hasP g b t -> (g.T.getD t 0).toNat <= 1
def ze2 (a b : Bld) : Prop := (a.x < b.x + b.w /\ b.x < a.x + a.w) /\ (a.y < b.y + b.h /\ b.y < a.y + a.h)
def zlw (l : List Bld) : Prop := ∀ j, (h : j < l.length) -> 0 < j -> (l[j - 1]'(by omega)).id < l[j].id
def yf (l : List Unt) : Prop := ∀ j, (h : j < l.length) -> 0 < j -> (l[j - 1]'(by omega)).id < l[j].id
def zq3 (l : List Bld) : Prop := ∀ j, (h : j < l.length) -> ∀ i, (hi : i < j) -> ¬ ze2 l[j] (l[i]'(by omega))
def znf (g : Gnd) (l : List Bld) : Prop := l.length <= 256 /\ zlw l /\ (∀ b ∈ l, bldP b /\ onP g b /\ zhp g b) /\ zq3 l
def covB (g : Gnd) (l : List Bld) (t : Nat) : Bool := l.any fun b => decide (hasP g b t)
def yc (g : Gnd) (l : List Bld) (c : Int) (t : Nat) : Bool := !covB g l t && decide (0 < zar c (g.T.getD t 0).toNat)
/-- Discs. -/
def tx (g : Gnd) (t : Nat) : Int := (t : Int) % g.W * 65536
def ty (g : Gnd) (t : Nat) : Int := (t : Int) / g.W * 65536
def off (x lo : Int) : Int := if x < lo then lo - x else if x > lo + 65536 then x - (lo + 65536) else 0
def hitP (g : Gnd) (t : Nat) (p : Vc) (r : Int) : Prop := off p.1 (tx g t) * off p.1 (tx g t) + off p.2 (ty g t) * off p.2 (ty g t) < r * r
instance (g : Gnd) (t : Nat) (p : Vc) (r : Int) : Decidable (hitP g t p r) := inferInstanceAs (Decidable (_ < _))
def ze5 (g : Gnd) (l : List Bld) (c : Int) (p : Vc) (r : Int) : Prop :=
 ((r <= p.1 /\ p.1 + r <= g.W * 65536) /\ (r <= p.2 /\ p.2 + r <= g.H * 65536)) /\ ∀ t, t < g.T.length -> yc g l c t = false -> ¬ hitP g t p r
def vk (p : Vc) (r : Int) (q : Vc) (s : Int) : Bool := !near p q (r + s)
def ym (w : Wld) (id k : Int) (p : Vc) : Prop :=
 ze5 w.G w.B (kCls k) p (kRad k) /\ ∀ u ∈ w.U, u.inn = 0 -> u.id ≠ id -> vk p (kRad k) u.pos (kRad u.kind) = true
/-- Worlds. -/
def wz (g : Gnd) (t : Int) : Prop := t = -1 \/ (0 <= t /\ t < g.W * g.H)
def untP (w : Wld) (u : Unt) : Prop :=
 ((1 <= u.id /\ u.id < w.next) /\ (1 <= u.owner /\ u.owner <= w.players) /\ zat u.kind) /\ (wz w.G u.goal /\ wz w.G u.next /\ (0 <= u.stuck /\ u.stuck < 8)) ∧
 ((0 <= u.state /\ u.state <= 4) /\ (u.state = 1 ↔ u.goal ≠ -1)) /\ (u.goal = -1 -> u.next = -1 /\ u.stuck = 0)
def zmm (w : Wld) : Prop :=
 ((0 <= w.tick /\ w.tick <= 1099511627776) /\ (1 <= w.players /\ w.players <= 8) /\ (1 <= w.next /\ w.next <= 1099511627776)) ∧
 (gndP w.G /\ znf w.G w.B /\ w.U.length <= 4096) /\ ∀ b ∈ w.B, b.owner <= w.players /\ b.id < w.next
def zcc (w : Wld) : Prop := yf w.U /\ ∀ u ∈ w.U, untP w u /\ ∀ b ∈ w.B, b.id ≠ u.id
def inOf (l : List Unt) (id : Int) : List Int := (l.filter fun u => u.inn == id).map (·.id)
def zb4 (w : Wld) (u : Unt) : Prop :=
 ∃ x ∈ w.U, x.id = u.inn /\ (x.inn = 0 /\ x.owner = u.owner) /\ ((inOf w.U u.inn).length : Int) <= wv x.kind /\ wv u.kind = 0 /\ u.pos = (0, 0) /\ u.goal = -1 /\ u.state = 0
def mayP (w : Wld) : Prop := (zmm w /\ zcc w) /\ (∀ u ∈ w.U, u.inn = 0 -> ym w u.id u.kind u.pos) /\ ∀ u ∈ w.U, u.inn ≠ 0 -> zb4 w u
theorem beqD (a b : Int) : (a == b) = decide (a = b) := by rw [Bool.eq_iff_iff]; simp
theorem zr {g : Gnd} (h : gndP g) : 1 <= g.W * g.H /\ g.W * g.H <= 16384 /\ (g.T.length : Int) = g.W * g.H := by
 obtain ⟨⟨h1, h2⟩, ⟨h3, h4⟩, h5, _⟩ := h
 have : 1 * 1 <= g.W * g.H := Int.mul_le_mul h1 h3 (by decide) (by omega)
 have : g.W * g.H <= 128 * 128 := Int.mul_le_mul h2 h4 (by omega) (by decide)
 omega
def zmq (w : Wld) : Prop := (w.G.T.length > 700 \/ w.B.length > 30) \/ w.U.length > 30
end Go.V
namespace Go.V
theorem zhx {a b : Vc} (h1 : -2305843009213693952 <= a.1 /\ a.1 <= 2305843009213693952) (h2 : -2305843009213693952 <= a.2 /\ a.2 <= 2305843009213693952) (h3 : -2305843009213693952 <= b.1 /\ b.1 <= 2305843009213693952) (h4 : -2305843009213693952 <= b.2 /\ b.2 <= 2305843009213693952) :
  vsub a b = (a.1 - b.1, a.2 - b.2) := by
 have n : ∀ x : Int, -4611686018427387904 <= x /\ x <= 4611686018427387904 -> nrm x = x := fun x hx => by unfold nrm; rw [if_neg (by omega)]
 have c : ∀ x : Int, -4611686018427387904 <= x /\ x <= 4611686018427387904 -> j2 x = x := fun x hx => by unfold j2; rw [if_neg (by omega), if_neg (by omega)]
 unfold vsub fsub fadd
 rw [n a.1 (by omega), n b.1 (by omega), n a.2 (by omega), n b.2 (by omega), n (-b.1) (by omega), n (-b.2) (by omega), c _ (by omega), c _ (by omega)]
 rfl
theorem zq0 {x : Int} (h : -4611686018427387904 <= x /\ x <= 4611686018427387904) : asz x * asz x = x * x := by
 have n : nrm x = x := by unfold nrm; rw [if_neg (by omega)]
 unfold asz
 rw [n]
 split
 ·rw [Int.neg_mul_neg]
 ·rfl
theorem zdz {a b : Vc} {r : Int} (h1 : -2305843009213693952 <= a.1 /\ a.1 <= 2305843009213693952) (h2 : -2305843009213693952 <= a.2 /\ a.2 <= 2305843009213693952) (h3 : -2305843009213693952 <= b.1 /\ b.1 <= 2305843009213693952) (h4 : -2305843009213693952 <= b.2 /\ b.2 <= 2305843009213693952) (hr : 0 < r) :
  near a b r = decide ((a.1 - b.1) * (a.1 - b.1) + (a.2 - b.2) * (a.2 - b.2) < r * r) := by
 unfold near sqr
 rw [zhx h1 h2 h3 h4, zq0 (by dsimp only; omega), zq0 (by dsimp only; omega)]
 rw [Bool.eq_iff_iff, decide_eq_true_iff, decide_eq_true_iff]
 exact ⟨fun h => h.2, fun h => ⟨hr, h⟩⟩
theorem za0 {g : Gnd} (hg : gndP g) {t : Nat} (ht : (t : Int) < g.W * g.H) : (0 <= (t : Int) % g.W /\ (t : Int) % g.W < g.W) /\ (0 <= (t : Int) / g.W /\ (t : Int) / g.W < g.H) := by
 obtain ⟨⟨h1, h2⟩, ⟨h3, h4⟩, _⟩ := hg
 have h5 := Int.emod_nonneg (t : Int) (show g.W ≠ 0 by omega)
 have h6 := Int.emod_lt_of_pos (t : Int) (show 0 < g.W by omega)
 have h7 : 0 <= (t : Int) / g.W := Int.ediv_nonneg (by omega) (by omega)
 have h8 : (t : Int) / g.W < g.H := Int.ediv_lt_of_lt_mul (by omega) (by rw [Int.mul_comm]; exact ht)
 exact ⟨⟨h5, h6⟩, h7, h8⟩
theorem tquo {t : Nat} {w : Int} (hw : 1 <= w) : (t : Int).tdiv w = (t : Int) / w := Int.tdiv_eq_ediv_of_nonneg (by omega)
theorem trem {t : Nat} {w : Int} (hw : 1 <= w) : (t : Int).tmod w = (t : Int) % w := Int.tmod_eq_emod_of_nonneg (by omega)
theorem txty {g : Gnd} (hg : gndP g) {t : Nat} (ht : (t : Int) < g.W * g.H) : (0 <= tx g t /\ tx g t <= 8323072) /\ (0 <= ty g t /\ ty g t <= 8323072) := by
 have := za0 hg ht
 obtain ⟨⟨h1, h2⟩, ⟨h3, h4⟩, _⟩ := hg
 unfold tx ty
 omega
def zb9 (x lo : Int) : Int := min2 (max2 x lo) (lo + 65536)
theorem min2_eq (a b : Int) : min2 a b = min a b := by unfold min2; by_cases h : b < a <;> simp [h] <;> omega
theorem zd2 (a b : Int) : max2 a b = max a b := by unfold max2; by_cases h : b > a <;> simp [h] <;> omega
theorem zna (x lo : Int) : zb9 x lo = min (max x lo) (lo + 65536) := by unfold zb9; rw [min2_eq, zd2]
theorem zi4 (x lo : Int) : (x - zb9 x lo) * (x - zb9 x lo) = off x lo * off x lo := by
 rw [zna]
 unfold off
 by_cases h1 : x < lo
 ·rw [if_pos h1, show min (max x lo) (lo + 65536) = lo by omega]
  rw [<- Int.neg_mul_neg (x - lo), Int.neg_sub]
 ·rw [if_neg h1]
  by_cases h2 : x > lo + 65536
  ·rw [if_pos h2, show min (max x lo) (lo + 65536) = lo + 65536 by omega]
  ·rw [if_neg h2, show min (max x lo) (lo + 65536) = x by omega]
   simp
theorem zfh {x lo : Int} (h : 0 <= lo /\ lo <= 8323072) : 0 <= zb9 x lo /\ zb9 x lo <= 8388608 := by rw [zna]; omega
theorem ypj {x lo : Int} (h : 0 <= lo /\ lo <= 8323072) (hx : -1099511627776 <= x /\ x <= 1099511627776) : 0 <= off x lo /\ off x lo <= 1099519950848 := by
 unfold off; split
 ·omega
 ·split <;> omega
theorem yh9 {g : Gnd} (hg : gndP g) {t : Nat} (ht : (t : Int) < g.W * g.H) {p : Vc} (hp : qv p.1 p.2) {r : Int} (hr : 0 < r) :
  near p (zb9 p.1 (tx g t), zb9 p.2 (ty g t)) r = decide (hitP g t p r) := by
 have hb := txty hg ht
 have h1 := zfh (x := p.1) hb.1
 have h2 := zfh (x := p.2) hb.2
 obtain ⟨h3, h4⟩ := hp
 rw [zdz (by omega) (by omega) (by dsimp only; omega) (by dsimp only; omega) hr]
 dsimp only
 rw [zi4, zi4]
 rfl
theorem yft {a r : Int} (ha : 0 <= a) (hr : 0 < r) (h : a * a < r * r) : a < r := by
 apply Decidable.byContradiction
 intro hn
 have : r * r <= a * a := Int.mul_le_mul (by omega) (by omega) (by omega) ha
 omega
theorem zwc {dx dy r : Int} (h1 : 0 <= dx) (h2 : 0 <= dy) (hr : 0 < r) : (dx < r /\ dy < r /\ dx * dx + dy * dy < r * r) ↔ dx * dx + dy * dy < r * r := by
 refine ⟨fun h => h.2.2, fun h => ⟨yft h1 hr ?_, yft h2 hr ?_, h⟩⟩
 ·have := Int.mul_nonneg h2 h2; omega
 ·have := Int.mul_nonneg h1 h1; omega
theorem ymq {a : Int} (h : 0 <= a /\ a <= 262144) : 0 <= a * a /\ a * a <= 68719476736 :=
 ⟨Int.mul_nonneg h.1 h.1, by have : a * a <= 262144 * 262144 := Int.mul_le_mul h.2 h.2 h.1 (by decide); omega⟩
end Go.V
namespace Go.V
theorem xc {st : Store} {b : Nat} {x : AObj} (h : st.obj b = none) : (st.setObj b x).delObj b = st := by
 unfold Store.setObj Store.delObj
 congr 1
 funext i
 by_cases hi : i = b
 ·subst hi; simp [h]
 ·simp [nbeq hi]
/-- The tiles of a building. -/
def ja (W : Int) (b : Bld) (y k : Nat) : List Int := (List.range k).map fun (x : Nat) => b.x + (x : Int) + W * (b.y + (y : Int))
def jh (W : Int) (b : Bld) (k : Nat) : List Int := (List.range k).flatMap fun y => ja W b y b.w.toNat
def j7 (W : Int) (b : Bld) : List Int := jh W b b.h.toNat
theorem zle (W : Int) (b : Bld) (y k : Nat) : ja W b y (k + 1) = ja W b y k ++ [b.x + (k : Int) + W * (b.y + (y : Int))] := by
 unfold ja; rw [List.range_succ]; simp
theorem zaz (W : Int) (b : Bld) (k : Nat) : jh W b (k + 1) = jh W b k ++ ja W b k b.w.toNat := by
 unfold jh; rw [List.range_succ]; simp
theorem zfv (W : Int) (b : Bld) (y k : Nat) : (ja W b y k).length = k := by unfold ja; simp
theorem zcd (W : Int) (b : Bld) (k : Nat) : (jh W b k).length = k * b.w.toNat := by
 induction k with
 | zero => simp [jh]
 | succ k ih => rw [zaz, List.length_append, ih, zfv, Nat.succ_mul]
theorem zh3 (W : Int) {b : Bld} (hb : bldP b) : (j7 W b).length <= 16 := by
 unfold j7
 rw [zcd]
 unfold bldP at hb
 have : b.h.toNat * b.w.toNat <= 4 * 4 := Nat.mul_le_mul (by omega) (by omega)
 omega
theorem ji {g : Gnd} (hg : gndP g) {x y : Int} (hx : 0 <= x /\ x < g.W) (hy : 0 <= y /\ y < g.H) :
  0 <= x + g.W * y /\ x + g.W * y < g.W * g.H /\ (x + g.W * y) % g.W = x /\ (x + g.W * y) / g.W = y := by
 obtain ⟨⟨h1, h2⟩, ⟨h3, h4⟩, _⟩ := hg
 have a1 : 0 <= g.W * y := Int.mul_nonneg (by omega) hy.1
 have a2 : g.W * y <= g.W * (g.H - 1) := Int.mul_le_mul_of_nonneg_left (by omega) (by omega)
 have a3 : g.W * (g.H - 1) = g.W * g.H - g.W := by rw [Int.mul_sub, Int.mul_one]
 refine ⟨by omega, by omega, ?_, ?_⟩
 ·rw [Int.add_mul_emod_self_left]; exact Int.emod_eq_of_lt hx.1 hx.2
 ·rw [Int.add_mul_ediv_left _ _ (by omega), Int.ediv_eq_zero_of_lt hx.1 hx.2]; omega
theorem xx {g : Gnd} (hg : gndP g) {b : Bld} (hb : bldP b) (ho : onP g b) (t : Int) : t ∈ j7 g.W b ↔ ∃ n : Nat, t = (n : Int) /\ (n : Int) < g.W * g.H /\ hasP g b n := by
 have hb' := hb
 have ho' := ho
 unfold bldP at hb'
 unfold onP at ho'
 unfold j7 jh ja
 rw [List.mem_flatMap]
 constructor
 ·rintro ⟨y, hy, hx⟩
  obtain ⟨x, hx2, rfl⟩ := List.mem_map.1 hx
  have hy := List.mem_range.1 hy
  have hx := List.mem_range.1 hx2
  obtain ⟨q1, q2, q3, q4⟩ := ji hg (x := b.x + x) (y := b.y + y) (by omega) (by omega)
  refine ⟨(b.x + (x : Int) + g.W * (b.y + (y : Int))).toNat, by omega, by omega, ?_⟩
  unfold hasP
  rw [show (((b.x + (x : Int) + g.W * (b.y + (y : Int))).toNat : Nat) : Int) = b.x + (x : Int) + g.W * (b.y + (y : Int)) by omega, q3, q4]
  omega
 ·rintro ⟨n, rfl, hn, hh⟩
  unfold hasP at hh
  refine ⟨((n : Int) / g.W - b.y).toNat, List.mem_range.2 (by omega), List.mem_map.2 ⟨((n : Int) % g.W - b.x).toNat, List.mem_range.2 (by omega), ?_⟩⟩
  have := Int.emod_add_mul_ediv (n : Int) g.W
  rw [show (((n : Int) % g.W - b.x).toNat : Int) = (n : Int) % g.W - b.x by omega, show (((n : Int) / g.W - b.y).toNat : Int) = (n : Int) / g.W - b.y by omega]
  rw [show b.x + ((n : Int) % g.W - b.x) = (n : Int) % g.W by omega, show b.y + ((n : Int) / g.W - b.y) = (n : Int) / g.W by omega]
  exact this
/-- Cells of yes and no. -/
def bl (n : Nat) (f : Nat -> Bool) : List AV := (List.range n).map fun t => bool (f t)
theorem xg (n : Nat) (f : Nat -> Bool) : (bl n f).length = n := by simp [bl]
theorem zdm {n : Nat} {f : Nat -> Bool} {t : Nat} (h : t < n) : (bl n f)[t]? = some (bool (f t)) := by simp [bl, h]
theorem zbj (n : Nat) : List.replicate n (AV.s (.bool false)) = bl n fun _ => false := by
 unfold bl
 rw [List.map_const', List.length_range]
 rfl
theorem zbk {n : Nat} {f : Nat -> Bool} {t : Nat} (h : t < n) (g : Nat -> Bool) (hg : ∀ s, s ≠ t -> g s = f s) : zo (bl n f) t [bool (g t)] = bl n g := by
 unfold zo
 apply List.ext_getElem?
 intro s
 by_cases h1 : s < t
 ·rw [List.append_assoc, List.getElem?_append_left (by rw [List.length_take, xg]; omega), List.getElem?_take_of_lt h1, zdm (by omega), zdm (by omega), hg s (by omega)]
 ·by_cases h2 : s = t
  ·subst h2
   rw [List.append_assoc, List.getElem?_append_right (by rw [List.length_take, xg]; omega), List.length_take, xg, show s - min s n = 0 by omega, zdm h]
   rfl
  ·rw [List.getElem?_append_right (by rw [List.length_append, List.length_take, xg]; simp; omega), List.length_append, List.length_take, xg, List.getElem?_drop]
   by_cases h3 : s < n
   ·have e : t + [bool (g t)].length + (s - (min t n + [bool (g t)].length)) = s := by simp; omega
    rw [e, zdm h3, zdm h3, hg s h2]
   ·rw [List.getElem?_eq_none (by rw [xg]; simp; omega), List.getElem?_eq_none (by rw [xg]; omega)]
/-- Which tiles the first buildings have, and of the next one the first tiles. -/
def covF (g : Gnd) (l : List Bld) (i : Nat) (ts : List Int) (k : Nat) (t : Nat) : Bool := covB g (l.take i) t || (ts.take k).contains (t : Int)
theorem zm3 (g : Gnd) (l : List Bld) (i : Nat) (ts : List Int) (t : Nat) : covF g l i ts 0 t = covB g (l.take i) t := by simp [covF]
theorem zm4 {g : Gnd} {l : List Bld} {i : Nat} {ts : List Int} {k n : Nat} (hk : k < ts.length) (hn : ts[k] = (n : Int)) :
  covF g l i ts (k + 1) n = true /\ ∀ s, s ≠ n -> covF g l i ts (k + 1) s = covF g l i ts k s := by
 unfold covF
 rw [List.take_succ_eq_append_getElem hk, hn]
 refine ⟨by simp, fun s hs => ?_⟩
 rw [List.contains_append]
 have : [((n : Nat) : Int)].contains (s : Int) = false := by simp; omega
 rw [this, Bool.or_false]
theorem zm5 {g : Gnd} (hg : gndP g) {l : List Bld} {i : Nat} (hi : i < l.length) (hb : bldP l[i] /\ onP g l[i]) {t : Nat} (ht : t < g.T.length) :
  covF g l i (j7 g.W l[i]) (j7 g.W l[i]).length t = covB g (l.take (i + 1)) t := by
 have ha := zr hg
 unfold covF covB
 rw [List.take_length, List.take_succ_eq_append_getElem hi, List.any_append]
 congr 1
 rw [Bool.eq_iff_iff, List.contains_iff_mem, xx hg hb.1 hb.2]
 simp only [List.any_cons, List.any_nil, Bool.or_false, decide_eq_true_eq]
 constructor
 ·rintro ⟨n, h1, _, h2⟩
  have : n = t := by omega
  subst this; exact h2
 ·intro h
  exact ⟨t, rfl, by omega, h⟩
def vg (b : Bool) : List AV := [bool b]
def blL (n : Nat) (f : Nat -> Bool) : List Bool := (List.range n).map f
theorem yo (n : Nat) (f : Nat -> Bool) : (blL n f).length = n := by simp [blL]
theorem je {n : Nat} {f : Nat -> Bool} {t : Nat} (h : t < n) : (blL n f)[t]'(by rw [yo]; exact h) = f t := by simp [blL]
theorem yok (n : Nat) (f : Nat -> Bool) : (rws vg (blL n f)).flatten = bl n f := by
 unfold rws blL bl vg
 induction List.range n with
 | nil => rfl
 | cons a l ih => simp at ih ⊢; exact ih
theorem zx1 {n : Nat} {f : Nat -> Bool} {t : Nat} (h : t < n) : (rws vg (blL n f))[t]? = some (vg (f t)) := by
 unfold rws blL
 simp [h]
end Go.V
namespace Go.V
theorem zhi (W : Int) (b : Bld) (y k : Nat) : (ja W b y k).Pairwise (· < ·) := by
 unfold ja
 rw [List.pairwise_map]
 exact (List.pairwise_lt_range (n := k)).imp fun h => by omega
theorem zhh {W : Int} {b : Bld} (hW : 1 <= W) (hx : 0 <= b.x /\ b.x + b.w <= W) (hw : 1 <= b.w) (k : Nat) : (jh W b k).Pairwise (· < ·) /\ ∀ t ∈ jh W b k, t < W * (b.y + (k : Int)) := by
 induction k with
 | zero => exact ⟨List.Pairwise.nil, fun t ht => (by simp [jh] at ht)⟩
 | succ k ih =>
  rw [zaz]
  have hrow : ∀ t ∈ ja W b k b.w.toNat, W * (b.y + (k : Int)) <= t /\ t < W * (b.y + (k : Int)) + W := by
   intro t ht
   obtain ⟨x, hx2, rfl⟩ := List.mem_map.1 ht
   have := List.mem_range.1 hx2
   omega
  have e : W * (b.y + ((k + 1 : Nat) : Int)) = W * (b.y + (k : Int)) + W := by
   rw [show b.y + ((k + 1 : Nat) : Int) = (b.y + (k : Int)) + 1 by omega, Int.mul_add, Int.mul_one]
  refine ⟨List.pairwise_append.2 ⟨ih.1, zhi _ _ _ _, fun a ha c hc => ?_⟩, fun t ht => ?_⟩
  ·have h1 := ih.2 a ha
   have h2 := hrow c hc
   omega
  ·rw [e]
   rcases List.mem_append.1 ht with ht | ht
   ·have := ih.2 t ht; omega
   ·have := hrow t ht; omega
theorem zjh {g : Gnd} (hg : gndP g) {b : Bld} (hb : bldP b /\ onP g b) : (j7 g.W b).Pairwise (· < ·) := by
 unfold bldP onP at hb
 exact (zhh hg.1.1 hb.2.1 (by omega) _).1
theorem zl5 {l : List Int} (h : l.Pairwise (· < ·)) {k : Nat} (hk : k < l.length) : l[k] ∉ l.take k := by
 intro hm
 obtain ⟨j, hj, e⟩ := List.getElem_of_mem hm
 rw [List.length_take] at hj
 rw [List.getElem_take] at e
 have := List.pairwise_iff_getElem.1 h j k (by omega) hk (by omega)
 omega
theorem zql {g : Gnd} (hg : gndP g) {a b : Bld} (ha : bldP a /\ onP g a) (hb : bldP b /\ onP g b) : ze2 a b ↔ ∃ t : Nat, (t : Int) < g.W * g.H /\ hasP g a t /\ hasP g b t := by
 unfold bldP onP at ha hb
 unfold ze2
 constructor
 ·intro h
  obtain ⟨q1, q2, q3, q4⟩ := ji hg (x := max a.x b.x) (y := max a.y b.y) (by omega) (by omega)
  refine ⟨(max a.x b.x + g.W * max a.y b.y).toNat, by omega, ?_⟩
  unfold hasP
  rw [show (((max a.x b.x + g.W * max a.y b.y).toNat : Nat) : Int) = max a.x b.x + g.W * max a.y b.y by omega, q3, q4]
  omega
 ·rintro ⟨t, _, h1, h2⟩
  unfold hasP at h1 h2
  omega
theorem covB_iff {g : Gnd} {l : List Bld} {t : Nat} : covB g l t = true ↔ ∃ b ∈ l, hasP g b t := by
 unfold covB
 rw [List.any_eq_true]
 simp
/-- The buildings up to one may be. -/
def yi5 (g : Gnd) (l : List Bld) (i : Nat) : Prop := ∀ j, (h : j < l.length) -> j < i -> (bldP l[j] /\ onP g l[j] /\ zhp g l[j]) /\ ∀ k, (hk : k < j) -> ¬ ze2 l[j] (l[k]'(by omega))
theorem znd {g : Gnd} {l : List Bld} (h : yi5 g l l.length) : (∀ b ∈ l, bldP b /\ onP g b /\ zhp g b) /\ zq3 l := by
 refine ⟨fun b hb => ?_, fun j hj k hk => (h j hj hj).2 k hk⟩
 obtain ⟨j, hj, rfl⟩ := List.getElem_of_mem hb
 exact (h j hj hj).1
theorem yi0 {g : Gnd} (hg : gndP g) {l : List Bld} {i : Nat} (hi : i < l.length) (hb : bldP l[i] /\ onP g l[i]) (hup : yi5 g l i) :
  (∃ t ∈ j7 g.W l[i], covB g (l.take i) t.toNat = true) ↔ ∃ k, ∃ hk : k < i, ze2 l[i] (l[k]'(by omega)) := by
 constructor
 ·rintro ⟨t, ht, hc⟩
  obtain ⟨n, rfl, hn, hh⟩ := (xx hg hb.1 hb.2 t).1 ht
  rw [Int.toNat_natCast] at hc
  obtain ⟨b, hb2, hh2⟩ := covB_iff.1 hc
  obtain ⟨k, hk, rfl⟩ := List.getElem_of_mem hb2
  rw [List.length_take] at hk
  rw [List.getElem_take] at hh2
  have := (hup k (by omega) (by omega)).1
  exact ⟨k, by omega, (zql hg hb ⟨this.1, this.2.1⟩).2 ⟨n, hn, hh, hh2⟩⟩
 ·rintro ⟨k, hk, hm⟩
  have := (hup k (by omega) (by omega)).1
  obtain ⟨n, hn, h1, h2⟩ := (zql hg hb ⟨this.1, this.2.1⟩).1 hm
  refine ⟨(n : Int), (xx hg hb.1 hb.2 _).2 ⟨n, rfl, hn, h1⟩, ?_⟩
  rw [Int.toNat_natCast]
  refine covB_iff.2 ⟨l[k], ?_, h2⟩
  have : (l.take i)[k]'(by rw [List.length_take]; omega) = l[k] := List.getElem_take
  rw [<- this]
  exact List.getElem_mem _
end Go.V
namespace Go.V
def zbb (g : Gnd) (b : Bld) (k t : Nat) : Prop := (b.x <= (t : Int) % g.W /\ (t : Int) % g.W < b.x + b.w) /\ (b.y <= (t : Int) / g.W /\ (t : Int) / g.W < b.y + (k : Int))
def zd5 (g : Gnd) (b : Bld) (k m t : Nat) : Prop := (t : Int) / g.W = b.y + (k : Int) /\ (b.x <= (t : Int) % g.W /\ (t : Int) % g.W < b.x + (m : Int))
instance (g : Gnd) (b : Bld) (k t : Nat) : Decidable (zbb g b k t) := inferInstanceAs (Decidable (_ /\ _))
instance (g : Gnd) (b : Bld) (k m t : Nat) : Decidable (zd5 g b k m t) := inferInstanceAs (Decidable (_ /\ _))
def covR (g : Gnd) (l : List Bld) (i : Nat) (b : Bld) (k m t : Nat) : Bool := covB g (l.take i) t || decide (zbb g b k t \/ zd5 g b k m t)
theorem zxt (g : Gnd) (l : List Bld) (i : Nat) (b : Bld) : covR g l i b 0 0 = covB g (l.take i) := by
 funext t
 unfold covR
 rw [decide_eq_false (by unfold zbb zd5; omega), Bool.or_false]
theorem yi1 (g : Gnd) (l : List Bld) (i : Nat) (b : Bld) (k : Nat) (hw : 0 <= b.w) : covR g l i b k b.w.toNat = covR g l i b (k + 1) 0 := by
 funext t
 unfold covR
 have : (zbb g b k t \/ zd5 g b k b.w.toNat t) ↔ (zbb g b (k + 1) t \/ zd5 g b (k + 1) 0 t) := by
  unfold zbb zd5
  rw [show ((b.w.toNat : Nat) : Int) = b.w by omega]
  omega
 simp only [this]
theorem zxv {g : Gnd} {l : List Bld} {i : Nat} (hi : i < l.length) (hh : 0 <= l[i].h) : covR g l i l[i] l[i].h.toNat 0 = covB g (l.take (i + 1)) := by
 funext t
 unfold covR covB
 rw [List.take_succ_eq_append_getElem hi, List.any_append]
 congr 1
 simp only [List.any_cons, List.any_nil, Bool.or_false]
 have : (zbb g l[i] l[i].h.toNat t \/ zd5 g l[i] l[i].h.toNat 0 t) ↔ hasP g l[i] t := by
  unfold zbb zd5 hasP
  rw [show ((l[i].h.toNat : Nat) : Int) = l[i].h by omega]
  omega
 simp only [this]
theorem zxu {g : Gnd} (hg : gndP g) {l : List Bld} {i : Nat} {b : Bld} (hb : bldP b /\ onP g b) {k m : Nat} (hk : (k : Int) < b.h) (hm : (m : Int) < b.w) {n : Nat} (hn : (n : Int) = b.x + (m : Int) + g.W * (b.y + (k : Int))) :
  covR g l i b k (m + 1) n = true /\ ∀ s, s ≠ n -> covR g l i b k (m + 1) s = covR g l i b k m s := by
 unfold bldP onP at hb
 obtain ⟨q1, q2, q3, q4⟩ := ji hg (x := b.x + m) (y := b.y + k) (by omega) (by omega)
 unfold covR
 refine ⟨?_, fun s hs => ?_⟩
 ·have : zd5 g b k (m + 1) n := by
   unfold zd5
   rw [hn, q3, q4]
   omega
  rw [decide_eq_true (.inr this), Bool.or_true]
 ·have e := Int.emod_add_mul_ediv (s : Int) g.W
  have : (zbb g b k s \/ zd5 g b k (m + 1) s) ↔ (zbb g b k s \/ zd5 g b k m s) := by
   unfold zd5
   have hne : ¬ ((s : Int) / g.W = b.y + (k : Int) /\ (s : Int) % g.W = b.x + (m : Int)) := by
    rintro ⟨e1, e2⟩
    rw [e1, e2] at e
    omega
   unfold zbb
   clear e hn q1 q2 q3 q4
   generalize (s : Int) % g.W = X at *
   generalize (s : Int) / g.W = Y at *
   omega
  simp only [this]
end Go.V
namespace Go.V
theorem yii {g : Gnd} {t : Nat} {p : Vc} {r : Int} (hr : 0 < r) (h : hitP g t p r) :
  (tx g t < p.1 + r /\ p.1 - r < tx g t + 65536) /\ (ty g t < p.2 + r /\ p.2 - r < ty g t + 65536) := by
 unfold hitP at h
 have n : ∀ x lo : Int, 0 <= off x lo := fun x lo => by unfold off; split <;> (try split) <;> omega
 have a := yft (n p.1 (tx g t)) hr (by have := Int.mul_nonneg (n p.2 (ty g t)) (n p.2 (ty g t)); omega)
 have b := yft (n p.2 (ty g t)) hr (by have := Int.mul_nonneg (n p.1 (tx g t)) (n p.1 (tx g t)); omega)
 unfold off at a b
 refine ⟨?_, ?_⟩
 ·generalize tx g t = X at a
  split at a
  ·omega
  ·split at a <;> omega
 ·generalize ty g t = Y at b
  split at b
  ·omega
  ·split at b <;> omega
section
variable {P : Program} {c : Cfg}
theorem zv {ops : Array Oper} {o : Oper} {A : Fr} {go skip : Fr -> Prop} (hg : o.guard = none) (h : go A) : zeo ops o A go skip := by
 unfold zeo; rw [hg]; exact h
theorem zy {o : Oper} {t : TypeId} {a x : Operand} {K : Fr -> Store -> Prop} {A : Fr} {st : Store} {i : TI} {v : AV} (ho : o.op = .store t a x) (hd : o.dst = none) (hi : c.I t = some i) (hx : A.ev x = .av v) (h : zcs i A st (A.ev a) v K) : vcOp P c o K A st := by
 unfold vcOp
 rw [ho]
 show zhg P c o K A st
 unfold zhg
 rw [ho]
 simp only [hd, Option.isNone_none, cond_true, hx]
 exact za i hi h
end
theorem yju {A : Int} {m : Nat} (h : (m : Int) < A) : A.toNat - (m + 1) < A.toNat - m := by omega
theorem zg8 (a : Int) (m : Nat) : a + ((m + 1 : Nat) : Int) = a + (m : Int) + 1 := by omega
theorem zfa {A x : Int} {m : Nat} (h : x + (m : Int) < A) : ((m + 1 : Nat) : Int) <= A - x := by omega
/-- Of rows below 'y', and of row 'y' up to 'x', none that is closed meets the disc. -/
def zeb (g : Gnd) (l : List Bld) (c : Int) (p : Vc) (r y : Int) : Prop := ∀ t, t < g.T.length -> (t : Int) / g.W < y -> yc g l c t = false -> ¬ hitP g t p r
def zdh (g : Gnd) (l : List Bld) (c : Int) (p : Vc) (r y x : Int) : Prop := ∀ t, t < g.T.length -> (t : Int) / g.W = y -> (t : Int) % g.W < x -> yc g l c t = false -> ¬ hitP g t p r
theorem zph {g : Gnd} {l : List Bld} {c : Int} {p : Vc} {r : Int} (hr : 0 < r) (hp : 0 <= p.2 - r) : zeb g l c p r ((p.2 - r) / 65536) := by
 intro t _ hy _ hh
 have := (yii hr hh).2
 unfold ty at this
 generalize (t : Int) / g.W = Y at *
 omega
theorem zm8 {g : Gnd} {l : List Bld} {c : Int} {p : Vc} {r y : Int} (hr : 0 < r) (hp : 0 <= p.1 - r) : zdh g l c p r y ((p.1 - r) / 65536) := by
 intro t _ _ hx _ hh
 have := (yii hr hh).1
 unfold tx at this
 generalize (t : Int) % g.W = X at *
 omega
theorem zm9 {g : Gnd} (hg : gndP g) {l : List Bld} {c : Int} {p : Vc} {r y x : Int} (hr : 0 < r) (hp : 0 <= p.1 + r) (hx : ¬ (x <= (p.1 + r) / 65536) \/ ¬ (x < g.W)) (hu : zeb g l c p r y) (h : zdh g l c p r y x) : zeb g l c p r (y + 1) := by
 intro t ht hy ho hh
 by_cases e : (t : Int) / g.W = y
 ·by_cases e2 : (t : Int) % g.W < x
  ·exact h t ht e e2 ho hh
  ·have h1 := (yii hr hh).1
   have h2 := (za0 hg (t := t) (by have := (zr hg).2.2; omega)).1
   unfold tx at h1
   generalize (t : Int) % g.W = X at *
   omega
 ·exact hu t ht (by omega) ho hh
theorem zpi {g : Gnd} (hg : gndP g) {l : List Bld} {c : Int} {p : Vc} {r y : Int} (hr : 0 < r) (hp : 0 <= p.2 + r) (hy : ¬ (y <= (p.2 + r) / 65536) \/ ¬ (y < g.H)) (hu : zeb g l c p r y) : ∀ t, t < g.T.length -> yc g l c t = false -> ¬ hitP g t p r := by
 intro t ht ho hh
 by_cases e : (t : Int) / g.W < y
 ·exact hu t ht e ho hh
 ·have h1 := (yii hr hh).2
  have h2 := (za0 hg (t := t) (by have := (zr hg).2.2; omega)).2
  unfold ty at h1
  generalize (t : Int) / g.W = Y at *
  omega
theorem zkn {g : Gnd} (hg : gndP g) {l : List Bld} {c : Int} {p : Vc} {r y x : Int} (hx : 0 <= x /\ x < g.W) (hy : 0 <= y /\ y < g.H) (h : zdh g l c p r y x) (hn : yc g l c (x + g.W * y).toNat = false -> ¬ hitP g (x + g.W * y).toNat p r) : zdh g l c p r y (x + 1) := by
 intro t ht e1 e2 ho
 by_cases e : (t : Int) % g.W < x
 ·exact h t ht e1 e ho
 ·have e3 : (t : Int) % g.W = x := by omega
  have q := Int.emod_add_mul_ediv (t : Int) g.W
  rw [e1, e3] at q
  have : (x + g.W * y).toNat = t := by rw [q]; omega
  rw [this] at hn
  exact hn ho
end Go.V
namespace Go.V
theorem zmn {F N S : Store} (hd : Disj F N) : ((F.un N).un S).Has (F.un S) := by
 refine ⟨fun b y h => ?_, fun b x h => ?_⟩
 ·rcases yjk h with h1 | ⟨h1, h2⟩
  ·exact un_r h1
  ·have h3 : (F.un N).obj b = some y := un_l hd h2
   show (match S.obj b with | some y => some y | none => (F.un N).obj b) = some y
   rw [h1]; exact h3
 ·rcases yjj h with h1 | ⟨h1, h2⟩
  ·exact zld h1
  ·have h3 : (F.un N).tok b = some x := yj9 hd h2
   show (match S.tok b with | some y => some y | none => (F.un N).tok b) = some x
   rw [h1]; exact h3
theorem qj {l : List Unt} (hr : yf l) {a b : Nat} (hab : a < b) (hb : b < l.length) : (l[a]'(by omega)).id < l[b].id := by
 induction b with
 | zero => omega
 | succ b ih =>
  have h3 := hr (b + 1) hb (by omega)
  simp only [Nat.add_sub_cancel] at h3
  by_cases e : a = b
  ·subst e; exact h3
  ·have := ih (by omega) (by omega)
   omega
theorem jo {l : List Unt} (hr : yf l) {u v : Unt} (hu : u ∈ l) (hv : v ∈ l) (h : u.id = v.id) : u = v := by
 obtain ⟨a, ha, rfl⟩ := List.getElem_of_mem hu
 obtain ⟨b, hb, rfl⟩ := List.getElem_of_mem hv
 rcases Nat.lt_trichotomy a b with q | q | q
 ·have := qj hr q hb; omega
 ·subst q; rfl
 ·have := qj hr q ha; omega
def k5 (w : Wld) (L : List Ent) : Prop := ∀ e, e ∈ L ↔ ∃ u ∈ w.U, u.inn = 0 /\ e = (u.id, u.pos)
theorem zdw {w : Wld} {L : List Ent} (h : k5 w L) (hn : ∀ u ∈ w.U, u.pos.ok) : ∀ e ∈ L, e.2.ok := fun e he => by
 obtain ⟨u, hu, _, rfl⟩ := (h e).1 he
 exact hn u hu
/-- The units that are near. -/
def zoo (w : Wld) (p : Vc) (r : Int) (us : List Unt) : Prop := ∀ u, u ∈ us ↔ (u ∈ w.U /\ u.inn = 0) /\ near p u.pos r = true
theorem zqi {w : Wld} {L : List Ent} (hr : yf w.U) (hL : k5 w L) {p : Vc} {r : Int} {ns : List Int} (hn : zno L p r ns) {us : List Unt} (h1 : us.map (·.id) = ns) (h2 : ∀ u ∈ us, u ∈ w.U /\ u.inn = 0) : zoo w p r us := by
 intro u
 constructor
 ·intro hu
  refine ⟨h2 u hu, ?_⟩
  have : u.id ∈ ns := by rw [<- h1]; exact List.mem_map.2 ⟨u, hu, rfl⟩
  obtain ⟨e, he, h3, h4⟩ := (hn.2 _).1 this
  obtain ⟨v, hv, _, rfl⟩ := (hL e).1 he
  rw [jo hr (h2 u hu).1 hv h3.symm]
  exact h4
 ·rintro ⟨⟨h3, h4⟩, h5⟩
  have : u.id ∈ ns := (hn.2 _).2 ⟨(u.id, u.pos), (hL _).2 ⟨u, h3, h4, rfl⟩, rfl, h5⟩
  rw [<- h1] at this
  obtain ⟨v, hv, h6⟩ := List.mem_map.1 this
  rw [jo hr h3 (h2 v hv).1 h6.symm]
  exact hv
theorem zao (k : Int) : 0 < kRad k /\ kRad k <= 81920 := by unfold kRad; split <;> (try split) <;> omega
theorem zmh (k : Int) : kCls k = 0 \/ kCls k = 1 \/ kCls k = 2 := by unfold kCls; split <;> (try split) <;> (try split) <;> omega
theorem zl6 {a b : Vc} {r r' : Int} (h : r <= r') (hn : near a b r = true) : near a b r' = true := by
 unfold near at *
 rw [decide_eq_true_iff] at *
 have : r * r <= r' * r' := Int.mul_le_mul h h (by omega) (by omega)
 omega
theorem zm7 {w : Wld} {id k : Int} {q : Vc} {us : List Unt} (hf : ze5 w.G w.B (kCls k) q (kRad k)) (hus : zoo w q (kRad k + 81920) us) :
  ym w id k q ↔ ∀ u ∈ us, u.id ≠ id -> vk q (kRad k) u.pos (kRad u.kind) = true := by
 constructor
 ·intro h u hu hne
  have := (hus u).1 hu
  exact h.2 u this.1.1 this.1.2 hne
 ·intro h
  refine ⟨hf, fun u hu h0 hne => ?_⟩
  unfold vk
  cases hc : near q u.pos (kRad k + kRad u.kind) with
  | false => rfl
  | true =>
   have h1 := zl6 (r' := kRad k + 81920) (by have := zao u.kind; omega) hc
   have := h u ((hus u).2 ⟨⟨hu, h0⟩, h1⟩) hne
   unfold vk at this
   rw [hc] at this
   exact this
end Go.V
namespace Go.V
/-- A map by whole numbers. -/
def entI {α : Type} (f : α -> AV) (e : Int × α) : AV × AV := (int e.1, f e.2)
def getI {α : Type} (cs : List (Int × α)) (k : Int) : Option α := (cs.find? fun e => k == e.1).map (·.2)
def putI {α : Type} : List (Int × α) -> Int -> α -> List (Int × α)
 | [], k, v => [(k, v)]
 | e :: l, k, v => if k == e.1 then (k, v) :: l else e :: putI l k v
theorem zxe {α : Type} (f : α -> AV) (cs : List (Int × α)) (k : Int) : (cs.map (entI f)).find? (qA k) = (cs.find? fun e => k == e.1).map (entI f) := by
 rw [List.find?_map]; rfl
theorem zgo {α : Type} (f : α -> AV) (cs : List (Int × α)) (k : Int) (z : AV) : zc5 false z ((cs.map (entI f)).find? (qA k)) = ((getI cs k).map f).getD z := by
 rw [zxe]
 unfold getI
 cases cs.find? fun e => k == e.1 with
 | none => rfl
 | some e => rfl
theorem zl0 {α : Type} (f : α -> AV) (k : Int) (v : α) : ∀ cs : List (Int × α),
  (match (cs.map (entI f)).findIdx? (qA k) with | some i => (cs.map (entI f)).set i (int k, f v) | none => cs.map (entI f) ++ [(int k, f v)]) = (putI cs k v).map (entI f)
 | [] => rfl
 | e :: l => by
  have ih := zl0 f k v l
  rw [List.map_cons, List.findIdx?_cons]
  unfold putI
  by_cases h : k == e.1
  ·have h2 : qA k (entI f e) = true := h
   rw [h2]
   simp only [h, if_true, List.set_cons_zero, List.map_cons]
   rfl
  ·have h : (k == e.1) = false := by simpa using h
   have h2 : qA k (entI f e) = false := h
   rw [h2]
   simp only [h, if_false, List.map_cons]
   cases hx : (l.map (entI f)).findIdx? (qA k) with
   | none => rw [hx] at ih; simp at ih ⊢; exact ih
   | some i => rw [hx] at ih; simp at ih ⊢; exact ih
theorem zgn {α : Type} (f : α -> AV) (cs : List (Int × α)) (bs : List Nat) (clk : Nat) (k : Int) (v : α) : ∃ bs' clk', jz (cs.map (entI f)) bs clk (qA k) (int k) (f v) = .map ((putI cs k v).map (entI f)) bs' clk' := by
 have h := zl0 f k v cs
 unfold jz
 cases hx : (cs.map (entI f)).findIdx? (qA k) with
 | none => rw [hx] at h; exact ⟨_, _, by rw [<- h]⟩
 | some i => rw [hx] at h; exact ⟨_, _, by rw [<- h]⟩
theorem zfd {α : Type} (k : Int) (v : α) (j : Int) : ∀ cs : List (Int × α), getI (putI cs k v) j = if j = k then some v else getI cs j
 | [] => by
  unfold putI getI
  by_cases h : j = k <;> simp [h]
 | e :: l => by
  have ih := zfd k v j l
  unfold getI at ih ⊢
  by_cases h : k = e.1
  ·have h1 : (k == e.1) = true := by simpa using h
   rw [show putI (e :: l) k v = (k, v) :: l by unfold putI; simp [h1]]
   by_cases h2 : j = k
   ·simp [h2]
   ·have e1 : (j == k) = false := by simpa using h2
    have e2 : (j == e.1) = false := by rw [<- h]; exact e1
    rw [List.find?_cons, List.find?_cons, if_neg h2]
    simp only [e1, e2]
  ·have h1 : (k == e.1) = false := by simpa using h
   rw [show putI (e :: l) k v = e :: putI l k v by rw [putI]; simp [h1]]
   rw [List.find?_cons, List.find?_cons]
   by_cases h2 : j = e.1
   ·have e1 : (j == e.1) = true := by simpa using h2
    simp only [e1]
    rw [if_neg (by omega)]
   ·have e1 : (j == e.1) = false := by simpa using h2
    simp only [e1]
    exact ih
end Go.V
namespace Go.V
theorem zbc {l : List Unt} {i : Nat} (hi : i < l.length) (id : Int) : ((inOf (l.take (i + 1)) id).length : Int) = ((inOf (l.take i) id).length : Int) + (if l[i].inn = id then 1 else 0) := by
 unfold inOf
 rw [List.take_succ_eq_append_getElem hi, List.filter_append, List.map_append, List.length_append]
 by_cases h : l[i].inn = id
 ·simp [h]
 ·simp [h]
theorem zov {l : List Unt} (i : Nat) (id : Int) : (inOf (l.take i) id).length <= (inOf l id).length := by
 have h : (inOf l id).length = (inOf (l.take i) id).length + (inOf (l.drop i) id).length := by
  unfold inOf
  rw [<- List.length_append, <- List.map_append, <- List.filter_append, List.take_append_drop]
 omega
/-- Who rides, so far. -/
def zu7 (w : Wld) (i : Nat) : Prop :=
 (∀ j, (h : j < w.U.length) -> j < i -> w.U[j].inn ≠ 0 -> ∃ x ∈ w.U, x.id = w.U[j].inn /\ (x.inn = 0 /\ x.owner = w.U[j].owner) /\ wv w.U[j].kind = 0 /\ w.U[j].pos = (0, 0) /\ w.U[j].goal = -1 /\ w.U[j].state = 0) ∧
 ∀ x ∈ w.U, x.id ≠ 0 -> ((inOf (w.U.take i) x.id).length : Int) <= wv x.kind
theorem zrz {w : Wld} (h : zu7 w w.U.length) : ∀ u ∈ w.U, u.inn ≠ 0 -> zb4 w u := by
 intro u hu hne
 obtain ⟨j, hj, rfl⟩ := List.getElem_of_mem hu
 obtain ⟨x, hx, h1, h2, h3, h4, h5, h6⟩ := h.1 j hj hj hne
 have := h.2 x hx (by rw [h1]; exact hne)
 rw [List.take_length, h1] at this
 exact ⟨x, hx, h1, h2, this, h3, h4, h5, h6⟩
theorem zor (k : Int) : 0 <= wv k /\ wv k <= 4 := by unfold wv; split <;> (try split) <;> (try split) <;> omega
end Go.V
namespace Go.V
/-- The units up to one may be by themselves. -/
def zlc (w : Wld) (i : Nat) : Prop := ∀ j, (h : j < w.U.length) -> j < i -> (untP w w.U[j] /\ ∀ b ∈ w.B, b.id ≠ w.U[j].id) /\ (0 < j -> (w.U[j - 1]'(by omega)).id < w.U[j].id)
theorem zlb {w : Wld} (h : zlc w w.U.length) : zcc w := by
 refine ⟨fun j hj h0 => (h j hj hj).2 h0, fun u hu => ?_⟩
 obtain ⟨j, hj, rfl⟩ := List.getElem_of_mem hu
 exact (h j hj hj).1
theorem zpv {w : Wld} (h : zcc w) (i : Nat) : zlc w i := fun j hj _ => ⟨h.2 _ (List.getElem_mem hj), h.1 j hj⟩
end Go.V
