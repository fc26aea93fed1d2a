/- Ground of laws of thronglaw24: contracts and plain lemmas; no condition beyond the row's own. -/
import Derived.Test.YtieceacpbjcddaaGreatKE
set_option linter.unusedSimpArgs false
set_option linter.unusedVariables false
set_option linter.defProp false
namespace Go.V
/-- Cells of whole numbers. -/
def il (n : Nat) (f : Nat -> Int) : List AV := (List.range n).map fun t => int (f t)
theorem y9 (n : Nat) (f : Nat -> Int) : (il n f).length = n := by simp [il]
theorem w7 {n : Nat} {f : Nat -> Int} {t : Nat} (h : t < n) : (il n f)[t]? = some (int (f t)) := by simp [il, h]
theorem jh {n : Nat} {f : Nat -> Int} {t : Nat} (h : t < n) : ((il n f).drop (0 + t * 1)).head? = some (int (f t)) := by
 rw [List.head?_drop, show 0 + t * 1 = t by omega, w7 h]
theorem L7 {n : Nat} {f : Nat -> Bool} {t : Nat} (h : t < n) : ((bl n f).drop (0 + t * 1)).head? = some (bool (f t)) := by
 rw [List.head?_drop, show 0 + t * 1 = t by omega, Bx h]
theorem Kz (n : Nat) : List.replicate n (AV.s (.int .i64 0)) = il n fun _ => 0 := by
 unfold il
 rw [List.map_const', List.length_range]
 rfl
def setI (f : Nat -> Int) (t : Nat) (v : Int) : Nat -> Int := fun s => if s = t then v else f s
theorem Fy (f : Nat -> Int) (t : Nat) (v : Int) : setI f t v t = v := if_pos rfl
theorem Do (f : Nat -> Int) {t s : Nat} (v : Int) (h : s ≠ t) : setI f t v s = f s := if_neg h
theorem zk0 (f : Nat -> Int) (t : Nat) : setI f t (f t) = f := funext fun s => by
 unfold setI
 split
 ·rename_i h; rw [h]
 ·rfl
theorem Nt (f : Nat -> Int) (t : Nat) (v u : Int) : setI (setI f t v) t u = setI f t u := funext fun s => by
 unfold setI
 split <;> simp_all
theorem dc {n : Nat} {f : Nat -> Int} {t : Nat} (h : t < n) (g : Nat -> Int) (hg : ∀ s, s ≠ t -> g s = f s) : z7 (il n f) t [int (g t)] = il n g := by
 unfold z7
 apply List.ext_getElem?
 intro s
 by_cases h1 : s < t
 ·rw [List.append_assoc, List.getElem?_append_left (by rw [List.length_take, y9]; omega), List.getElem?_take_of_lt h1, w7 (by omega), w7 (by omega), hg s (by omega)]
 ·by_cases h2 : s = t
  ·subst h2
   rw [List.append_assoc, List.getElem?_append_right (by rw [List.length_take, y9]; omega), List.length_take, y9, show s - min s n = 0 by omega, w7 h]
   rfl
  ·rw [List.getElem?_append_right (by rw [List.length_append, List.length_take, y9]; simp; omega), List.length_append, List.length_take, y9, List.getElem?_drop]
   by_cases h3 : s < n
   ·have e : t + [int (g t)].length + (s - (min t n + [int (g t)].length)) = s := by simp; omega
    rw [e, w7 h3, w7 h3, hg s h2]
   ·rw [List.getElem?_eq_none (by rw [y9]; simp; omega), List.getElem?_eq_none (by rw [y9]; omega)]
theorem Bp {n : Nat} {f : Nat -> Int} {t : Nat} (h : t < n) (v : Int) : z7 (il n f) t [int v] = il n (setI f t v) := by
 have := dc h (setI f t v) (fun s hs => Do f v hs)
 rw [Fy] at this
 exact this
def ilL (n : Nat) (f : Nat -> Int) : List Int := (List.range n).map f
theorem kp (n : Nat) (f : Nat -> Int) : (ilL n f).length = n := by simp [ilL]
theorem Pf {n : Nat} {f : Nat -> Int} {t : Nat} (h : t < n) : (ilL n f)[t]'(by rw [kp]; exact h) = f t := by simp [ilL]
theorem Pe (n : Nat) (f : Nat -> Int) : (rws yn (ilL n f)).flatten = il n f := by
 unfold rws ilL il
 rw [List.map_map]
 generalize List.range n = l
 induction l with
 | nil => rfl
 | cons a l ih => simp only [List.map_cons, List.flatten_cons, ih]; rfl
theorem D5 {n : Nat} {f g : Nat -> Int} (h : ∀ t, t < n -> f t = g t) : il n f = il n g := List.map_congr_left fun t ht => by rw [h t (List.mem_range.1 ht)]
theorem Rh {n : Nat} {f g : Nat -> Bool} (h : ∀ t, t < n -> f t = g t) : bl n f = bl n g := List.map_congr_left fun t ht => by rw [h t (List.mem_range.1 ht)]
theorem zwv {n : Nat} {f g : Nat -> Bool} (h : ∀ t, t < n -> f t = g t) : blL n f = blL n g := List.map_congr_left fun t ht => h t (List.mem_range.1 ht)
/-- What a place reads as: nothing is there, or its number. -/
def gv (g : Gnd) (f : Nat -> Int) (x y : Int) : Int := if onG g x y then f (tl g x y) else 0
def jt (g : Gnd) (f : Nat -> Int) (x y : Int) (v : Int) (ws : List (Int × Int)) : Int := ws.foldl (fun v d => min v (gv g f (x + d.1) (y + d.2) + 1)) v
theorem dj {g : Gnd} (hg : zi g) {f : Nat -> Int} (hf : ∀ t, t < g.T.length -> 0 <= f t /\ f t <= 128) (x y : Int) : 0 <= gv g f x y /\ gv g f x y <= 128 := by
 unfold gv
 split
 ·rename_i h; exact hf _ (j1 hg h).2.1
 ·omega
theorem Oh {g : Gnd} (hg : zi g) {f : Nat -> Int} (hf : ∀ t, t < g.T.length -> 0 <= f t /\ f t <= 128) (x y : Int) : ∀ (ws : List (Int × Int)) (v : Int), 0 <= v /\ v <= 128 -> 0 <= jt g f x y v ws /\ jt g f x y v ws <= 128
 | [], v, hv => hv
 | d :: r, v, hv => by
  have := dj hg hf (x + d.1) (y + d.2)
  exact Oh hg hf x y r (min v (gv g f (x + d.1) (y + d.2) + 1)) (by omega)
theorem zpp (g : Gnd) (f : Nat -> Int) (x y v : Int) (ws : List (Int × Int)) {i : Nat} (hi : i < ws.length) : jt g f x y v (ws.take (i + 1)) = min (jt g f x y v (ws.take i)) (gv g f (x + ws[i].1) (y + ws[i].2) + 1) := by
 unfold jt
 rw [List.take_succ_eq_append_getElem hi, List.foldl_append]
 rfl
theorem zk1 {n : Nat} {f : Nat -> Int} (hf : ∀ t, t < n -> 0 <= f t /\ f t <= 128) {t : Nat} {v : Int} (hv : 0 <= v /\ v <= 128) : ∀ s, s < n -> 0 <= setI f t v s /\ setI f t v s <= 128 := fun s hs => by
 unfold setI
 split
 ·exact hv
 ·exact hf s hs
/-- Another place is not touched. -/
theorem zsp {g : Gnd} (hg : zi g) (f : Nat -> Int) {t : Nat} (v : Int) {dx dy : Int} (hd : dx ≠ 0 \/ dy ≠ 0) : gv g (setI f t v) ((t : Int) % g.W + dx) ((t : Int) / g.W + dy) = gv g f ((t : Int) % g.W + dx) ((t : Int) / g.W + dy) := by
 unfold gv
 split
 ·rename_i h
  obtain ⟨_, _, h3, h4⟩ := j1 hg h
  refine Do f v fun e => ?_
  rw [e] at h3 h4
  omega
 ·rfl
def Gj : List (Int × Int) := [(-1, 0), (-1, -1), (0, -1), (1, -1)]
def Fc : List (Int × Int) := [(1, 0), (1, 1), (0, 1), (-1, 1)]
def Di (d : Int × Int) : List AV := [int d.1, int d.2]
def Fp (g : Gnd) (f : Nat -> Int) (ws : List (Int × Int)) (t : Nat) : Nat -> Int := setI f t (jt g f ((t : Int) % g.W) ((t : Int) / g.W) (f t) ws)
def jq (g : Gnd) (f : Nat -> Int) : Nat -> Nat -> Int
 | 0 => f
 | i + 1 => Fp g (jq g f i) Gj i
def k5 (g : Gnd) (f : Nat -> Int) (n : Nat) : Nat -> Nat -> Int
 | 0 => f
 | j + 1 => Fp g (k5 g f n j) Fc (n - 1 - j)
theorem Su {g : Gnd} (hg : zi g) {f : Nat -> Int} (hf : ∀ t, t < g.T.length -> 0 <= f t /\ f t <= 128) {ws : List (Int × Int)} {t : Nat} (ht : t < g.T.length) : ∀ s, s < g.T.length -> 0 <= Fp g f ws t s /\ Fp g f ws t s <= 128 :=
 zk1 hf (Oh hg hf _ _ _ _ (hf t ht))
theorem Nf {g : Gnd} (hg : zi g) {f : Nat -> Int} (hf : ∀ t, t < g.T.length -> 0 <= f t /\ f t <= 128) : ∀ i, i <= g.T.length -> ∀ s, s < g.T.length -> 0 <= jq g f i s /\ jq g f i s <= 128
 | 0, _ => hf
 | i + 1, hi => Su hg (Nf hg hf i (by omega)) (by omega)
theorem Sw {g : Gnd} (hg : zi g) {f : Nat -> Int} (hf : ∀ t, t < g.T.length -> 0 <= f t /\ f t <= 128) : ∀ i, i <= g.T.length -> ∀ s, s < g.T.length -> 0 <= k5 g f g.T.length i s /\ k5 g f g.T.length i s <= 128
 | 0, _ => hf
 | i + 1, hi => Su hg (Sw hg hf i (by omega)) (by omega)
theorem Sx (g : Gnd) (f : Nat -> Int) : ∀ i s, i <= s -> jq g f i s = f s
 | 0, _, _ => rfl
 | i + 1, s, h => by
  show setI _ i _ s = _
  rw [Do _ _ (by omega), Sx g f i s (by omega)]
theorem I5 (g : Gnd) (f : Nat -> Int) : ∀ i s, s < i -> jq g f i s = jq g f (s + 1) s
 | 0, _, h => absurd h (Nat.not_lt_zero _)
 | i + 1, s, h => by
  by_cases e : s = i
  ·subst e; rfl
  ·show setI _ i _ s = _
   rw [Do _ _ e, I5 g f i s (by omega)]
theorem Sv (g : Gnd) (f : Nat -> Int) (n : Nat) : ∀ j s, s + j < n -> k5 g f n j s = f s
 | 0, _, _ => rfl
 | j + 1, s, h => by
  show setI _ (n - 1 - j) _ s = _
  rw [Do _ _ (by omega), Sv g f n j s (by omega)]
theorem I4 (g : Gnd) (f : Nat -> Int) (n : Nat) : ∀ j s, s < n -> j <= n -> n <= s + j -> k5 g f n j s = k5 g f n (n - 1 - s + 1) s
 | 0, s, h, _, h2 => absurd h2 (by omega)
 | j + 1, s, h, h1, h2 => by
  by_cases e : s = n - 1 - j
  ·have : j + 1 = n - 1 - s + 1 := by omega
   rw [this]
  ·show setI _ (n - 1 - j) _ s = _
   rw [Do _ _ e, I4 g f n j s h (by omega) (by omega)]
theorem zpr (g : Gnd) (f : Nat -> Int) (x y v : Int) : jt g f x y v Gj = m5 v (gv g f (x - 1) y) (gv g f (x - 1) (y - 1)) (gv g f x (y - 1)) (gv g f (x + 1) (y - 1)) := by
 unfold jt Gj m5
 simp only [List.foldl_cons, List.foldl_nil, Int.add_zero, <- Int.sub_eq_add_neg]
theorem zpq (g : Gnd) (f : Nat -> Int) (x y v : Int) : jt g f x y v Fc = m5 v (gv g f (x + 1) y) (gv g f (x + 1) (y + 1)) (gv g f x (y + 1)) (gv g f (x - 1) (y + 1)) := by
 unfold jt Fc m5
 simp only [List.foldl_cons, List.foldl_nil, Int.add_zero, <- Int.sub_eq_add_neg]
/-- How much room there is. -/
def wu (g : Gnd) (o : Nat -> Bool) : Nat -> Int := k5 g (jq g (fun t => if o t then 128 else 0) g.T.length) g.T.length g.T.length
theorem zn1 {g : Gnd} (hg : zi g) (o : Nat -> Bool) {t : Nat} (ht : t < g.T.length) (s : Nat) (hs : s <= 127) : (s : Int) < wu g o t ↔ sqP g o s ((t : Int) % g.W) ((t : Int) / g.W) := by
 have hW : 1 <= g.W := hg.1.1
 obtain ⟨ho, he⟩ := vy hg ht
 have key := zwb (g := g) (f := o) (A := gv g (jq g (fun t => if o t then 128 else 0) g.T.length)) (B := gv g (wu g o))
  (fun x y h => if_neg h) (fun x y h => if_neg h) (fun x y h => ?_) (fun x y h => ?_) ho s hs
 ·rw [<- key]
  unfold gv
  rw [if_pos ho, he]
 ·obtain ⟨e1, e2, e3, e4⟩ := j1 hg h
  have nb : ∀ dx dy : Int, (dy = -1 \/ dy = 0 /\ dx = -1) -> dx <= 1 -> gv g (jq g (fun t => if o t then 128 else 0) (tl g x y)) (x + dx) (y + dy) = gv g (jq g (fun t => if o t then 128 else 0) g.T.length) (x + dx) (y + dy) := fun dx dy hd hx => by
   unfold gv
   split
   ·rename_i h2
    obtain ⟨f1, f2, f3, f4⟩ := j1 hg h2
    have hlt : tl g (x + dx) (y + dy) < tl g x y := by
     have hb := h.1
     have hb2 := h2.1
     rcases hd with rfl | ⟨rfl, rfl⟩
     ·have : g.W * (y + -1) = g.W * y - g.W := by rw [Int.mul_add]; omega
      rw [this] at f1
      have hne : (tl g (x + dx) (y + -1) : Int) ≠ tl g x y := fun e => by
       rw [e, e4] at f4
       omega
      omega
     ·rw [Int.add_zero] at f1 ⊢
      omega
    rw [I5 g _ _ _ hlt, I5 g _ _ _ f2]
   ·rfl
  have h1 : gv g (jq g (fun t => if o t then 128 else 0) g.T.length) x y = jt g (jq g (fun t => if o t then 128 else 0) (tl g x y)) x y (if o (tl g x y) then 128 else 0) Gj := by
   unfold gv
   rw [if_pos h, I5 g _ _ _ e2]
   show setI _ _ _ _ = _
   rw [Fy, e3, e4, Sx g _ _ _ (Nat.le_refl _)]
  rw [h1, zpr]
  have n1 := nb (-1) 0 (by omega) (by decide)
  have n2 := nb (-1) (-1) (by omega) (by decide)
  have n3 := nb 0 (-1) (by omega) (by decide)
  have n4 := nb 1 (-1) (by omega) (by decide)
  rw [Int.add_zero] at n1 n3
  rw [<- Int.sub_eq_add_neg] at n1 n2 n3 n4
  rw [<- Int.sub_eq_add_neg] at n2
  rw [n1, n2, n3, n4]
 ·obtain ⟨e1, e2, e3, e4⟩ := j1 hg h
  have hj : g.T.length - 1 - (g.T.length - 1 - tl g x y) = tl g x y := by omega
  unfold wu
  generalize hF : jq g (fun t => if o t then 128 else 0) g.T.length = F
  have nb : ∀ dx dy : Int, (dy = 1 \/ dy = 0 /\ dx = 1) -> -1 <= dx -> gv g (k5 g F g.T.length (g.T.length - 1 - tl g x y)) (x + dx) (y + dy) = gv g (k5 g F g.T.length g.T.length) (x + dx) (y + dy) := fun dx dy hd hx => by
   unfold gv
   split
   ·rename_i h2
    obtain ⟨f1, f2, f3, f4⟩ := j1 hg h2
    have hlt : tl g x y < tl g (x + dx) (y + dy) := by
     have hb := h.1
     have hb2 := h2.1
     rcases hd with rfl | ⟨rfl, rfl⟩
     ·have : g.W * (y + 1) = g.W * y + g.W := by rw [Int.mul_add]; omega
      rw [this] at f1
      have hne : (tl g (x + dx) (y + 1) : Int) ≠ tl g x y := fun e => by
       rw [e, e4] at f4
       omega
      omega
     ·rw [Int.add_zero] at f1 ⊢
      omega
    rw [I4 g _ _ _ _ f2 (by omega) (by omega), I4 g _ _ _ _ f2 (Nat.le_refl _) (by omega)]
   ·rfl
  have h1 : gv g (k5 g F g.T.length g.T.length) x y = jt g (k5 g F g.T.length (g.T.length - 1 - tl g x y)) x y (gv g F x y) Fc := by
   unfold gv
   rw [if_pos h, if_pos h, I4 g _ _ _ _ e2 (Nat.le_refl _) (by omega)]
   show setI _ _ _ _ = _
   rw [hj, Fy, e3, e4, Sv g _ _ _ _ (by omega)]
  rw [h1, zpq]
  have n1 := nb 1 0 (by omega) (by decide)
  have n2 := nb 1 1 (by omega) (by decide)
  have n3 := nb 0 1 (by omega) (by decide)
  have n4 := nb (-1) 1 (by omega) (by decide)
  rw [Int.add_zero] at n1 n3
  rw [<- Int.sub_eq_add_neg] at n4
  rw [n1, n2, n3, n4]
def sqB (g : Gnd) (f : Nat -> Bool) (s : Nat) (x y : Int) : Bool := (List.range (2 * s + 1)).all fun a => (List.range (2 * s + 1)).all fun b => decide (onG g (x - s + a) (y - s + b)) && f (tl g (x - s + a) (y - s + b))
theorem sqB_iff {g : Gnd} {f : Nat -> Bool} {s : Nat} {x y : Int} : sqB g f s x y = true ↔ sqP g f s x y := by
 unfold sqB
 rw [List.all_eq_true]
 constructor
 ·intro h a b h1 h2 h3 h4
  have h5 := h (a + s).toNat (List.mem_range.2 (by omega))
  rw [List.all_eq_true] at h5
  have h6 := h5 (b + s).toNat (List.mem_range.2 (by omega))
  rw [show x - s + ((a + s).toNat : Int) = x + a by omega, show y - s + ((b + s).toNat : Int) = y + b by omega, Bool.and_eq_true_iff] at h6
  exact ⟨of_decide_eq_true h6.1, h6.2⟩
 ·intro h a ha
  have ha := List.mem_range.1 ha
  rw [List.all_eq_true]
  intro b hb
  have hb := List.mem_range.1 hb
  have := h (a - s) (b - s) (by omega) (by omega) (by omega) (by omega)
  rw [show x - s + (a : Int) = x + (a - s) by omega, show y - s + (b : Int) = y + (b - s) by omega, Bool.and_eq_true_iff]
  exact ⟨decide_eq_true this.1, this.2⟩
/-- Is a tile good for a size? -/
def zf (g : Gnd) (l : List Bld) (c s : Int) (t : Nat) : Bool := sqB g (z6 g l c) s.toNat ((t : Int) % g.W) ((t : Int) / g.W)
theorem zs7 {g : Gnd} (hg : zi g) (l : List Bld) (c : Int) {s : Int} (hs : 0 <= s /\ s <= 3) {t : Nat} (ht : t < g.T.length) : decide (s < wu g (z6 g l c) t) = zf g l c s t := by
 rw [Bool.eq_iff_iff, decide_eq_true_iff]
 unfold zf
 rw [sqB_iff, <- zn1 hg _ ht _ (by omega)]
 omega
def Br (g : Gnd) (l : List Bld) (c s : Int) : AV := lst 1 xi (blL g.T.length (zf g l c s))
def dirL : List (Int × Int) := [(0, -1), (1, 0), (0, 1), (-1, 0), (1, -1), (1, 1), (-1, 1), (-1, -1)]
def qc (g : Gnd) (x y : Int) (d : Int × Int) : Int := if onG g (x + d.1) (y + d.2) then x + d.1 + g.W * (y + d.2) else -1
def qo (g : Gnd) (t : Nat) : List Int := dirL.map (qc g ((t : Int) % g.W) ((t : Int) / g.W))
theorem Ga (g : Gnd) (t : Nat) : (qo g t).length = 8 := by simp [qo, dirL]
theorem Ou {g : Gnd} (hg : zi g) (x y : Int) (d : Int × Int) : qc g x y d = -1 /\ ¬ onG g (x + d.1) (y + d.2) \/ onG g (x + d.1) (y + d.2) /\ qc g x y d = (tl g (x + d.1) (y + d.2) : Nat) /\ tl g (x + d.1) (y + d.2) < g.T.length := by
 unfold qc
 split
 ·rename_i h
  exact .inr ⟨h, (j1 hg h).1.symm, (j1 hg h).2.1⟩
 ·rename_i h
  exact .inl ⟨rfl, h⟩
theorem bj {g : Gnd} (hg : zi g) {t : Nat} {u : Int} (h : u ∈ qo g t) : u = -1 \/ ∃ m : Nat, u = m /\ m < g.T.length := by
 unfold qo at h
 obtain ⟨d, _, rfl⟩ := List.mem_map.1 h
 rcases Ou hg ((t : Int) % g.W) ((t : Int) / g.W) d with ⟨q1, _⟩ | ⟨_, q2, q3⟩
 ·exact .inl q1
 ·exact .inr ⟨_, q2, q3⟩
def sqT (g : Gnd) (o : Nat -> Bool) (r t : Nat) : Bool := sqB g o r ((t : Int) % g.W) ((t : Int) / g.W)
theorem sqT_iff {g : Gnd} {o : Nat -> Bool} {r t : Nat} : sqT g o r t = true ↔ sqP g o r ((t : Int) % g.W) ((t : Int) / g.W) := sqB_iff
theorem zj8 {g : Gnd} (hg : zi g) (o : Nat -> Bool) {t : Nat} (ht : t < g.T.length) : sqT g o 0 t = o t := by
 rw [Bool.eq_iff_iff, sqT_iff, sq_zero]
 obtain ⟨h1, h2⟩ := vy hg ht
 rw [h2]
 exact ⟨fun h => h.2, fun h => ⟨h1, h⟩⟩
theorem No {g : Gnd} {o : Nat -> Bool} {r s t : Nat} (h : s <= r) (hi : sqT g o r t = true) : sqT g o s t = true := sqT_iff.2 (Nn h (sqT_iff.1 hi))
theorem zj9 {g : Gnd} (hg : zi g) {o : Nat -> Bool} {r t : Nat} (h : sqT g o r t = true) : r <= 63 := by
 have := zj7 (sqT_iff.1 h)
 have := hg.1.2
 omega
def okB (g : Gnd) (o : Nat -> Bool) (r : Nat) (u : Int) : Bool := decide (0 <= u) && sqT g o r u.toNat
theorem W2 {g : Gnd} (hg : zi g) {o : Nat -> Bool} {r : Nat} {x y : Int} {d : Int × Int} : okB g o r (qc g x y d) = true ↔ onG g (x + d.1) (y + d.2) /\ sqP g o r (x + d.1) (y + d.2) := by
 unfold okB
 rw [Bool.and_eq_true_iff]
 rcases Ou hg x y d with ⟨h1, h2⟩ | ⟨h1, h2, h3⟩
 ·rw [h1]
  exact ⟨fun h => absurd (of_decide_eq_true h.1) (by decide), fun h => absurd h.1 h2⟩
 ·obtain ⟨_, _, e3, e4⟩ := j1 hg h1
  rw [h2, Int.toNat_natCast, sqT_iff, e3, e4]
  exact ⟨fun h => ⟨h1, h.2⟩, fun h => ⟨decide_eq_true (by omega), h.2⟩⟩
theorem zva {a b : Int} (h1 : -1 <= a) (h2 : a <= 1) (h3 : -1 <= b) (h4 : b <= 1) : (a = 0 /\ b = 0) \/ (a, b) ∈ dirL := by
 have ha : a = -1 \/ a = 0 \/ a = 1 := by omega
 have hb : b = -1 \/ b = 0 \/ b = 1 := by omega
 rcases ha with rfl | rfl | rfl <;> rcases hb with rfl | rfl | rfl <;> first | exact .inl ⟨rfl, rfl⟩ | exact .inr (by decide)
theorem zka {g : Gnd} (hg : zi g) {o : Nat -> Bool} {r t : Nat} (ht : t < g.T.length) : sqT g o (r + 1) t = (sqT g o r t && (qo g t).all (okB g o r)) := by
 rw [Bool.eq_iff_iff, Bool.and_eq_true_iff, sqT_iff, sqT_iff, sq_succ, List.all_eq_true]
 unfold qo
 constructor
 ·intro h
  refine ⟨by have := (h 0 0 (by decide) (by decide) (by decide) (by decide)).2; simpa using this, fun u hu => ?_⟩
  obtain ⟨d, hd, rfl⟩ := List.mem_map.1 hu
  refine (W2 hg).2 ?_
  have : ∀ d ∈ dirL, (-1 <= d.1 /\ d.1 <= 1) /\ (-1 <= d.2 /\ d.2 <= 1) := by decide
  have := this d hd
  exact h d.1 d.2 this.1.1 this.1.2 this.2.1 this.2.2
 ·rintro ⟨h0, h⟩ a b h1 h2 h3 h4
  rcases zva h1 h2 h3 h4 with ⟨rfl, rfl⟩ | hd
  ·rw [Int.add_zero, Int.add_zero]
   exact ⟨(vy hg ht).1, h0⟩
  ·exact (W2 hg).1 (h _ (List.mem_map.2 ⟨(a, b), hd, rfl⟩))
/-- How often a tile was left, up to round r, and of the round's tiles the first i. -/
def wd (g : Gnd) (o : Nat -> Bool) (r i : Nat) (f : Nat -> Int) : Prop := ∀ t, t < g.T.length -> 0 <= f t /\ f t <= ((if t < i then r + 1 else r : Nat) : Int) /\ ∀ s : Nat, s < (if t < i then r + 1 else r) -> ((s : Int) < f t ↔ sqT g o s t = true)
theorem zsv (g : Gnd) (o : Nat -> Bool) : wd g o 0 0 fun _ => 0 := fun t _ => ⟨Int.le_refl _, by simp, fun s hs => absurd hs (by simp)⟩
theorem zsy {g : Gnd} {o : Nat -> Bool} {r : Nat} {f : Nat -> Int} (h : wd g o r g.T.length f) : wd g o (r + 1) 0 f := fun t ht => by
 have := h t ht
 rw [if_pos ht] at this
 rw [if_neg (Nat.not_lt_zero t)]
 exact this
theorem zs1 {g : Gnd} {o : Nat -> Bool} {r i : Nat} {f : Nat -> Int} (h : wd g o r i f) {t : Nat} (ht : t < g.T.length) : 0 <= f t /\ f t <= r + 1 := by
 have := h t ht
 split at this <;> omega
theorem zsx {g : Gnd} {o : Nat -> Bool} {r t : Nat} {f : Nat -> Int} (h : wd g o r t f) (hn : sqT g o r t = false) : wd g o r (t + 1) f := fun s hs => by
 have h1 := h s hs
 by_cases e : s = t
 ·subst e
  rw [if_neg (Nat.lt_irrefl s)] at h1
  rw [if_pos (by omega)]
  refine ⟨h1.1, by omega, fun q hq => ?_⟩
  by_cases e2 : q = r
  ·subst e2
   rw [hn]
   exact ⟨fun hh => by omega, fun hh => by cases hh⟩
  ·exact h1.2.2 q (by omega)
 ·by_cases e2 : s < t
  ·rw [if_pos e2] at h1
   rw [if_pos (by omega)]
   exact h1
  ·rw [if_neg e2] at h1
   rw [if_neg (by omega)]
   exact h1
theorem zsw {g : Gnd} {o : Nat -> Bool} {r t : Nat} {f : Nat -> Int} (h : wd g o r t f) (ht : t < g.T.length) (hn : sqT g o r t = true) : wd g o r (t + 1) (setI f t (f t + 1)) := fun s hs => by
 have h1 := h s hs
 by_cases e : s = t
 ·subst e
  rw [if_neg (Nat.lt_irrefl s)] at h1
  rw [if_pos (by omega), Fy]
  have hr : f s = r := by
   by_cases e0 : r = 0
   ·subst e0; have := h1.1; have := h1.2.1; omega
   ·have := (h1.2.2 (r - 1) (by omega)).2 (No (by omega) hn)
    have := h1.2.1
    omega
  rw [hr]
  refine ⟨by omega, by omega, fun q hq => ⟨fun _ => No (by omega) hn, fun _ => by omega⟩⟩
 ·rw [Do _ _ e]
  by_cases e2 : s < t
  ·rw [if_pos e2] at h1
   rw [if_pos (by omega)]
   exact h1
  ·rw [if_neg e2] at h1
   rw [if_neg (by omega)]
   exact h1
/-- In the end a tile's number tells which squares are good. -/
def K7 (g : Gnd) (o : Nat -> Bool) (f : Nat -> Int) : Prop := ∀ t, t < g.T.length -> ∀ s : Nat, (s : Int) < f t ↔ sqT g o s t = true
theorem zs0 {g : Gnd} {o : Nat -> Bool} {r : Nat} {f : Nat -> Int} (h : wd g o r 0 f) (hn : ∀ t, t < g.T.length -> sqT g o r t = false) : K7 g o f := fun t ht s => by
 have h1 := h t ht
 rw [if_neg (Nat.not_lt_zero t)] at h1
 by_cases e : s < r
 ·exact h1.2.2 s e
 ·constructor
  ·intro hh; have := h1.2.1; omega
  ·intro hh
   have := No (s := r) (by omega) hh
   rw [hn t ht] at this
   cases this
theorem zsu {g : Gnd} {l : List Bld} {c : Int} {f : Nat -> Int} (h : K7 g (z6 g l c) f) {s : Int} (hs : 0 <= s) {t : Nat} (ht : t < g.T.length) : decide (s < f t) = zf g l c s t := by
 rw [Bool.eq_iff_iff, decide_eq_true_iff]
 have := h t ht s.toNat
 rw [show ((s.toNat : Nat) : Int) = s by omega] at this
 exact this
def nxF (g : Gnd) (o : Nat -> Bool) (r t : Nat) (v : Bool) (s : Nat) : Bool := if s < t then sqT g o (r + 1) s else (decide (s = t) && v)
def vj (g : Gnd) (o : Nat -> Bool) (r t : Nat) : Bool := (List.range t).any (sqT g o (r + 1))
theorem zrn (g : Gnd) (o : Nat -> Bool) (r t : Nat) : vj g o r (t + 1) = (vj g o r t || sqT g o (r + 1) t) := by
 unfold vj
 rw [List.range_succ, List.any_append]
 simp
theorem zqb (g : Gnd) (o : Nat -> Bool) (r : Nat) : nxF g o r 0 false = fun _ => false := funext fun s => by
 unfold nxF
 rw [if_neg (Nat.not_lt_zero s), Bool.and_false]
theorem W8 (g : Gnd) (o : Nat -> Bool) (r t : Nat) : nxF g o r t (sqT g o (r + 1) t) = nxF g o r (t + 1) false := funext fun s => by
 unfold nxF
 by_cases h : s < t
 ·rw [if_pos h, if_pos (by omega)]
 ·rw [if_neg h]
  by_cases e : s = t
  ·subst e
   rw [if_pos (by omega)]; simp
  ·rw [if_neg (by omega)]; simp [e]
theorem zqd (g : Gnd) (o : Nat -> Bool) (r n : Nat) : ∀ t, t < n -> nxF g o r n false t = sqT g o (r + 1) t := fun t ht => if_pos ht
theorem W9 (g : Gnd) (o : Nat -> Bool) (r t : Nat) (v : Bool) : nxF g o r t v t = v := by
 unfold nxF
 rw [if_neg (Nat.lt_irrefl t)]; simp
theorem zqc (g : Gnd) (o : Nat -> Bool) (r t : Nat) (v u : Bool) {s : Nat} (h : s ≠ t) : nxF g o r t v s = nxF g o r t u s := by
 unfold nxF
 split
 ·rfl
 ·simp [h]
/-- The tile beside by a way. -/
def zo (g : Gnd) (t way : Nat) : Int := (qo g t).getD way (-1)
def Ac (g : Gnd) (c : Int) (t : Nat) : Int := js c (g.T.getD t 5).toNat
/-- May it be gone to? -/
def qd (ok : Nat -> Bool) (u : Int) : Bool := decide (0 <= u) && ok u.toNat
def vf (way : Nat) : Nat := way - 4
def ve (way : Nat) : Nat := (way - 3) % 4
/-- What a step costs; 0: there is none. -/
def yb (g : Gnd) (ok : Nat -> Bool) (c : Int) (t way : Nat) : Int :=
 if qd ok (zo g t way) then
  (if way < 4 then 5 * (Ac g c t + Ac g c (zo g t way).toNat)
   else if qd ok (zo g t (vf way)) /\ qd ok (zo g t (ve way)) then 7 * (Ac g c t + Ac g c (zo g t way).toNat) else 0)
 else 0
def y4 (g : Gnd) (ok : Nat -> Bool) (c : Int) (t u : Nat) (k : Int) : Prop := ok t = true /\ t < g.T.length /\ ∃ way, way < 8 /\ zo g t way = (u : Int) /\ ok u = true /\ k = yb g ok c t way /\ 0 < k
theorem Bw {g : Gnd} {ok : Nat -> Bool} {c : Int} : ∀ t u k, y4 g ok c t u k -> 0 < k := fun t u k h => by
 obtain ⟨_, _, w, _, _, _, _, h⟩ := h
 exact h
theorem Ma {g : Gnd} (hg : zi g) {t way : Nat} (hw : way < 8) : zo g t way = -1 \/ ∃ u : Nat, zo g t way = u /\ u < g.T.length := by
 unfold zo
 have h8 : way < (qo g t).length := by rw [Ga]; exact hw
 rw [List.getD_eq_getElem?_getD, List.getElem?_eq_getElem h8]
 exact bj hg (List.getElem_mem h8)
theorem H7 {ok : Nat -> Bool} {u : Int} (h : qd ok u = true) : 0 <= u /\ ok u.toNat = true := by
 unfold qd at h
 simpa using h
theorem I8 {g : Gnd} {ok : Nat -> Bool} {c : Int} {t way : Nat} (h : yb g ok c t way ≠ 0) : qd ok (zo g t way) = true := by
 unfold yb at h
 split at h
 ·assumption
 ·exact absurd rfl h
/-- A step by a way, told by its cost. -/
theorem ew {g : Gnd} {ok : Nat -> Bool} {c : Int} {t way : Nat} (ht : ok t = true) (htl : t < g.T.length) (hw : way < 8) (h : 0 < yb g ok c t way) : y4 g ok c t (zo g t way).toNat (yb g ok c t way) := by
 obtain ⟨h1, h2⟩ := H7 (I8 (g := g) (ok := ok) (c := c) (t := t) (way := way) (by omega))
 exact ⟨ht, htl, way, hw, by omega, h2, rfl, h⟩
theorem F6 (c : Int) (t : Nat) : 0 <= js c t /\ js c t <= 6 := by
 have h : ∀ l ∈ [[2, 1, 3, 5, 0, 0], [2, 1, 6, 0, 0, 0], [2, 1, 0, 3, 2, 0]], ∀ t : Nat, 0 <= (l : List Int).getD t 0 /\ (l : List Int).getD t 0 <= 6 := by
  intro l hl t
  simp only [List.mem_cons, List.not_mem_nil, or_false] at hl
  by_cases h6 : t < 6
  ·have : t = 0 \/ t = 1 \/ t = 2 \/ t = 3 \/ t = 4 \/ t = 5 := by omega
   rcases hl with rfl | rfl | rfl <;> rcases this with rfl | rfl | rfl | rfl | rfl | rfl <;> decide
  ·rcases hl with rfl | rfl | rfl <;> (rw [List.getD_eq_getElem?_getD, List.getElem?_eq_none (by simp; omega)]; decide)
 unfold js
 split
 ·exact h _ (by simp) t
 ·split
  ·exact h _ (by simp) t
  ·exact h _ (by simp) t
theorem Nk (g : Gnd) (ok : Nat -> Bool) (c : Int) (t way : Nat) : 0 <= yb g ok c t way /\ yb g ok c t way <= 84 := by
 have h1 := F6 c (g.T.getD t 5).toNat
 have h2 := F6 c (g.T.getD (zo g t way).toNat 5).toNat
 unfold yb Ac
 split
 ·split
  ·omega
  ·split <;> omega
 ·omega
open Classical in
/-- What each tile costs to a goal. -/
noncomputable def yl (g : Gnd) (ok : Nat -> Bool) (c : Int) (goal : Nat) : Nat -> Int :=
 if ok goal = true then (if h : ∃ d, FarOK (y4 g ok c) goal d then h.choose else fun _ => -1) else fun _ => -1
theorem Pq {g : Gnd} {ok : Nat -> Bool} {c : Int} {goal : Nat} (hok : ok goal = true) {d : Nat -> Int} (h : FarOK (y4 g ok c) goal d) : yl g ok c goal = d := by
 unfold yl
 rw [if_pos hok]
 have hx : ∃ d, FarOK (y4 g ok c) goal d := ⟨d, h⟩
 rw [dif_pos hx]
 exact zun Bw hx.choose_spec h
theorem ek {g : Gnd} {ok : Nat -> Bool} {c : Int} {goal : Nat} (hok : ok goal = false) : yl g ok c goal = fun _ => -1 := by
 unfold yl
 rw [if_neg (by simp [hok])]
/-- The way to take: the first that goes on as it costs. -/
noncomputable def qb (g : Gnd) (ok : Nat -> Bool) (c : Int) (d : Nat -> Int) (t : Nat) : Int :=
 if d t <= 0 then -1 else match (List.range 8).find? fun way => decide (0 < yb g ok c t way /\ 0 <= d (zo g t way).toNat /\ yb g ok c t way + d (zo g t way).toNat = d t) with
  | some way => (way : Int)
  | none => -1
theorem dg {F N S : Store} (hd : zv F N) : ((F.un N).un S).Has (F.un S) := by
 refine ⟨fun b y h => ?_, fun b x h => ?_⟩
 ·rcases Sh h with h1 | ⟨h1, h2⟩
  ·exact ze h1
  ·have h3 : (F.un N).obj b = some y := qj hd h2
   show (match S.obj b with | some y => some y | none => (F.un N).obj b) = some y
   rw [h1]; exact h3
 ·rcases Sg h with h1 | ⟨h1, h2⟩
  ·exact Cf h1
  ·have h3 : (F.un N).tok b = some x := I2 hd h2
   show (match S.tok b with | some y => some y | none => (F.un N).tok b) = some x
   rw [h1]; exact h3
theorem Bi {l : List Unt} (hr : yq l) {a b : Nat} (hab : a < b) (hb : b < l.length) : (l[a]'(by omega)).id < l[b].id := by
 induction b with
 | zero => omega
 | succ b ih =>
  have h3 := hr (b + 1) hb (by omega)
  simp only [Nat.add_sub_cancel] at h3
  by_cases e : a = b
  ·subst e; exact h3
  ·have := ih (by omega) (by omega)
   omega
theorem Ds {l : List Unt} (hr : yq l) {u v : Unt} (hu : u ∈ l) (hv : v ∈ l) (h : u.id = v.id) : u = v := by
 obtain ⟨a, ha, rfl⟩ := List.getElem_of_mem hu
 obtain ⟨b, hb, rfl⟩ := List.getElem_of_mem hv
 rcases Nat.lt_trichotomy a b with q | q | q
 ·have := Bi hr q hb; omega
 ·subst q; rfl
 ·have := Bi hr q ha; omega
def ww (w : Wld) (L : List Ent) : Prop := ∀ e, e ∈ L ↔ ∃ u ∈ w.U, u.inn = 0 /\ e = (u.id, u.pos)
theorem Om {w : Wld} {L : List Ent} (h : ww w L) (hn : ∀ u ∈ w.U, u.pos.ok) : ∀ e ∈ L, e.2.ok := fun e he => by
 obtain ⟨u, hu, _, rfl⟩ := (h e).1 he
 exact hn u hu
/-- The units that are near. -/
def Dv (w : Wld) (p : Vc) (r : Int) (us : List Unt) : Prop := ∀ u, u ∈ us ↔ (u ∈ w.U /\ u.inn = 0) /\ near p u.pos r = true
theorem bh {w : Wld} {L : List Ent} (hr : yq w.U) (hL : ww w L) {p : Vc} {r : Int} {ns : List Int} (hn : Iq L p r ns) {us : List Unt} (h1 : us.map (·.id) = ns) (h2 : ∀ u ∈ us, u ∈ w.U /\ u.inn = 0) : Dv w p r us := by
 intro u
 constructor
 ·intro hu
  refine ⟨h2 u hu, ?_⟩
  have : u.id ∈ ns := by rw [<- h1]; exact List.mem_map.2 ⟨u, hu, rfl⟩
  obtain ⟨e, he, h3, h4⟩ := (hn.2 _).1 this
  obtain ⟨v, hv, _, rfl⟩ := (hL e).1 he
  rw [Ds hr (h2 u hu).1 hv h3.symm]
  exact h4
 ·rintro ⟨⟨h3, h4⟩, h5⟩
  have : u.id ∈ ns := (hn.2 _).2 ⟨(u.id, u.pos), (hL _).2 ⟨u, h3, h4, rfl⟩, rfl, h5⟩
  rw [<- h1] at this
  obtain ⟨v, hv, h6⟩ := List.mem_map.1 this
  rw [Ds hr h3 (h2 v hv).1 h6.symm]
  exact hv
theorem Ax (k : Int) : 0 < zk k /\ zk k <= 81920 := by unfold zk; split <;> (try split) <;> omega
theorem Hz (k : Int) : zm k = 0 \/ zm k = 1 \/ zm k = 2 := by unfold zm; split <;> (try split) <;> (try split) <;> omega
theorem bg {a b : Vc} {r r' : Int} (h : r <= r') (hn : near a b r = true) : near a b r' = true := by
 unfold near at *
 rw [decide_eq_true_iff] at *
 have : r * r <= r' * r' := Int.mul_le_mul h h (by omega) (by omega)
 omega
theorem f7 {w : Wld} {id k : Int} {q : Vc} {us : List Unt} (hf : qw w.G w.B (zm k) q (zk k)) (hus : Dv w q (zk k + 81920) us) :
  qh w id k q ↔ ∀ u ∈ us, u.id ≠ id -> xq q (zk k) u.pos (zk u.kind) = true := by
 constructor
 ·intro h u hu hne
  have := (hus u).1 hu
  exact h.2 u this.1.1 this.1.2 hne
 ·intro h
  refine ⟨hf, fun u hu h0 hne => ?_⟩
  unfold xq
  cases hc : near q u.pos (zk k + zk u.kind) with
  | false => rfl
  | true =>
   have h1 := bg (r' := zk k + 81920) (by have := Ax u.kind; omega) hc
   have := h u ((hus u).2 ⟨⟨hu, h0⟩, h1⟩) hne
   unfold xq at this
   rw [hc] at this
   exact this
end Go.V
namespace Go.V
/-- A map by whole numbers. -/
def xn {α : Type} (f : α -> AV) (e : Int × α) : AV × AV := (int e.1, f e.2)
def kl {α : Type} (cs : List (Int × α)) (k : Int) : Option α := (cs.find? fun e => k == e.1).map (·.2)
def jf {α : Type} : List (Int × α) -> Int -> α -> List (Int × α)
 | [], k, v => [(k, v)]
 | e :: l, k, v => if k == e.1 then (k, v) :: l else e :: jf l k v
theorem zuj {α : Type} (f : α -> AV) (cs : List (Int × α)) (k : Int) : (cs.map (xn f)).find? (qA k) = (cs.find? fun e => k == e.1).map (xn f) := by
 rw [List.find?_map]; rfl
theorem O3 {α : Type} (f : α -> AV) (cs : List (Int × α)) (k : Int) (z : AV) : Bl false z ((cs.map (xn f)).find? (qA k)) = ((kl cs k).map f).getD z := by
 rw [zuj]
 unfold kl
 cases cs.find? fun e => k == e.1 with
 | none => rfl
 | some e => rfl
theorem Wp {α : Type} (f : α -> AV) (k : Int) (v : α) : ∀ cs : List (Int × α),
  (match (cs.map (xn f)).findIdx? (qA k) with | some i => (cs.map (xn f)).set i (int k, f v) | none => cs.map (xn f) ++ [(int k, f v)]) = (jf cs k v).map (xn f)
 | [] => rfl
 | e :: l => by
  have ih := Wp f k v l
  rw [List.map_cons, List.findIdx?_cons]
  unfold jf
  by_cases h : k == e.1
  ·have h2 : qA k (xn f e) = true := h
   rw [h2]
   simp only [h, if_true, List.set_cons_zero, List.map_cons]
   rfl
  ·have h : (k == e.1) = false := by simpa using h
   have h2 : qA k (xn f e) = false := h
   rw [h2]
   simp only [h, if_false, List.map_cons]
   cases hx : (l.map (xn f)).findIdx? (qA k) with
   | none => rw [hx] at ih; simp at ih ⊢; exact ih
   | some i => rw [hx] at ih; simp at ih ⊢; exact ih
theorem cf {α : Type} (f : α -> AV) (cs : List (Int × α)) (bs : List Nat) (clk : Nat) (k : Int) (v : α) : ∃ bs' clk', j3 (cs.map (xn f)) bs clk (qA k) (int k) (f v) = .map ((jf cs k v).map (xn f)) bs' clk' := by
 have h := Wp f k v cs
 unfold j3
 cases hx : (cs.map (xn f)).findIdx? (qA k) with
 | none => rw [hx] at h; exact ⟨_, _, by rw [<- h]⟩
 | some i => rw [hx] at h; exact ⟨_, _, by rw [<- h]⟩
theorem K8 {α : Type} (k : Int) (v : α) (j : Int) : ∀ cs : List (Int × α), kl (jf cs k v) j = if j = k then some v else kl cs j
 | [] => by
  unfold jf kl
  by_cases h : j = k <;> simp [h]
 | e :: l => by
  have ih := K8 k v j l
  unfold kl at ih ⊢
  by_cases h : k = e.1
  ·have h1 : (k == e.1) = true := by simpa using h
   rw [show jf (e :: l) k v = (k, v) :: l by unfold jf; simp [h1]]
   by_cases h2 : j = k
   ·simp [h2]
   ·have e1 : (j == k) = false := by simpa using h2
    have e2 : (j == e.1) = false := by rw [<- h]; exact e1
    rw [List.find?_cons, List.find?_cons, if_neg h2]
    simp only [e1, e2]
  ·have h1 : (k == e.1) = false := by simpa using h
   rw [show jf (e :: l) k v = e :: jf l k v by rw [jf]; simp [h1]]
   rw [List.find?_cons, List.find?_cons]
   by_cases h2 : j = e.1
   ·have e1 : (j == e.1) = true := by simpa using h2
    simp only [e1]
    rw [if_neg (by omega)]
   ·have e1 : (j == e.1) = false := by simpa using h2
    simp only [e1]
    exact ih
end Go.V
namespace Go.V
theorem H3 {l : List Unt} {i : Nat} (hi : i < l.length) (id : Int) : ((yi (l.take (i + 1)) id).length : Int) = ((yi (l.take i) id).length : Int) + (if l[i].inn = id then 1 else 0) := by
 unfold yi
 rw [List.take_succ_eq_append_getElem hi, List.filter_append, List.map_append, List.length_append]
 by_cases h : l[i].inn = id
 ·simp [h]
 ·simp [h]
theorem Pc {l : List Unt} (i : Nat) (id : Int) : (yi (l.take i) id).length <= (yi l id).length := by
 have h : (yi l id).length = (yi (l.take i) id).length + (yi (l.drop i) id).length := by
  unfold yi
  rw [<- List.length_append, <- List.map_append, <- List.filter_append, List.take_append_drop]
 omega
/-- Who rides, so far. -/
def Nz (w : Wld) (i : Nat) : Prop :=
 (∀ j, (h : j < w.U.length) -> j < i -> w.U[j].inn ≠ 0 -> ∃ x ∈ w.U, x.id = w.U[j].inn /\ (x.inn = 0 /\ x.owner = w.U[j].owner) /\ x5 w.U[j].kind = 0 /\ w.U[j].pos = (0, 0) /\ w.U[j].goal = -1 /\ w.U[j].state = 0) ∧
 ∀ x ∈ w.U, x.id ≠ 0 -> ((yi (w.U.take i) x.id).length : Int) <= x5 x.kind
theorem zoc {w : Wld} (h : Nz w w.U.length) : ∀ u ∈ w.U, u.inn ≠ 0 -> kg w u := by
 intro u hu hne
 obtain ⟨j, hj, rfl⟩ := List.getElem_of_mem hu
 obtain ⟨x, hx, h1, h2, h3, h4, h5, h6⟩ := h.1 j hj hj hne
 have := h.2 x hx (by rw [h1]; exact hne)
 rw [List.take_length, h1] at this
 exact ⟨x, hx, h1, h2, this, h3, h4, h5, h6⟩
theorem Pa (k : Int) : 0 <= x5 k /\ x5 k <= 4 := by unfold x5; split <;> (try split) <;> (try split) <;> omega
end Go.V
namespace Go.V
/-- The units up to one may be by themselves. -/
def Cd (w : Wld) (i : Nat) : Prop := ∀ j, (h : j < w.U.length) -> j < i -> (xt w w.U[j] /\ ∀ b ∈ w.B, b.id ≠ w.U[j].id) /\ (0 < j -> (w.U[j - 1]'(by omega)).id < w.U[j].id)
theorem Sc {w : Wld} (h : Cd w w.U.length) : Dj w := by
 refine ⟨fun j hj h0 => (h j hj hj).2 h0, fun u hu => ?_⟩
 obtain ⟨j, hj, rfl⟩ := List.getElem_of_mem hu
 exact (h j hj hj).1
theorem Sb {w : Wld} (h : Dj w) (i : Nat) : Cd w i := fun j hj _ => ⟨h.2 _ (List.getElem_mem hj), h.1 j hj⟩
end Go.V
namespace Go.V
/-- A slice over an object: its elements, and how much room. -/
def RowsO {α : Type} (k : Nat) (f : α -> List AV) (st : Store) (v : AV) (l : List α) : Prop :=
 (v = .s (.slice none 0 0) /\ l = []) \/ ∃ b cap L, v = .s (.slice (some ⟨b, 0, none⟩) l.length cap) /\ st.obj b = some (.cells ((rws f l).flatten ++ L)) /\ l.length <= cap /\ cap * k <= l.length * k + L.length /\ cap <= 9223372036854775807
section
variable {α : Type} {f : α -> List AV} {k : Nat}
theorem Dp (hf : ∀ x, (f x).length = k) (l : List α) : (rws f l).flatten.length = l.length * k := by
 induction l with
 | nil => simp [rws]
 | cons a l ih =>
  show (f a ++ (rws f l).flatten).length = (l.length + 1) * k
  rw [List.length_append, hf, ih, Nat.succ_mul]; omega
theorem Nx (a b : List α) : (rws f (a ++ b)).flatten = (rws f a).flatten ++ (rws f b).flatten := by
 rw [<- Vz, List.flatten_append]
theorem Kd {l : List α} {i : Nat} (hi : i < l.length) : (rws f l).flatten = (rws f (l.take i)).flatten ++ (f l[i] ++ (rws f (l.drop (i + 1))).flatten) := by
 have e : l = l.take i ++ (l[i] :: l.drop (i + 1)) := by
  rw [<- List.drop_eq_getElem_cons hi, List.take_append_drop]
 have e2 : (rws f (l[i] :: l.drop (i + 1))).flatten = f l[i] ++ (rws f (l.drop (i + 1))).flatten := rfl
 rw [<- e2, <- Nx, <- e]
theorem zkc {X Y ys : List AV} {j : Nat} (h : j + ys.length <= X.length) : z7 (X ++ Y) j ys = z7 X j ys ++ Y := by
 unfold z7
 rw [List.take_append_of_le_length (by omega), List.drop_append_of_le_length (by omega)]
 simp only [List.append_assoc]
/-- One cell of an element is stored. -/
theorem Vg (hf : ∀ x, (f x).length = k) {l : List α} {i j : Nat} (hi : i < l.length) {x' : α} {ys L : List AV} (hj : j + ys.length <= k) (hx : f x' = z7 (f l[i]) j ys) :
  z7 ((rws f l).flatten ++ L) (i * k + j) ys = (rws f (l.set i x')).flatten ++ L := by
 have h1 : (rws f (l.take i)).flatten.length = i * k := by rw [Dp hf, List.length_take, Nat.min_eq_left (by omega)]
 have hi2 : i < (l.set i x').length := by rw [List.length_set]; exact hi
 rw [Kd hi, Kd hi2, List.append_assoc, List.append_assoc, <- h1, Vf]
 have e1 : (l.set i x').take i = l.take i := by rw [List.take_set_of_le (Nat.le_refl i)]
 have e2 : (l.set i x').drop (i + 1) = l.drop (i + 1) := by rw [List.drop_set_of_lt (by omega)]
 rw [e1, e2, List.getElem_set_self, hx]
 have h3 := hf l[i]
 rw [List.append_assoc, zkc (by omega)]
 simp only [List.append_assoc]
theorem RowsO.un {a g : Store} {v : AV} {l : List α} (h : RowsO k f g v l) : RowsO k f (a.un g) v l := by
 rcases h with h | ⟨b1, cap, L, h1, h2, h3⟩
 ·exact .inl h
 ·exact .inr ⟨b1, cap, L, h1, ze h2, h3⟩
theorem RowsO.unL {a g : Store} {v : AV} {l : List α} (h : RowsO k f a v l) (hd : zv a g) : RowsO k f (a.un g) v l := by
 rcases h with h | ⟨b1, cap, L, h1, h2, h3⟩
 ·exact .inl h
 ·exact .inr ⟨b1, cap, L, h1, qj hd h2, h3⟩
/-- Where an element stands, and what is left when one cell of it is stored. -/
theorem RowsO.at {st : Store} {v : AV} {l : List α} (h : RowsO k f st v l) {i : Nat} (hi : i < l.length) :
  ∃ b cap L, v = .s (.slice (some ⟨b, 0, none⟩) l.length cap) /\ st.obj b = some (.cells ((rws f l).flatten ++ L)) /\ l.length <= cap /\ cap * k <= l.length * k + L.length /\ cap <= 9223372036854775807 := by
 rcases h with ⟨_, rfl⟩ | h
 ·exact absurd hi (Nat.not_lt_zero i)
 ·exact h
theorem RowsO.borrow {st : Store} {v : AV} {l : List α} (hf : ∀ x, (f x).length = k) (hs : ∀ x, ∀ y ∈ f x, ∃ u, y = AV.s u /\ qg u = true) (hv : RowsO k f st v l) {Oth M : Nat -> Nat -> Prop} {w : World} (sto : StoreOK st Oth M w) {x : Value} (hx : VRel w (fun b o => M b o \/ Oth b o) v x) :
  VRel w (fun b o => (M b o \/ Oth b o) /\ st.obj b = none) (lst k f l) x := by
 rcases hv with ⟨rfl, rfl⟩ | ⟨b, cap, L, rfl, ho, h1, h2, h3⟩
 ·cases hx
  exact AV.le_nil k _ _ _ (.s _)
 ·cases hx
  exact g7 (sto.obj b _ ho).1 (fun o hT => by rw [ho] at hT; exact absurd hT.2 (by simp)) (zl l) h1
   (fun row hr => by obtain ⟨n, _, rfl⟩ := List.mem_map.1 hr; exact hf n) (fun row hr y hy => by
    obtain ⟨n, _, rfl⟩ := List.mem_map.1 hr
    exact hs n y hy)
/-- An append of one element to elements over an object. -/
theorem zxb {P : Program} {c : Cfg} {e : TypeId} {ie : TI} (hie : c.I e = some ie) (hf : ∀ x, (f x).length = ie.size) (hby : ie.bytes <= 1000) {st : Store} {v : AV} {l : List α} (hv : RowsO ie.size f st v l) (x : α) {src : AV} (hsrc : jc ie.size (.av src) = some [f x]) (hlen : l.length <= 1000000000) {K : AV -> Store -> Prop}
  (h : ∀ b cap L, (Fresh st b \/ ∃ c0, v = .s (.slice (some ⟨b, 0, none⟩) l.length c0)) -> (l ++ [x]).length <= cap -> cap * ie.size <= (l ++ [x]).length * ie.size + L.length -> cap <= 9223372036854775807 ->
   K (.s (.slice (some ⟨b, 0, none⟩) (l ++ [x]).length cap)) (st.setObj b (.cells ((rws f (l ++ [x])).flatten ++ L)))) : appendK P c st e (.av v) (.av src) K := by
 refine ⟨.inr ⟨v, _, rfl, rfl, ?_⟩⟩
 have hl : (l ++ [x]).length = l.length + 1 := by simp
 have hfl := Dp hf l
 have hmul : (l.length + 1) * ie.bytes <= 1000000001 * 1000 := Nat.mul_le_mul (by omega) hby
 have happ : (rws f (l ++ [x])).flatten = (rws f l).flatten ++ f x := by
  rw [Nx]
  show _ ++ (f x ++ []) = _
  rw [List.append_nil]
 rcases hv with ⟨rfl, rfl⟩ | ⟨b, cap, L, rfl, ho, h1, h2, h3⟩
 ·refine iv hie hsrc ⟨by simp at hmul ⊢; omega, by simp⟩ (by simp) (fun b' cap' hb hc hc2 => ?_)
  have := h b' cap' (List.replicate ((cap' - [f x].length) * ie.size) .any) (.inl hb) (by simpa using hc) (by
   simp only [List.length_replicate, List.nil_append, List.length_singleton, <- Nat.add_mul]
   exact Nat.mul_le_mul_right _ (by omega)) hc2
  exact this
 ·refine ir hie (cap := cap) ho (by rw [List.length_append, hfl]; exact h2) h1 hsrc ⟨by simp; omega, by simp; omega⟩ (fun hc => ?_) (fun hc b' cap' hb hc1 hc2 => ?_)
  ·have hc : l.length + 1 <= cap := hc
   have hcm : (l.length + 1) * ie.size <= cap * ie.size := Nat.mul_le_mul_right _ hc
   rw [Nat.succ_mul] at hcm
   have e1 : z7 ((rws f l).flatten ++ L) (l.length * ie.size) [f x].flatten = (rws f (l ++ [x])).flatten ++ L.drop ie.size := by
    rw [Fv hfl, happ]
    simp [hf x]
   have := h b cap (L.drop ie.size) (.inr ⟨cap, rfl⟩) (by omega) (by rw [hl, Nat.succ_mul, List.length_drop]; omega) h3
   rw [hl, <- e1] at this
   exact this
  ·have hc1 : l.length + 1 <= cap' := hc1
   have e1 : ((rws f l).flatten ++ L).take (l.length * ie.size) ++ [f x].flatten ++ List.replicate ((cap' - (l.length + 1)) * ie.size) .any = (rws f (l ++ [x])).flatten ++ List.replicate ((cap' - (l.length + 1)) * ie.size) .any := by
    rw [List.take_append_of_le_length (by omega), List.take_of_length_le (by omega), happ]
    simp
   have := h b' cap' (List.replicate ((cap' - (l.length + 1)) * ie.size) .any) (.inl hb) (by omega) (by
    rw [hl, List.length_replicate, <- Nat.add_mul]
    exact Nat.mul_le_mul_right _ (by omega)) hc2
   rw [hl, <- e1] at this
   exact this
end
theorem Ce (u : Unt) : (zp u).length = 10 := rfl
theorem Sd (u : Unt) : ∀ y ∈ zp u, ∃ x, y = AV.s x /\ qg x = true := by
 intro y hy
 simp [zp] at hy
 rcases hy with rfl | rfl | rfl | rfl | rfl | rfl | rfl | rfl | rfl | rfl <;> exact ⟨_, rfl, rfl⟩
/-- A world whose units stand in an object. -/
def j6 (w : Wld) (v : AV) : List AV := [int w.tick, int w.players, int w.next, int w.G.W, int w.G.H, Db w.G.T, lst 6 zz w.B, v]
theorem Hl {l : List Unt} (hr : yq l) {a b : Nat} (hab : a < b) (hb : b < l.length) : (l[a]'(by omega)).id < l[b].id := by
 induction b with
 | zero => omega
 | succ b ih =>
  have h3 := hr (b + 1) hb (by omega)
  simp only [Nat.add_sub_cancel] at h3
  by_cases e : a = b
  ·subst e; exact h3
  ·have := ih (by omega) (by omega)
   omega
/-- A store of many cells into an object. -/
theorem wt {i : TI} {A : Fr} {st : Store} {b o : Nat} {v : AV} {xs l : List AV} {K : Fr -> Store -> Prop} (hc : cellsOf v = some xs) (h1 : xs.all AV.one = true) (hi : i.size = xs.length) (ho : st.obj b = some (.cells l)) (hl : o + xs.length <= l.length)
  (hk : K A (st.setObj b (.cells (z7 l o xs)))) : Bg i A st (.av (.s (.pointer (some ⟨b, o, none⟩)))) v K := by
 unfold Bg
 rw [hc]
 show (bif Nat.beq xs.length i.size && (xs.all AV.one) then _ else False)
 rw [hi]
 simp only [h1, Nat.beq_refl, Bool.and_self, cond_true]
 rw [ho]
 exact ⟨hl, D6 hk⟩
theorem Hq (k : Int) : 24576 <= zk k /\ zk k <= 81920 := by unfold zk; split <;> (try split) <;> omega
/-- Where a disc stands that is free. -/
theorem we {g : Gnd} (hg : zi g) {l : List Bld} {c : Int} {p : Vc} {k : Int} (h : qw g l c p (zk k)) : (24576 <= p.1 /\ p.1 + 24576 <= g.W * 65536) /\ (24576 <= p.2 /\ p.2 + 24576 <= g.H * 65536) /\ (p.1 <= 8388608 /\ p.2 <= 8388608) := by
 have h1 := h.1
 have h2 := Hq k
 obtain ⟨⟨_, h3⟩, ⟨_, h4⟩, _⟩ := hg
 omega
def zq (g : Gnd) (p : Vc) : Nat := (p.1 / 65536 + g.W * (p.2 / 65536)).toNat
theorem wq {g : Gnd} (hg : zi g) {p : Vc} (h : (0 <= p.1 /\ p.1 < g.W * 65536) /\ (0 <= p.2 /\ p.2 < g.H * 65536)) :
  ((zq g p : Nat) : Int) = p.1 / 65536 + g.W * (p.2 / 65536) /\ zq g p < g.T.length /\ ((zq g p : Nat) : Int) % g.W = p.1 / 65536 /\ ((zq g p : Nat) : Int) / g.W = p.2 / 65536 := by
 have hs := Dl hg (x := p.1 / 65536) (y := p.2 / 65536) (by omega) (by omega)
 have ha := yw hg
 unfold zq
 generalize p.1 / 65536 = x at *
 generalize p.2 / 65536 = y at *
 have e : ((x + g.W * y).toNat : Int) = x + g.W * y := by omega
 rw [e]
 exact ⟨rfl, by omega, hs.2.2.1, hs.2.2.2⟩
theorem zsi {g : Gnd} (hg : zi g) {p : Vc} (h : (0 <= p.1 /\ p.1 < g.W * 65536) /\ (0 <= p.2 /\ p.2 < g.H * 65536)) {r : Int} (hr : 0 < r) : xb g (zq g p) p r := by
 obtain ⟨h1, h2, h3, h4⟩ := wq hg h
 have e1 : off p.1 (tx g (zq g p)) = 0 := by
  unfold tx off
  rw [h3]
  generalize hq : p.1 / 65536 = q
  rw [if_neg (by omega), if_neg (by omega)]
 have e2 : off p.2 (ty g (zq g p)) = 0 := by
  unfold ty off
  rw [h4]
  generalize hq : p.2 / 65536 = q
  rw [if_neg (by omega), if_neg (by omega)]
 unfold xb
 rw [e1, e2]
 have := Int.mul_pos hr hr
 omega
/-- What a call has made and hands back is plain from then on. -/
theorem ACalls.frozen {P : Program} {f : FuncId} {xs : List AV} {Q : AV -> Store -> Prop} {R : AV -> Prop} (h : ACalls P f xs Store.empty Q)
  (hQ : ∀ r S, Q r S -> ∃ r2, R r2 /\ ∀ (Oth M : Nat -> Nat -> Prop) (w : World) (v : Value), StoreOK S Oth M w -> VRel w (fun b o => M b o \/ Oth b o) r v -> VRel w (fun b o => (M b o \/ Oth b o) /\ S.obj b = none) r2 v) :
  ACalls P f xs Store.empty fun r _ => R r := by
 refine ⟨fun Oth M w vs sto hr => ?_⟩
 have h1 := h.out Oth M w vs sto hr
 have key : ∀ v w', qe Store.empty Q Oth M w v w' -> qe Store.empty (fun r _ => R r) Oth M w v w' := by
  rintro v w' ⟨r, S, M', hq, hv, hs, hc⟩
  obtain ⟨r2, hr2, hk⟩ := hQ r S hq
  refine ⟨r2, Store.empty, fun b o => M' b o /\ S.obj b = none, hr2, (hk Oth M' w' v hs hv).mono fun b o hT => ?_, ?_, ?_⟩
  ·rcases hT with ⟨h1, h2⟩ | h1
   ·exact ⟨.inl h1, h2⟩
   ·refine ⟨.inr h1, ?_⟩
    cases hb : S.obj b with
    | none => rfl
    | some y => exact absurd ((hs.obj b y hb).2 o) (hs.dis b o h1)
  ·exact { obj := fun b x hx => (by cases hx), tok := fun b x hx => (by cases hx), mlt := fun b o hm => hs.mlt b o hm.1, olt := hs.olt, dis := fun b o ho hm => hs.dis b o ho hm.1 }
  ·exact { size := hc.size, keep := hc.keep, blk := hc.blk, shp := hc.shp, sub := fun b o hm hb => hc.sub b o hm.1 hb, tape := hc.tape, os := hc.os, output := hc.output }
 generalize (callFunc f vs).run P w = res at h1
 cases res with
 | ok n w' =>
  cases n with
  | enter g args => exact Calls.mono h1 fun e w'' ⟨v, he, hv⟩ => ⟨v, he, key _ _ hv⟩
  | value v => exact key _ _ h1
  | _ => exact h1
 | _ => exact h1
/-- What a call has made and hands back: a part of it may still be written, the rest is plain from then on. -/
theorem ACalls.frozenTo {P : Program} {f : FuncId} {xs : List AV} {st0 : Store} {Q : AV -> Store -> Prop} {R : AV -> Store -> Prop} (h : ACalls P f xs st0 Q)
    (hQ : ∀ r S, Q r S -> ∃ r2 S2, R r2 S2 /\ (∀ b x, S2.obj b = some x -> S.obj b = some x) /\ (∀ b x, S2.tok b ≠ some x) ∧
      ∀ (Oth M : Nat -> Nat -> Prop) (w : World) (v : Value), StoreOK S Oth M w -> VRel w (fun b o => M b o \/ Oth b o) r v -> VRel w (fun b o => (M b o \/ Oth b o) /\ (S.obj b = none \/ S2.obj b ≠ none)) r2 v) :
    ACalls P f xs st0 R := by
  refine ⟨fun Oth M w vs sto hr => ?_⟩
  have h1 := h.out Oth M w vs sto hr
  have key : ∀ v w', qe st0 Q Oth M w v w' -> qe st0 R Oth M w v w' := by
    rintro v w' ⟨r, S, M', hq, hv, hs, hc⟩
    obtain ⟨r2, S2, hr2, hsub, htok, hk⟩ := hQ r S hq
    have hT : ∀ b o, ((M' b o /\ (S.obj b = none \/ S2.obj b ≠ none)) \/ Oth b o) -> (M' b o \/ Oth b o) := fun b o h => h.imp (·.1) id
    refine ⟨r2, S2, fun b o => M' b o /\ (S.obj b = none \/ S2.obj b ≠ none), hr2, (hk Oth M' w' v hs hv).mono fun b o hT => ?_, ?_, ?_⟩
    · rcases hT with ⟨h1, h2⟩ | h1
      · exact ⟨.inl h1, h2⟩
      · refine ⟨.inr h1, ?_⟩
        cases hb : S.obj b with
        | none => exact .inl rfl
        | some y => exact absurd ((hs.obj b y hb).2 o) (hs.dis b o h1)
    · exact { obj := fun b x hx => ⟨(hs.obj b x (hsub b x hx)).1.mono hT, fun o => ⟨(hs.obj b x (hsub b x hx)).2 o, .inr (by rw [hx]; simp)⟩⟩
              tok := fun b x hx => absurd hx (htok b x), mlt := fun b o hm => hs.mlt b o hm.1, olt := hs.olt, dis := fun b o ho hm => hs.dis b o ho hm.1 }
    · exact { size := hc.size, keep := hc.keep, blk := hc.blk, shp := hc.shp, sub := fun b o hm hb => hc.sub b o hm.1 hb, tape := hc.tape, os := hc.os, output := hc.output }
  generalize (callFunc f vs).run P w = res at h1
  cases res with
  | ok n w' =>
    cases n with
    | enter g args => exact Calls.mono h1 fun e w'' ⟨v, he, hv⟩ => ⟨v, he, key _ _ hv⟩
    | value v => exact key _ _ h1
    | _ => exact h1
  | _ => exact h1
def Ve (a : Option Addr) : Prop := ∀ x, a = some x -> x.spot = none
section
variable {P : Program} {c : Cfg} {st : Store}
/-- An append to any empty slice, that makes an object. -/
theorem zw9 {e : TypeId} {ie : TI} (hie : c.I e = some ie) {a : Option Addr} {x : AV} {rows : List (List AV)} (hx : jc ie.size (.av x) = some rows) (hroom : room rows.length ie.bytes) (hne : 0 < rows.length) {K : AV -> Store -> Prop}
  (h2 : ∀ b' cap', Fresh st b' -> rows.length <= cap' -> cap' <= 9223372036854775807 -> K (.s (.slice (some ⟨b', 0, none⟩) rows.length cap')) (st.setObj b' (.cells (rows.flatten ++ List.replicate ((cap' - rows.length) * ie.size) .any)))) :
  AppX P c st e (.s (.slice a 0 0)) x K := by
 refine ⟨⟨ie, hie⟩, fun ie' hie' Oth M w sv xv argTypes ty args t sto hs hxv hat ht1 hu hti h0 h1' => ?_⟩
 rw [hie] at hie'
 cases hie'
 have hs := VRel.eq_s hs
 subst hs
 have A : AppArgs P c argTypes args t e ie a 0 0 xv := ⟨hat, ht1, hu, hti, h0, h1'⟩
 obtain ⟨hl1, hl2, new, hnew, hone, hnsz, hfc⟩ := Dn (P := P) (β := fun _ => 0) (k := ie.size) (x := .av x) hxv hx
 obtain ⟨newCap, rest, g1, g0, g2, g3⟩ := G5 (old := #[]) ty A hl1 (hfc w.drew rfl) (by cases a <;> simp [Builtin.firstCells, loadCells, loadCellsFrom]) (by omega) (by simpa using hroom)
 have gd : Grow w w.drew := Grow.drew w
 have sto1 := sto.grow gd
 obtain ⟨f1, f2, f3⟩ := Cq sto1 (#[] ++ new ++ rest) e (l := rows.flatten ++ List.replicate rest.size .any) (by
  rw [Array.toList_append, Array.toList_append]
  refine ((show Reads w _ rows.flatten ([] ++ new.toList) from hnew).append ⟨by simp, fun i x y hx hy => ?_⟩).keep (gd.keeps _)
  rw [List.getElem?_replicate] at hx
  split at hx
  ·cases hx; exact .any _
  ·cases hx)
 rw [g2] at f2
 simp only [Nat.zero_add] at g1 g3 f2
 exact ⟨_, _, g3, _, _, _, h2 _ newCap f1 g1 g0, .s _, f2, (gd.chg M).trans f3⟩
/-- An append to an empty literal. -/
theorem zxa {e : TypeId} {ie : TI} (hie : c.I e = some ie) {x : AV} {rows : List (List AV)} (hx : jc ie.size (.av x) = some rows) (hroom : room rows.length ie.bytes) {K : AV -> Store -> Prop}
  (h1 : rows = [] -> ∀ a, Ve a -> K (.s (.slice a 0 0)) st)
  (h2 : 0 < rows.length -> ∀ b' cap', Fresh st b' -> rows.length <= cap' -> cap' <= 9223372036854775807 -> K (.s (.slice (some ⟨b', 0, none⟩) rows.length cap')) (st.setObj b' (.cells (rows.flatten ++ List.replicate ((cap' - rows.length) * ie.size) .any)))) :
  AppX P c st e .emp x K := by
 refine ⟨⟨ie, hie⟩, fun ie' hie' Oth M w sv xv argTypes ty args t sto hs hxv hat ht1 hu hti h0 h1' => ?_⟩
 cases hs with
 | emp a ha =>
  by_cases hr : 0 < rows.length
  ·exact (zw9 hie hx hroom hr (h2 hr)).out ie' hie' Oth M w _ xv argTypes ty args t sto (.s _) hxv hat ht1 hu hti h0 h1'
  ·rw [hie] at hie'
   cases hie'
   have hr0 : rows = [] := List.eq_nil_of_length_eq_zero (by omega)
   subst hr0
   have A : AppArgs P c argTypes args t e ie a 0 0 xv := ⟨hat, ht1, hu, hti, h0, h1'⟩
   obtain ⟨hl1, hl2, new, hnew, hone, hnsz, hfc⟩ := Dn (P := P) (β := fun _ => 0) (k := ie.size) (x := .av x) hxv hx
   have hn0 : new.toList = [] := by simp_all
   have hrun := Ik (w' := w) ty A hl1 (hfc w rfl) (by simp) (fun b hb => by rw [hn0]; simp [storeCells]) (fun _ => rfl)
   exact ⟨_, _, hrun, _, _, M, h1 rfl a ha, .s _, sto, Chg.refl M w⟩
end
/-- As RowsO; an empty one may lie anywhere. -/
def RowsQ {α : Type} (k : Nat) (f : α -> List AV) (st : Store) (v : AV) (l : List α) : Prop :=
 RowsO k f st v l \/ ∃ a, Ve a /\ v = .s (.slice a 0 0) /\ l = []
section
variable {α : Type} {f : α -> List AV} {k : Nat}
theorem RowsO.q {st : Store} {v : AV} {l : List α} (h : RowsO k f st v l) : RowsQ k f st v l := .inl h
theorem RowsQ.un {a g : Store} {v : AV} {l : List α} (h : RowsQ k f g v l) : RowsQ k f (a.un g) v l := h.imp (·.un) id
theorem RowsQ.unL {a g : Store} {v : AV} {l : List α} (h : RowsQ k f a v l) (hd : zv a g) : RowsQ k f (a.un g) v l := h.imp (·.unL hd) id
theorem RowsQ.form {st : Store} {v : AV} {l : List α} (h : RowsQ k f st v l) : ∃ oa cap, v = .s (.slice oa l.length cap) /\ ∀ i, i < l.length -> ∃ b L, oa = some ⟨b, 0, none⟩ /\ st.obj b = some (.cells ((rws f l).flatten ++ L)) := by
 rcases h with (⟨rfl, rfl⟩ | ⟨b, cap, L, rfl, ho, _⟩) | ⟨a, _, rfl, rfl⟩
 ·simp_all
 ·grind
 simp_all
theorem RowsQ.borrow {st : Store} {v : AV} {l : List α} (hf : ∀ x, (f x).length = k) (hs : ∀ x, ∀ y ∈ f x, ∃ u, y = AV.s u /\ qg u = true) (hv : RowsQ k f st v l) {Oth M : Nat -> Nat -> Prop} {w : World} (sto : StoreOK st Oth M w) {x : Value} (hx : VRel w (fun b o => M b o \/ Oth b o) v x) :
  VRel w (fun b o => (M b o \/ Oth b o) /\ st.obj b = none) (lst k f l) x := by
 rcases hv with hv | ⟨a, ha, rfl, rfl⟩
 ·exact hv.borrow hf hs sto hx
 ·cases hx
  exact .nil k a
/-- Its block, if it has any elements. -/
theorem RowsQ.sub {S S2 : Store} {v : AV} {l : List α} (h : RowsQ k f S v l) (hk : ∀ b n c, v = .s (.slice (some ⟨b, 0, none⟩) n c) -> S2.obj b = S.obj b) : RowsQ k f S2 v l := by
 rcases h with (h | ⟨b, cap, L, rfl, ho, h2⟩) | h
 ·exact .inl (.inl h)
 ·exact .inl (.inr ⟨b, cap, L, rfl, by rw [hk b _ _ rfl]; exact ho, h2⟩)
 ·exact .inr h
/-- A copy of a list, by an append to an empty literal. -/
theorem Rm {P : Program} {c : Cfg} {e : TypeId} {ie : TI} (hie : c.I e = some ie) (hf : ∀ x, (f x).length = ie.size) (hby : ie.bytes <= 1000) {st : Store} {l : List α} (hlen : l.length <= 1000000000) {K : AV -> Store -> Prop}
  (h : ∀ v N, RowsQ ie.size f N v l -> zv N st -> K v (N.un st)) : appendK P c st e (.av .emp) (.av (lst ie.size f l)) K := by
 refine ⟨.inr ⟨_, _, rfl, rfl, ?_⟩⟩
 have hmul : l.length * ie.bytes <= 1000000000 * 1000 := Nat.mul_le_mul (by omega) hby
 refine zxa hie (rows := rws f l) (by simp [jc, lst]) ⟨by rw [zl]; omega, by rw [zl]; omega⟩ (fun hr a ha => ?_) (fun hr b cap hb hc hc2 => ?_)
 ·have hl : l = [] := by
   have := congrArg List.length hr
   rw [zl] at this
   exact List.eq_nil_of_length_eq_zero this
  subst hl
  have := h (.s (.slice a 0 0)) Store.empty (.inr ⟨a, ha, rfl, rfl⟩) (fun b hb => (hb.elim (fun h => h rfl) (fun h => h rfl) : False).elim)
  rwa [C8] at this
 ·rw [zl] at hc ⊢
  have := h (.s (.slice (some ⟨b, 0, none⟩) l.length cap)) (Store.empty.setObj b (.cells ((rws f l).flatten ++ List.replicate ((cap - l.length) * ie.size) .any))) (.inl (.inr ⟨b, cap, _, rfl, zd _ _ _, hc, by
   simp only [List.length_replicate, <- Nat.add_mul]
   exact Nat.mul_le_mul_right _ (by omega), hc2⟩)) (fun i hi hs => by
    have : i = b := Decidable.byContradiction fun hne => by
     rcases hi with hi | hi
     ·rw [zw hne] at hi; exact hi rfl
     ·exact hi rfl
    subst this
    exact fresh_iff.1 hb hs)
  have e : (Store.empty.setObj b (.cells ((rws f l).flatten ++ List.replicate ((cap - l.length) * ie.size) .any))).un st = st.setObj b (.cells ((rws f l).flatten ++ List.replicate ((cap - l.length) * ie.size) .any)) := by
   rw [<- Mx (fresh_iff.1 hb), C8]
  rw [e] at this
  exact this
end
theorem li {st : Store} {w : Wld} {v : AV} (hv : RowsQ 10 zp st v w.U) {Oth M : Nat -> Nat -> Prop} {W : World} (sto : StoreOK st Oth M W) {x : Value} (hx : VRel W (fun b o => M b o \/ Oth b o) (.agg (j6 w v)) x) :
  VRel W (fun b o => (M b o \/ Oth b o) /\ st.obj b = none) (.agg (yd w)) x := by
 cases hx with
 | agg _ c hl hc =>
  refine .agg _ c hl fun i x y hx hy => ?_
  match i with
  | 0 => simp only [yd, List.getElem?_cons_zero, Option.some.injEq] at hx; subst hx; exact Av (hc 0 _ y rfl hy)
  | 1 => simp only [yd, List.getElem?_cons_succ, List.getElem?_cons_zero, Option.some.injEq] at hx; subst hx; exact Av (hc 1 _ y rfl hy)
  | 2 => simp only [yd, List.getElem?_cons_succ, List.getElem?_cons_zero, Option.some.injEq] at hx; subst hx; exact Av (hc 2 _ y rfl hy)
  | 3 => simp only [yd, List.getElem?_cons_succ, List.getElem?_cons_zero, Option.some.injEq] at hx; subst hx; exact Av (hc 3 _ y rfl hy)
  | 4 => simp only [yd, List.getElem?_cons_succ, List.getElem?_cons_zero, Option.some.injEq] at hx; subst hx; exact Av (hc 4 _ y rfl hy)
  | 5 => simp only [yd, List.getElem?_cons_succ, List.getElem?_cons_zero, Option.some.injEq] at hx; subst hx; exact Av (hc 5 _ y rfl hy)
  | 6 => simp only [yd, List.getElem?_cons_succ, List.getElem?_cons_zero, Option.some.injEq] at hx; subst hx; exact Av (hc 6 _ y rfl hy)
  | 7 => simp only [yd, List.getElem?_cons_succ, List.getElem?_cons_zero, Option.some.injEq] at hx; subst hx; exact hv.borrow Ce Sd sto (hc 7 _ y rfl hy)
  | i + 8 => simp [yd] at hx
/-- A slice with room that lies not in a block. -/
def Aq (v : AV) (p : Nat) : Prop := ∀ b n c, v = .s (.slice (some ⟨b, 0, none⟩) n c) -> 0 < c -> b ≠ p
theorem RowsQ.set {α : Type} {f : α -> List AV} {k : Nat} {S : Store} {v : AV} {l : List α} (h : RowsQ k f S v l) {p : Nat} (hp : Aq v p) (x : AObj) : RowsQ k f (S.setObj p x) v l := by
 rcases h with (h | ⟨b, cap, L, rfl, ho, h2, h3⟩) | h
 ·exact .inl (.inl h)
 ·by_cases hc : 0 < cap
  ·exact .inl (.inr ⟨b, cap, L, rfl, by rw [zw (hp b _ _ rfl hc)]; exact ho, h2, h3⟩)
  ·have h0 : cap = 0 := by omega
   subst h0
   have hl : l = [] := List.eq_nil_of_length_eq_zero (by omega)
   subst hl
   exact .inr ⟨_, fun x hx => by cases hx; rfl, rfl, rfl⟩
 ·exact .inr h
theorem W7 {α : Type} {f : α -> List AV} {k : Nat} {S : Store} {v : AV} {l : List α} (h : RowsQ k f S v l) {p : Nat} (hp : S.obj p = none) : Aq v p := by
 rcases h with (⟨rfl, rfl⟩ | ⟨b, cap, L, rfl, ho, h2⟩) | ⟨a, ha, rfl, rfl⟩
 ·intro b n c e
  simp at e
 ·intro b' n c e _
  simp only [AV.s.injEq, Value.slice.injEq, Option.some.injEq, Addr.mk.injEq] at e
  obtain ⟨⟨rfl, _⟩, _⟩ := e
  intro e2
  subst e2
  rw [hp] at ho
  cases ho
 ·intro b n c e hc
  simp only [AV.s.injEq, Value.slice.injEq] at e
  omega
/-- What a unit more makes of a world. -/
def spU (w : Wld) (c : Cmd) : Unt := ⟨w.next, c.P, c.N, (c.X, c.Y), -1, -1, 0, 0, 0⟩
def spW (w : Wld) (c : Cmd) : Wld := { w with U := w.U ++ [spU w c], next := w.next + 1 }
def Ph (w : Wld) : Prop := 4096 <= w.U.length \/ 1099511627776 <= w.next
open Classical in
noncomputable def spE (w : Wld) (c : Cmd) : Int := if Ph w then 4 else if qh w 0 c.N (c.X, c.Y) then 0 else 5
end Go.V
namespace Go.V
/-- The first thing that is not right of several ones. -/
def Io (f : Int -> Int) : List Int -> Int
 | [] => 0
 | a :: l => if f a = 0 then Io f l else f a
def Lh (l : List Unt) (id : Int) : Option Nat := l.findIdx? fun u => decide (u.id = id)
def unt0 : Unt := ⟨0, 0, 0, (0, 0), 0, 0, 0, 0, 0⟩
/-- The unit of an ID. -/
def uAt (w : Wld) (id : Int) : Unt := match Lh w.U id with | none => unt0 | some i => w.U.getD i unt0
/-- What a player is told who asks for a unit. -/
def G0 (w : Wld) (P id : Int) : Int := match Lh w.U id with | none => 3 | some i => if (w.U.getD i unt0).owner = P then (if (w.U.getD i unt0).inn = 0 then 0 else 9) else 6
def znk (u : Unt) : Unt := { u with goal := -1, next := -1, stuck := 0, state := 0 }
/-- Some units are changed. -/
def Vp (l : List Int) (g : Unt -> Unt) (U : List Unt) : List Unt := U.map fun u => if u.id ∈ l then g u else u
/-- Units that are stopped. -/
def stW (w : Wld) (c : Cmd) : Wld := { w with U := Vp c.U znk w.U }
def stE (w : Wld) (c : Cmd) : Int := Io (G0 w c.P) c.U
theorem zno {α : Type} {f : α -> List AV} {k : Nat} (hf : ∀ x, (f x).length = k) {U : List α} {i : Nat} (hi : i < U.length) (x : α) (J : List AV) : z7 ((rws f U).flatten ++ J) (i * k) (f x) = (rws f (U.set i x)).flatten ++ J := by
 have := Vg (j := 0) (ys := f x) (L := J) (x' := x) hf hi (by rw [hf]; omega) (by simp_all[z7])
 grind
section
variable {P : Program} {c : Cfg} {st : Store}
/-- What an append's source reads as. -/
structure SrcOK (P : Program) (st : Store) (k m : Nat) (x : AV) (xs : List AV) : Prop where
  out : ∀ (Oth M : Nat -> Nat -> Prop) (w : World) (xv : Value), StoreOK st Oth M w -> VRel w (fun b o => M b o \/ Oth b o) x xv ->
    (Builtin.lenOf xv).run P w = .ok m w /\ ∃ new : Array Value, Reads w (fun b o => M b o \/ Oth b o) xs new.toList /\ (∀ v ∈ new.toList, qg v = true) /\ new.size = m * k /\ ∀ w', w'.heap = w.heap -> (Builtin.firstCells k m xv).run P w' = .ok new w'
/-- A slice over an object, anywhere in it. -/
theorem SrcOK.obj {k m o b cp : Nat} {l : List AV} (ho : st.obj b = some (.cells l)) (hl : o + m * k <= l.length) (h1 : ∀ y ∈ (l.drop o).take (m * k), y.one = true) : SrcOK P st k m (.s (.slice (some ⟨b, o, none⟩) m cp)) ((l.drop o).take (m * k)) := by
  refine ⟨fun Oth M w xv sto hxv => ?_⟩
  have hxv := VRel.eq_s hxv
  subst hxv
  obtain ⟨cs, e, fr, hb, _, hlen, hrel⟩ := (sto.obj b _ ho).1
  have hreads : Reads w (fun b o => M b o \/ Oth b o) ((l.drop o).take (m * k)) ((List.range' 0 (m * k)).map fun i => cs.getD (o + i) undef) := by
    refine ⟨by simp; omega, fun i x y hx hy => ?_⟩
    have hi : i < m * k := by grind
    rw [List.getElem?_take_of_lt hi, List.getElem?_drop] at hx
    simp [hi] at hy
    grind
  refine ⟨by simp [Builtin.lenOf], ((List.range' 0 (m * k)).map fun i => cs.getD (o + i) undef).toArray, by simpa using hreads, by simpa using W0 hreads h1, by simp, fun w' hw => ?_⟩
  have := Dq (P := P) ⟨b, o, none⟩ w' (fun i => cs.getD (o + i) undef) (m * k) 0 #[] (fun p hp0 hp => by
    rw [x8, K5 hw]
    simp only [World.cell?, hb]
    have : o + p < cs.size := by omega
    simp [this])
  grind[Builtin.firstCells,loadCells]
end
section
variable {P : Program} {c : Cfg} {st : Store}
end
section
variable {α : Type} {f : α -> List AV} {k : Nat}
end
instance (a b : Bld) : Decidable (v6 a b) := inferInstanceAs (Decidable (_ /\ _))
/-- The building that is to come. -/
def bdB (w : Wld) (c : Cmd) : Bld := ⟨w.next, c.P, c.T.tmod w.G.W, c.T.tdiv w.G.W, c.W, c.H⟩
open Classical in
noncomputable def Wq (g : Gnd) (l : List Bld) (b : Bld) : Int := if ¬ onP g b then 3 else if ∃ x ∈ l, v6 x b then 12 else if ¬ Bc g b then 5 else if 256 <= l.length then 4 else 0
def zq8 (w : Wld) (b : Bld) : Prop := ∃ t : Nat, ((t : Int) < w.G.W * w.G.H /\ ji w.G b t) /\ ∃ u ∈ w.U, u.inn = 0 /\ xb w.G t u.pos (zk u.kind)
open Classical in
noncomputable def bdE (w : Wld) (c : Cmd) : Int := if ¬ (0 <= c.T /\ c.T < w.G.W * w.G.H) then 3 else if 1099511627776 <= w.next then 4 else if Wq w.G w.B (bdB w c) = 0 then (if zq8 w (bdB w c) then 5 else 0) else Wq w.G w.B (bdB w c)
def bdW (w : Wld) (c : Cmd) : Wld := { w with B := w.B ++ [bdB w c], next := w.next + 1 }
def zwt : Bld := ⟨0, 0, 0, 0, 0, 0⟩
def eg (l : List Bld) (id : Int) : Option Nat := l.findIdx? fun b => decide (b.id = id)
/-- A building less. -/
def drE (w : Wld) (c : Cmd) : Int := match eg w.B c.N with | none => 3 | some i => if (w.B.getD i zwt).owner = c.P then 0 else 6
def drW (w : Wld) (c : Cmd) : Wld := match eg w.B c.N with | none => w | some i => { w with B := w.B.eraseIdx i }
end Go.V
namespace Go.V
/-- A whole root, cut at the greatest number. -/
def Bo (m r : Int) : Prop := 0 <= r /\ r <= 9223372036854775807 /\ r * r <= m /\ (r = 9223372036854775807 \/ m < (r + 1) * (r + 1))
theorem zrw {m r r' : Int} (h : Bo m r) (h' : Bo m r') : r = r' := by
 obtain ⟨h0, h1, h2, h3⟩ := h
 obtain ⟨g0, g1, g2, g3⟩ := h'
 have a : ¬ r < r' := fun hlt => by
  rcases h3 with h3 | h3
  ·omega
  ·have := Int.mul_le_mul (show r + 1 <= r' by omega) (show r + 1 <= r' by omega) (by omega) g0
   omega
 have b : ¬ r' < r := fun hlt => by
  rcases g3 with h3 | h3
  ·omega
  ·have := Int.mul_le_mul (show r' + 1 <= r by omega) (show r' + 1 <= r by omega) (by omega) h0
   omega
 omega
/-- Farther than 2? -/
def Po (p q : Vc) : Prop := 17180131329 <= sqr (y6 p q)
instance (p q : Vc) : Decidable (Po p q) := inferInstanceAs (Decidable (_ <= _))
/-- Loading. -/
def L5 (w : Wld) (P N : Int) : Int := if G0 w P N = 0 then (if x5 (uAt w N).kind = 0 then 7 else 0) else G0 w P N
def zq1 (x u : Unt) : Int := if 0 < x5 u.kind then 7 else if Po u.pos x.pos then 8 else 0
def ldA (w : Wld) (P N id : Int) : Int := if G0 w P id = 0 then zq1 (uAt w N) (uAt w id) else G0 w P id
def ldE (w : Wld) (c : Cmd) : Int := if L5 w c.P c.N = 0 then (if Io (ldA w c.P c.N) c.U = 0 then (if x5 (uAt w c.N).kind < ((yi w.U c.N).length : Int) + (c.U.length : Int) then 4 else 0) else Io (ldA w c.P c.N) c.U) else L5 w c.P c.N
def ldU (n : Int) (u : Unt) : Unt := { u with pos := (0, 0), goal := -1, next := -1, stuck := 0, inn := n, state := 0 }
def ldW (w : Wld) (c : Cmd) : Wld := { w with U := Vp c.U (ldU c.N) w.U }
/-- One bit below a number's bits. -/
theorem zp0 {n : Int} {q m : Nat} (h0 : 0 <= n) (h1 : n < 2 ^ m) (h2 : n + q * 2 ^ m < 18446744073709551616) : j5 .or .u64 (q * 2 ^ m) n = q * 2 ^ m + n := by
 obtain ⟨a, rfl⟩ := Int.eq_ofNat_of_zero_le h0
 have e : ((q : Int) * 2 ^ m) = ((q * 2 ^ m : Nat) : Int) := by simp
 have h1' : a < 2 ^ m := by exact_mod_cast h1
 rw [e] at h2 ⊢
 have h3 : a + q * 2 ^ m < 18446744073709551616 := by omega
 rw [(ib (q * 2 ^ m) a (by omega) (by omega)).2, Nat.or_comm, bm a q m h1', ks (by omega) (by omega)]
 simp
 omega
theorem zkv {k : Nat} (hk : k <= 62) : IntKind.u64.wrap (1 * 2 ^ (min ((k : Int)).toNat IntKind.u64.bits)) = 2 ^ k := by
 have : (min ((k : Int)).toNat IntKind.u64.bits) = k := by
  show min ((k : Int)).toNat 64 = k
  omega
 rw [this, Int.one_mul]
 have h : (2 : Int) ^ k <= 2 ^ 62 := by exact_mod_cast Nat.pow_le_pow_right (by decide) hk
 grind[ks]
/-- The road to a root: bits from k on are reckoned. -/
def Cm (m r : Int) (k : Nat) : Prop := ∃ q : Nat, r = q * 2 ^ k /\ r + 2 ^ k <= 9223372036854775808 /\ r * r <= m /\ (m < (r + 2 ^ k) * (r + 2 ^ k) \/ r + 2 ^ k = 9223372036854775808)
theorem znv {m : Int} (hm : 0 <= m) : Cm m 0 63 := ⟨0, by simp, by decide, by simpa using hm, .inr (by decide)⟩
theorem znx {m r : Int} (h : Cm m r 0) : Bo m r := by
 obtain ⟨q, e, h1, h2, h3⟩ := h
 have e1 : (2 : Int) ^ 0 = 1 := rfl
 rw [e1] at h1 h3 e
 exact ⟨by omega, by omega, h2, h3.symm.imp (fun h => by omega) id⟩
theorem zny {m r : Int} {k : Nat} (h : Cm m r (k + 1)) : j5 .or .u64 r (2 ^ k) = r + 2 ^ k /\ 0 <= r /\ (0 : Int) < 2 ^ k /\ r + 2 ^ k < 9223372036854775808 := by
 obtain ⟨q, e, h1, h2, h3⟩ := h
 grind[zp0]
theorem znw {m r : Int} {k : Nat} (h : Cm m r (k + 1)) (hn : m < (r + 2 ^ k) * (r + 2 ^ k)) : Cm m r k := by
 obtain ⟨q, e, h1, h2, h3⟩ := h
 have e2 : (2 : Int) ^ (k + 1) = 2 * 2 ^ k := by grind
 have h0 : (0 : Int) < 2 ^ k := Int.pow_pos (by decide)
 rw [e2] at h1
 refine ⟨2 * q, ?_, by omega, h2, .inl hn⟩
 grind
theorem znu {m r : Int} {k : Nat} (h : Cm m r (k + 1)) (hn : (r + 2 ^ k) * (r + 2 ^ k) <= m) : Cm m (r + 2 ^ k) k := by
 obtain ⟨q, e, h1, h2, h3⟩ := h
 have e2 : (2 : Int) ^ (k + 1) = 2 * 2 ^ k := by grind
 have h0 : (0 : Int) < 2 ^ k := Int.pow_pos (by decide)
 rw [e2] at h1 h3
 have e3 : r + 2 ^ k + 2 ^ k = r + 2 * 2 ^ k := by omega
 refine ⟨2 * q + 1, ?_, by omega, hn, by rw [e3]; exact h3⟩
 grind
def zg (g : Gnd) (t : Nat) : Vc := (tx g t + 32768, ty g t + 32768)
/-- Good places for a kind about a tile. -/
def Vl (w : Wld) (k tile : Int) (n : Nat) : List Nat := zkq w.G (zf w.G w.B (zm k) (zx k)) (zx k) tile n
open Classical in
/-- Where a unit comes out. -/
noncomputable def zpw (w : Wld) (u : Unt) (tile : Int) : Option Nat := (Vl w u.kind tile 64).find? fun t => decide (qh w u.id u.kind (zg w.G t))
def m9 (u : Unt) (p : Vc) : Unt := { u with pos := p, inn := 0 }
/-- One behind the other comes out. -/
noncomputable def unl (tile : Int) : List Int -> Wld -> Option Wld
 | [], w => some w
 | id :: l, w => match Lh w.U id with
  | none => none
  | some i => match zpw w (w.U.getD i unt0) tile with
   | none => none
   | some t => unl tile l { w with U := w.U.set i (m9 (w.U.getD i unt0) (zg w.G t)) }
open Classical in
noncomputable def ulE (w : Wld) (c : Cmd) : Int :=
 if L5 w c.P c.N = 0 then
  (if 0 <= c.T /\ c.T < w.G.W * w.G.H then
   (if Po (zg w.G c.T.toNat) (uAt w c.N).pos then 8 else (match unl c.T (yi w.U c.N) w with | none => 5 | some _ => 0))
  else 3)
 else L5 w c.P c.N
noncomputable def ulW (w : Wld) (c : Cmd) : Wld := (unl c.T (yi w.U c.N) w).getD w
/-- The entries of a stand, when a unit is put. -/
def D8 (L : List Ent) (u : Unt) : List Ent := if u.inn = 0 then yu L u.id ++ [(u.id, u.pos)] else yu L u.id
theorem zp9 {w : Wld} {L : List Ent} (hF : ww w L) (hr : yq w.U) {i : Nat} (hi : i < w.U.length) {u : Unt} (hid : w.U[i].id = u.id) : ww { w with U := w.U.set i u } (D8 L u) := by
 have old : ∀ e, e ∈ yu L u.id ↔ ∃ j, ∃ hj : j < w.U.length, j ≠ i /\ w.U[j].inn = 0 /\ e = (w.U[j].id, w.U[j].pos) := fun e => by
  rw [mem_dropId, hF e]
  constructor
  ·rintro ⟨⟨x, hx, h0, rfl⟩, hne⟩
   obtain ⟨j, hj, rfl⟩ := List.getElem_of_mem hx
   grind
  ·rintro ⟨j, hj, hji, h0, rfl⟩
   refine ⟨⟨w.U[j], List.getElem_mem hj, h0, rfl⟩, fun e => hji ?_⟩
   have e : w.U[j].id = u.id := e
   by_cases h1 : j < i
   ·have := Bi hr h1 hi; omega
   ·by_cases h2 : i < j
    ·have := Bi hr h2 hj; omega
    ·omega
 intro e
 have key : (∃ y ∈ w.U.set i u, y.inn = 0 /\ e = (y.id, y.pos)) ↔ (u.inn = 0 /\ e = (u.id, u.pos)) \/ ∃ j, ∃ hj : j < w.U.length, j ≠ i /\ w.U[j].inn = 0 /\ e = (w.U[j].id, w.U[j].pos) := by
  constructor
  ·rintro ⟨y, hy, h0, he⟩
   obtain ⟨j, hj, rfl⟩ := List.getElem_of_mem hy
   grind
  ·rintro (⟨h0, he⟩ | ⟨j, hj, hji, h0, he⟩)
   ·exact ⟨u, List.mem_set hi u, h0, he⟩
   ·refine ⟨w.U[j], ?_, h0, he⟩
    have hj2 : j < (w.U.set i u).length := by grind
    have : (w.U.set i u)[j] = w.U[j] := by grind
    grind
 grind[D8]
theorem zqa {w : Wld} {L : List Ent} (hn : (L.map (·.1)).Nodup) (hF : ww w L) : L.length <= w.U.length := by
 have := List.Nodup.length_le_of_subset (l₂ := w.U.map (·.id)) hn (fun id hid => by
  obtain ⟨e, he, rfl⟩ := List.mem_map.1 hid
  obtain ⟨u, hu, _, rfl⟩ := (hF e).1 he
  grind)
 grind
/-- A unit is put: IDs rise as before. -/
theorem zn7 {U : List Unt} (hr : yq U) {i : Nat} (hi : i < U.length) {u : Unt} (hid : U[i].id = u.id) : yq (U.set i u) := by
 intro j hj h0
 rw [List.length_set] at hj
 have := hr j hj h0
 grind
def mvG (g : Int) (u : Unt) : Unt := { u with goal := g, next := -1, stuck := 0, state := 1 }
def zqv (w : Wld) (c : Cmd) (k : Nat) (kd : Int) : Int := match (Vl w kd c.T c.U.length)[k]? with | some t => (t : Int) | none => c.T
def mvL (w : Wld) (c : Cmd) : Nat -> List Unt
 | 0 => w.U
 | k + 1 => match Lh w.U (c.U.getD k 0) with
  | some i => (mvL w c k).set i (mvG (zqv w c k (w.U.getD i unt0).kind) (w.U.getD i unt0))
  | none => mvL w c k
def mvE (w : Wld) (c : Cmd) : Int := if 0 <= c.T /\ c.T < w.G.W * w.G.H then Io (G0 w c.P) c.U else 3
def mvW (w : Wld) (c : Cmd) : Wld := { w with U := mvL w c c.U.length }
theorem Hw {a b : Unt} (h : mvG 0 a = mvG 0 b) : a.id = b.id /\ a.owner = b.owner /\ a.kind = b.kind /\ a.pos = b.pos /\ a.inn = b.inn := by
 refine ⟨?_, ?_, ?_, ?_, ?_⟩
 ·have := congrArg Unt.id h
  exact this
 ·have := congrArg Unt.owner h
  exact this
 ·have := congrArg Unt.kind h
  exact this
 ·have := congrArg Unt.pos h
  exact this
 ·have := congrArg Unt.inn h
  exact this
noncomputable def aE (w : Wld) (c : Cmd) : Int := if c.K = 1 then spE w c else if c.K = 2 then mvE w c else if c.K = 3 then stE w c else if c.K = 4 then bdE w c else if c.K = 5 then drE w c else if c.K = 6 then ldE w c else ulE w c
noncomputable def aW (w : Wld) (c : Cmd) : Wld := if c.K = 1 then spW w c else if c.K = 2 then mvW w c else if c.K = 3 then stW w c else if c.K = 4 then bdW w c else if c.K = 5 then drW w c else if c.K = 6 then ldW w c else ulW w c
theorem a1 {w : Wld} {c : Cmd} (h : c.K = 1) : aE w c = spE w c /\ aW w c = spW w c := by simp_all[aE,aW]
theorem a2 {w : Wld} {c : Cmd} (h : c.K = 2) : aE w c = mvE w c /\ aW w c = mvW w c := by simp_all[aE,aW]
theorem a3 {w : Wld} {c : Cmd} (h : c.K = 3) : aE w c = stE w c /\ aW w c = stW w c := by simp_all[aE,aW]
theorem a4 {w : Wld} {c : Cmd} (h : c.K = 4) : aE w c = bdE w c /\ aW w c = bdW w c := by simp_all[aE,aW]
theorem a5 {w : Wld} {c : Cmd} (h : c.K = 5) : aE w c = drE w c /\ aW w c = drW w c := by simp_all[aE,aW]
theorem a6 {w : Wld} {c : Cmd} (h : c.K = 6) : aE w c = ldE w c /\ aW w c = ldW w c := by simp_all[aE,aW]
theorem a7 {w : Wld} {c : Cmd} (h : c.K = 7) : aE w c = ulE w c /\ aW w c = ulW w c := by simp_all[aE,aW]
instance (g : Gnd) (t : Nat) (p : Vc) (r : Int) : Decidable (xb g t p r) := by unfold xb; infer_instance
instance (g : Gnd) (b : Bld) : Decidable (Bc g b) := by unfold Bc; infer_instance
instance (g : Gnd) (b : Bld) : Decidable (onP g b) := by unfold onP; infer_instance
instance (b : Bld) : Decidable (yc b) := by unfold yc; infer_instance
instance (a b : Bld) : Decidable (v6 a b) := by unfold v6; infer_instance
instance (l : List Bld) : Decidable (Hm l) := by unfold Hm; infer_instance
instance (l : List Bld) : Decidable (Me l) := by unfold Me; infer_instance
instance (g : Gnd) : Decidable (zi g) := by unfold zi; infer_instance
instance (g : Gnd) (l : List Bld) : Decidable (Dc g l) := by unfold Dc; infer_instance
instance (g : Gnd) (l : List Bld) (c : Int) (p : Vc) (r : Int) : Decidable (qw g l c p r) := by unfold qw; infer_instance
instance (w : Wld) (id k : Int) (p : Vc) : Decidable (qh w id k p) := by unfold qh; infer_instance
instance (k : Int) : Decidable (ki k) := by unfold ki; infer_instance
instance (g : Gnd) (t : Int) : Decidable (jb g t) := by unfold jb; infer_instance
instance (w : Wld) (u : Unt) : Decidable (xt w u) := by unfold xt; infer_instance
instance (w : Wld) : Decidable (Cz w) := by unfold Cz; infer_instance
instance (l : List Unt) : Decidable (yq l) := by unfold yq; infer_instance
instance (w : Wld) : Decidable (Dj w) := by unfold Dj; infer_instance
instance (w : Wld) (u : Unt) : Decidable (kg w u) := by unfold kg; infer_instance
instance (w : Wld) : Decidable (yg w) := by unfold yg; infer_instance
instance (x y : Int) : Decidable (xf x y) := by unfold xf; infer_instance
instance (w : Wld) : Decidable (Ph w) := by unfold Ph; infer_instance
def qv (a b : Vc) : Vc := (yo a.1 b.1, yo a.2 b.2)
def qi (v : Vc) : Vc := (nrm v.1, nrm v.2)
def j4 (v : Vc) (k : Nat) : Vc := (v.1.tdiv (2 ^ k : Nat), v.2.tdiv (2 ^ k : Nat))
/-- The root, bit by bit. -/
def Kg (m : Int) : Nat -> Int -> Int
 | 0, r => r
 | b + 1, r => Kg m b (if (r + (2 ^ b : Nat)) * (r + (2 ^ b : Nat)) <= m then r + (2 ^ b : Nat) else r)
def xm (m : Int) : Int := Kg m 63 0
theorem znz {m : Int} (hm : 0 <= m) : ∀ (b : Nat) (r : Int), 0 <= r -> r * r <= m -> (r + (2 ^ b : Nat) = 9223372036854775808 \/ m < (r + (2 ^ b : Nat)) * (r + (2 ^ b : Nat))) -> r + (2 ^ b : Nat) <= 9223372036854775808 -> Bo m (Kg m b r) := by
 intro b
 induction b with
 | zero =>
  intro r h0 h1 h2 h3
  refine ⟨h0, ?_, h1, ?_⟩
  ·simp only [Nat.pow_zero] at h3
   show r <= _
   omega
  ·show r = _ \/ _
   simp only [Nat.pow_zero] at h2
   rcases h2 with h2 | h2
   ·exact .inl (by omega)
   ·exact .inr h2
 | succ b ih =>
  intro r h0 h1 h2 h3
  have hp : (2 ^ (b + 1) : Nat) = 2 ^ b + 2 ^ b := by rw [Nat.pow_succ]; omega
  have hq : 0 < 2 ^ b := Nat.pow_pos (by decide)
  rw [hp] at h2 h3
  generalize hB : 2 ^ b = B at *
  show Bo m (Kg m b (if _ then _ else _))
  rw [hB]
  split
  ·rename_i hle
   refine ih (r + (B : Nat)) (by omega) hle ?_ (by omega)
   rw [Int.add_assoc, show ((B : Nat) : Int) + (B : Nat) = ((B + B : Nat) : Int) by omega]
   exact h2
  ·rename_i hle
   exact ih r h0 h1 (.inr (by omega)) (by omega)
theorem Dr {m : Int} (hm : 0 <= m) : Bo m (xm m) := znz hm 63 0 (by decide) (by simpa using hm) (.inl (by decide)) (by decide)
theorem V9 {m r : Int} (hm : 0 <= m) (h : Bo m r) : r = xm m := zrw h (Dr hm)
/-- A part of a way that is cut. -/
def xh (c most long : Int) : Int := if c < 0 then -((-c) * most / long) else c * most / long
def xa (v : Vc) (most : Int) : Vc :=
 if xm (sqr v) <= max most 0 then qi v else (xh (nrm v.1) (max most 0) (xm (sqr v)), xh (nrm v.2) (max most 0) (xm (sqr v)))
def jo (p q : Vc) (speed : Int) : Vc := xa (y6 q p) speed
/-- What pushes one away from another one. -/
def j2 (p : Vc) (r : Int) (q : Vc) : Vc :=
 if near p q r then xa (if y6 p q = (0, 0) then (65536, 0) else y6 p q) (r - xm (sqr (y6 p q))) else (0, 0)
instance (w : Wld) (id k : Int) (p : Vc) : Decidable (qh w id k p) := by unfold qh qw; infer_instance
/-- Where a unit comes to by a step, and how often that was halved. -/
def qs (w : Wld) (u : Unt) (v : Vc) : Nat -> Nat -> Option (Nat × Vc)
 | 0, _ => none
 | n + 1, k => if j4 v k = (0, 0) then none else if qh w u.id u.kind (qv u.pos (j4 v k)) then some (k, qv u.pos (j4 v k)) else qs w u v n (k + 1)
def z8 (w : Wld) (u : Unt) : Wld := { w with U := w.U.map fun x => if x.id = u.id then u else x }
def wk (w : Wld) (u : Unt) (v : Vc) : Int := match qs w u (qi v) 5 0 with | none => 5 | some (k, _) => (k : Int)
def jz (w : Wld) (u : Unt) (v : Vc) : Wld := match qs w u (qi v) 5 0 with | none => w | some (_, p) => z8 w { u with pos := p }
/-- What pushes one without a goal. -/
def Cy (w : Wld) (u : Unt) : Vc := w.U.foldl (fun v x => if x.inn = 0 /\ x.id ≠ u.id then qv v (j2 u.pos (zk u.kind + zk x.kind + 16384) x.pos) else v) (0, 0)
def w9 (w : Wld) (u : Unt) : Wld := jz w u (xa (Cy w u) ((ym u.kind).tdiv 4))
def qu (s : Int) (u : Unt) : Unt := { u with goal := -1, next := -1, stuck := 0, state := s }
def okU (w : Wld) (u : Unt) (t : Nat) : Bool := zf w.G w.B (zm u.kind) (zx u.kind) t
def ko (w : Wld) (u : Unt) (own : Nat) : Bool :=
 decide (u.next = -1) || decide (u.pos = zg w.G u.next.toNat) || !okU w u u.next.toNat || (decide (u.next ≠ own) && !(qo w.G own).contains u.next)
/-- The next tile; below 0: there is none. -/
noncomputable def qz (w : Wld) (u : Unt) (own : Nat) : Int :=
 if u.pos ≠ zg w.G own then own else
  (let way := qb w.G (okU w u) (zm u.kind) (yl w.G (okU w u) (zm u.kind) u.goal.toNat) own
   if way < 0 then -1 else zo w.G own way.toNat)
/-- One step toward the next tile. -/
def xk (w : Wld) (u : Unt) : Wld :=
 if wk (z8 w { u with stuck := 0 }) { u with stuck := 0 } (jo u.pos (zg w.G u.next.toNat) (ym u.kind)) < 5 then jz (z8 w { u with stuck := 0 }) { u with stuck := 0 } (jo u.pos (zg w.G u.next.toNat) (ym u.kind))
 else if u.stuck + 1 = 8 then z8 w (qu 4 u) else z8 w { u with stuck := u.stuck + 1, next := -1 }
noncomputable def k7 (w : Wld) (u : Unt) : Wld :=
 if u.pos = zg w.G u.goal.toNat then z8 w (qu 2 u)
 else if ko w u (zq w.G u.pos) then
  (if qz w u (zq w.G u.pos) < 0 then z8 w (qu 3 u) else xk w { u with next := qz w u (zq w.G u.pos) })
 else xk w u
/-- What a unit on the field does in a tick. -/
noncomputable def qf (w : Wld) (u : Unt) : Wld := if u.goal = -1 then w9 w u else k7 w u
theorem zxd {g : Gnd} (hg : zi g) {l : List Bld} {c c' : Int} {p q : Vc} {k k' : Int} (hp : qw g l c p (zk k)) (hq : qw g l c' q (zk k')) : xq p (zk k) q (zk k') = xq q (zk k') p (zk k) := by
 have b1 := we hg hp
 have b2 := we hg hq
 grind[xq,bf,zk]
theorem fz {w w' : Wld} {id k : Int} {p : Vc} (hG : w'.G = w.G) (hB : w'.B = w.B) (h : ∀ v ∈ w'.U, v.inn = 0 -> v.id ≠ id -> ∃ x ∈ w.U, x.inn = 0 /\ x.id ≠ id /\ x.pos = v.pos /\ x.kind = v.kind) (hc : qh w id k p) : qh w' id k p := by
 refine ⟨by rw [hG, hB]; exact hc.1, fun v hv h0 hid => ?_⟩
 obtain ⟨x, hx, e1, e2, e3, e4⟩ := h v hv h0 hid
 rw [<- e3, <- e4]
 exact hc.2 x hx e1 e2
theorem zr9 (l : List Unt) (id : Int) : yi l id = ((l.map fun u => (u.inn, u.id)).filter fun x => x.1 == id).map (·.2) := by
 unfold yi
 rw [List.filter_map, List.map_map]
 rfl
theorem zsa {U U' : List Unt} (hl : U'.length = U.length) (h : ∀ j, (hj : j < U.length) -> (U'[j]'(by omega)).inn = U[j].inn /\ (U'[j]'(by omega)).id = U[j].id) (id : Int) : yi U' id = yi U id := by grind[zr9,List.ext_getElem,List.length_map]
theorem Wc {U U' : List Unt} (hl : U'.length = U.length) (h : ∀ j, (hj : j < U.length) -> (U'[j]'(by omega)).id = U[j].id) (hr : yq U) : yq U' := by
 intro j hj h0
 rw [hl] at hj
 have := hr j hj h0
 grind
/-- Orders are turned, of such as are on the field. -/
theorem zre {w : Wld} (hm : yg w) {U : List Unt} (hl : U.length = w.U.length) (h1 : ∀ j, (hj : j < w.U.length) -> mvG 0 (U[j]'(by omega)) = mvG 0 w.U[j]) (h2 : ∀ j, (hj : j < w.U.length) -> w.U[j].inn ≠ 0 -> U[j]'(by omega) = w.U[j]) (h3 : ∀ j, (hj : j < w.U.length) -> xt w (U[j]'(by omega))) : yg { w with U := U } := by
 obtain ⟨⟨hh, hr, hu⟩, hc, hd⟩ := hm
 have same := fun j hj => Hw (h1 j hj)
 have back : ∀ v ∈ U, ∃ j, ∃ hj : j < w.U.length, v = U[j]'(by omega) := fun v hv => by
  obtain ⟨j, hj, rfl⟩ := List.getElem_of_mem hv
  exact ⟨j, by omega, rfl⟩
 have hin := zsa hl (fun j hj => ⟨(same j hj).2.2.2.2, (same j hj).1⟩)
 refine ⟨⟨⟨hh.1, ⟨hh.2.1.1, hh.2.1.2.1, by show U.length <= _; rw [hl]; exact hh.2.1.2.2⟩, hh.2.2⟩, Wc hl (fun j hj => (same j hj).1) hr, fun v hv => ?_⟩, fun v hv h0 => ?_, fun v hv h0 => ?_⟩
 ·obtain ⟨j, hj, rfl⟩ := back v hv
  refine ⟨h3 j hj, fun b hb => ?_⟩
  grind
 ·obtain ⟨j, hj, rfl⟩ := back v hv
  obtain ⟨e1, _, e3, e4, e5⟩ := same j hj
  rw [e1, e3, e4]
  refine fz (w := w) rfl rfl (fun x hx hx0 hxi => ?_) (hc _ (List.getElem_mem hj) (by rw [<- e5]; exact h0))
  grind
 ·obtain ⟨j, hj, rfl⟩ := back v hv
  have e5 := (same j hj).2.2.2.2
  rw [e5] at h0
  rw [h2 j hj h0]
  obtain ⟨x, hx, g1, g2, g3, g4⟩ := hd _ (List.getElem_mem hj) h0
  obtain ⟨k, hk, rfl⟩ := List.getElem_of_mem hx
  obtain ⟨f1, f2, f3, f4, f5⟩ := same k hk
  refine ⟨U[k]'(by omega), List.getElem_mem _, by rw [f1]; exact g1, ⟨by rw [f5]; exact g2.1, by rw [f2]; exact g2.2⟩, ?_, g4⟩
  grind
theorem ei {q : Unt -> Bool} {x : Unt} (hx : q x = false) : ∀ (U : List Unt) (i : Nat), ((U.set i x).filter q).length <= (U.filter q).length
 | [], _ => Nat.le_refl _
 | a :: l, 0 => by grind
 | a :: l, i + 1 => by
  rw [List.set_cons_succ, List.filter_cons, List.filter_cons]
  have := ei hx l i
  split
  ·simp only [List.length_cons]; omega
  ·exact this
/-- A unit is put where it is clear. -/
theorem zrd {w : Wld} (hm : yg w) {i : Nat} (hi : i < w.U.length) {p : Vc} (hp : qh w w.U[i].id w.U[i].kind p) : yg { w with U := w.U.set i { w.U[i] with pos := p, inn := 0 } } := by
 obtain ⟨⟨hh, hr, hu⟩, hc, hd⟩ := hm
 have hg := hh.2.1.1
 have hl : (w.U.set i { w.U[i] with pos := p, inn := 0 }).length = w.U.length := List.length_set
 have get : ∀ j, (hj : j < w.U.length) -> (w.U.set i { w.U[i] with pos := p, inn := 0 })[j]'(by omega) = if i = j then { w.U[i] with pos := p, inn := 0 } else w.U[j] := fun j hj => List.getElem_set ..
 have back : ∀ v ∈ w.U.set i { w.U[i] with pos := p, inn := 0 }, v = { w.U[i] with pos := p, inn := 0 } \/ ∃ j, ∃ hj : j < w.U.length, j ≠ i /\ v = w.U[j] := fun v hv => by
  obtain ⟨j, hj, rfl⟩ := List.getElem_of_mem hv
  grind
 have idne : ∀ j, (hj : j < w.U.length) -> j ≠ i -> w.U[j].id ≠ w.U[i].id := fun j hj hne e => by
  rcases Nat.lt_trichotomy j i with q | q | q
  ·have := Bi hr q hi; omega
  ·exact hne q
  ·have := Bi hr q hj; omega
 have hself : xt w { w.U[i] with pos := p, inn := 0 } /\ ∀ b ∈ w.B, b.id ≠ w.U[i].id := ⟨(hu _ (List.getElem_mem hi)).1, (hu _ (List.getElem_mem hi)).2⟩
 refine ⟨⟨⟨hh.1, ⟨hh.2.1.1, hh.2.1.2.1, by show (w.U.set i _).length <= _; rw [hl]; exact hh.2.1.2.2⟩, hh.2.2⟩, zn7 hr hi rfl, fun v hv => ?_⟩, fun v hv h0 => ?_, fun v hv h0 => ?_⟩
 ·rcases back v hv with rfl | ⟨j, hj, _, rfl⟩
  ·exact hself
  ·exact hu _ (List.getElem_mem hj)
 ·rcases back v hv with rfl | ⟨j, hj, hne, rfl⟩
  ·refine fz (w := w) rfl rfl (fun x hx hx0 hxi => ?_) hp
   grind
  ·have hcj := hc _ (List.getElem_mem hj) h0
   refine ⟨hcj.1, fun x hx hx0 hxi => ?_⟩
   rcases back x hx with rfl | ⟨k, hk, _, rfl⟩
   ·have := hp.2 _ (List.getElem_mem hj) h0 (idne j hj hne)
    rw [zxd hg hp.1 hcj.1] at this
    exact this
   ·exact hcj.2 _ (List.getElem_mem hk) hx0 hxi
 ·rcases back v hv with rfl | ⟨j, hj, hne, rfl⟩
  ·exact absurd rfl h0
  obtain ⟨x, hx, g1, g2, g3, g4⟩ := hd _ (List.getElem_mem hj) h0
  obtain ⟨k, hk, rfl⟩ := List.getElem_of_mem hx
  have hle : ((yi (w.U.set i { w.U[i] with pos := p, inn := 0 }) w.U[j].inn).length : Int) <= x5 w.U[k].kind := by grind[ei,yi]
  by_cases e : k = i
  ·subst e
   exact ⟨{ w.U[k] with pos := p, inn := 0 }, List.mem_set hi _, g1, ⟨rfl, g2.2⟩, hle, g4⟩
  ·refine ⟨w.U[k], ?_, g1, g2, hle, g4⟩
   grind
theorem Dt {w : Wld} (hr : yq w.U) {i : Nat} (hi : i < w.U.length) {u : Unt} (hid : u.id = w.U[i].id) : z8 w u = { w with U := w.U.set i u } := by
 unfold z8
 congr 1
 refine List.ext_getElem (by simp) fun j h1 h2 => ?_
 have hj : j < w.U.length := by simpa using h1
 rw [List.getElem_map, List.getElem_set]
 by_cases e : i = j
 ·subst e
  rw [if_pos hid.symm, if_pos rfl]
 ·rw [if_neg e, if_neg]
  intro hx
  rcases Nat.lt_or_gt_of_ne e with h | h
  ·have := Hl hr h hj; omega
  ·have := Hl hr h hi; omega
theorem Kk {w : Wld} (hr : yq w.U) {i : Nat} (hi : i < w.U.length) {u : Unt} (hid : u.id = w.U[i].id) : ∃ h2 : i < (z8 w u).U.length, (z8 w u).U[i] = u := by
 rw [Dt hr hi hid]
 exact ⟨by simpa using hi, by simp⟩
theorem Oc (w : Wld) (u : Unt) : (z8 w u).U.length = w.U.length := by simp [z8]
theorem Wn {w : Wld} (hr : yq w.U) {i : Nat} (hi : i < w.U.length) {u : Unt} (hid : u.id = w.U[i].id) {j : Nat} (hj : j < w.U.length) (hij : j ≠ i) : (z8 w u).U[j]'(by rw [Oc]; exact hj) = w.U[j] := by
 have h := Dt hr hi hid
 have : (z8 w u).U = w.U.set i u := by rw [h]
 simp only [this]
 rw [List.getElem_set, if_neg (Ne.symm hij)]
/-- New orders. -/
theorem Kr {w : Wld} (hm : yg w) {i : Nat} (hi : i < w.U.length) (h0 : w.U[i].inn = 0) {u : Unt} (h1 : mvG 0 u = mvG 0 w.U[i]) (h2 : xt w u) : yg (z8 w u) := by
 have hid : u.id = w.U[i].id := (Hw h1).1
 rw [Dt hm.1.2.1 hi hid]
 have get : ∀ j, (hj : j < w.U.length) -> (w.U.set i u)[j]'(by simpa using hj) = if i = j then u else w.U[j] := fun j hj => List.getElem_set ..
 refine zre hm (by simp) (fun j hj => ?_) (fun j hj hn => ?_) (fun j hj => ?_)
 ·rw [get j hj]
  split
  ·rename_i e; subst e; exact h1
  ·rfl
 ·rw [get j hj]
  split
  ·rename_i e; subst e; exact absurd h0 hn
  ·rfl
 ·rw [get j hj]
  split
  ·exact h2
  ·exact (hm.1.2.2 _ (List.getElem_mem hj)).1
theorem Fo {w : Wld} {u : Unt} {v : Vc} : ∀ (n k : Nat) {r : Nat × Vc}, qs w u v n k = some r -> qh w u.id u.kind r.2 /\ (k <= r.1 /\ r.1 < k + n) /\ r.2 = qv u.pos (j4 v r.1)
 | 0, k, r, h => by cases h
 | n + 1, k, r, h => by
  unfold qs at h
  split at h
  ·cases h
  ·split at h
   ·cases h
    exact ⟨‹_›, by omega, rfl⟩
   ·obtain ⟨h1, h2, h3⟩ := Fo n (k + 1) h
    exact ⟨h1, by omega, h3⟩
/-- A step. -/
theorem cd {w : Wld} (hm : yg w) {i : Nat} (hi : i < w.U.length) (h0 : w.U[i].inn = 0) (v : Vc) : yg (jz w w.U[i] v) := by
 unfold jz
 cases h : qs w w.U[i] (qi v) 5 0 with
 | none => exact hm
 | some r =>
  obtain ⟨k, p⟩ := r
  dsimp only
  obtain ⟨h1, _, _⟩ := Fo 5 0 h
  rw [Dt (u := { w.U[i] with pos := p }) hm.1.2.1 hi rfl]
  have := zrd hm hi h1
  have e : ({ w.U[i] with pos := p, inn := 0 } : Unt) = { w.U[i] with pos := p } := by rw [<- h0]
  rw [e] at this
  exact this
theorem Mw {w : Wld} (hm : yg w) {i : Nat} (hi : i < w.U.length) : xt w w.U[i] := (hm.1.2.2 _ (List.getElem_mem hi)).1
theorem m7 {w : Wld} {u : Unt} (h : xt w u) {s : Int} (hs : s = 2 \/ s = 3 \/ s = 4) : xt w (qu s u) := by
 obtain ⟨⟨a1, a2, a3⟩, _, _, _⟩ := h
 refine ⟨⟨a1, a2, a3⟩, ⟨.inl rfl, .inl rfl, by show (0 : Int) <= 0 /\ (0 : Int) < 8; omega⟩, ⟨by show 0 <= s /\ s <= 4; omega, ?_⟩, fun _ => ⟨rfl, rfl⟩⟩
 show s = 1 ↔ (-1 : Int) ≠ -1
 omega
theorem Iy {w : Wld} {u : Unt} (h : xt w u) (hg : u.goal ≠ -1) {nx st : Int} (hn : jb w.G nx) (hs : 0 <= st /\ st < 8) : xt w { u with next := nx, stuck := st } := by
 obtain ⟨⟨a1, a2, a3⟩, ⟨b1, b2, b3⟩, c, d⟩ := h
 exact ⟨⟨a1, a2, a3⟩, ⟨b1, hn, hs⟩, c, fun e => absurd e hg⟩
theorem Oy {w : Wld} (hm : yg w) {i : Nat} (hi : i < w.U.length) (h0 : w.U[i].inn = 0) {s : Int} (hs : s = 2 \/ s = 3 \/ s = 4) {u : Unt} (hu : mvG 0 u = mvG 0 w.U[i]) (hup : xt w u) : yg (z8 w (qu s u)) :=
 Kr hm hi h0 (by rw [<- hu]; rfl) (m7 hup hs)
theorem ce {w : Wld} (hm : yg w) {i : Nat} (hi : i < w.U.length) (h0 : w.U[i].inn = 0) {u : Unt} (hu : mvG 0 u = mvG 0 w.U[i]) (hup : xt w u) (hg : u.goal ≠ -1) : yg (xk w u) := by
 have hid : u.id = w.U[i].id := (Hw hu).1
 have hin : u.inn = w.U[i].inn := (Hw hu).2.2.2.2
 unfold xk
 split
 ·have hp : xt w { u with stuck := 0 } := Iy hup hg hup.2.1.2.1 (by omega)
  have hm2 : yg (z8 w { u with stuck := 0 }) := Kr hm hi h0 (by rw [<- hu]; rfl) hp
  obtain ⟨h2, e⟩ := Kk (u := { u with stuck := 0 }) hm.1.2.1 hi hid
  have := cd hm2 h2 (by rw [e]; exact hin.trans h0) (jo u.pos (zg w.G u.next.toNat) (ym u.kind))
  rw [e] at this
  exact this
 ·split
  ·exact Oy hm hi h0 (.inr (.inr rfl)) hu hup
  ·rename_i h8
   have := hup.2.1.2.2
   exact Kr hm hi h0 (by rw [<- hu]; rfl) (Iy hup hg (.inl rfl) (by omega))
theorem Ol {w : Wld} (hm : yg w) {i : Nat} (hi : i < w.U.length) (h0 : w.U[i].inn = 0) : (0 <= w.U[i].pos.1 /\ w.U[i].pos.1 < w.G.W * 65536) /\ (0 <= w.U[i].pos.2 /\ w.U[i].pos.2 < w.G.H * 65536) := by
 have := we hm.1.1.2.1.1 (hm.2.1 _ (List.getElem_mem hi) h0).1
 have := this.1
 have := this.2
 omega
theorem Oj {w : Wld} (hm : yg w) {i : Nat} (hi : i < w.U.length) (h0 : w.U[i].inn = 0) : zq w.G w.U[i].pos < w.G.T.length := (wq hm.1.1.2.1.1 (Ol hm hi h0)).2.1
theorem Na {g : Gnd} (hg : zi g) {t : Nat} (h : t < g.T.length) : jb g (t : Int) := .inr (by have := hg.2.2.1; omega)
theorem mg (g : Gnd) (ok : Nat -> Bool) (c : Int) (d : Nat -> Int) (t : Nat) : qb g ok c d t = -1 \/ ∃ way : Nat, way < 8 /\ qb g ok c d t = way /\ 0 < yb g ok c t way := by
 unfold qb
 split
 ·exact .inl rfl
 ·cases h : (List.range 8).find? fun way => decide (0 < yb g ok c t way /\ 0 <= d (zo g t way).toNat /\ yb g ok c t way + d (zo g t way).toNat = d t) with
  | none => exact .inl rfl
  | some way =>
   have h1 := List.mem_of_find?_eq_some h
   have h2 := List.find?_some h
   exact .inr ⟨way, by simpa using h1, rfl, (of_decide_eq_true h2).1⟩
theorem Oo {w : Wld} (hg : zi w.G) {u : Unt} {own : Nat} (ho : own < w.G.T.length) : jb w.G (qz w u own) := by
 unfold qz
 split
 ·exact Na hg ho
 ·dsimp only
  rcases mg w.G (okU w u) (zm u.kind) (yl w.G (okU w u) (zm u.kind) u.goal.toNat) own with h | ⟨way, h1, h2, _⟩
  ·rw [h, if_pos (by decide)]; exact .inl rfl
  ·rw [h2, if_neg (by omega)]
   rcases Ma hg (t := own) (way := way) h1 with h3 | ⟨x, h3, h4⟩
   ·rw [Int.toNat_natCast, h3]; exact .inl rfl
   ·rw [Int.toNat_natCast, h3]; exact Na hg h4
theorem zrg {w : Wld} (hm : yg w) {i : Nat} (hi : i < w.U.length) (h0 : w.U[i].inn = 0) (hg : w.U[i].goal ≠ -1) : yg (k7 w w.U[i]) := by
 have hu := Mw hm hi
 unfold k7
 split
 ·exact Oy hm hi h0 (.inl rfl) rfl hu
 ·split
  ·split
   ·exact Oy hm hi h0 (.inr (.inl rfl)) rfl hu
   ·exact ce hm hi h0 (u := { w.U[i] with next := qz w w.U[i] (zq w.G w.U[i].pos) }) rfl (Iy hu hg (Oo hm.1.1.2.1.1 (Oj hm hi h0)) hu.2.1.2.2) hg
  ·exact ce hm hi h0 rfl hu hg
/-- A world that may be stays one, whoever goes. -/
theorem zrb {w : Wld} (hm : yg w) {i : Nat} (hi : i < w.U.length) (h0 : w.U[i].inn = 0) : yg (qf w w.U[i]) := by
 unfold qf
 split
 ·exact cd hm hi h0 _
 ·exact zrg hm hi h0 ‹_›
theorem jd {a b : Int} (ha : 0 <= a) (h : a <= b) : a * a <= b * b := Int.mul_le_mul h h ha (by omega)
theorem Nl {p q : Int} (hp : 0 <= p) (h : p < q) : p * p < q * q :=
 Int.lt_of_le_of_lt (Int.mul_le_mul_of_nonneg_left (Int.le_of_lt h) hp) (Int.mul_lt_mul_of_pos_right h (by omega))
theorem bw (a b c d : Int) : a * b * (c * d) = a * c * (b * d) := by ac_rfl
theorem zvi {x y m L s a b : Int} (hx : 0 <= x) (hy : 0 <= y) (hm : 0 <= m) (hmL : m < L) (hs : x * x + y * y < (L + 1) * (L + 1)) (ha : a = x * m / L) (hb : b = y * m / L) : a * a + b * b < (m + 1) * (m + 1) := by
 have hL : 0 < L := by omega
 have a1 : a * L <= x * m := by rw [ha]; exact Int.ediv_mul_le _ (by omega)
 have b1 : b * L <= y * m := by rw [hb]; exact Int.ediv_mul_le _ (by omega)
 have a0 : 0 <= a := by rw [ha]; exact Int.ediv_nonneg (Int.mul_nonneg hx hm) (by omega)
 have b0 : 0 <= b := by rw [hb]; exact Int.ediv_nonneg (Int.mul_nonneg hy hm) (by omega)
 have a2 := jd (Int.mul_nonneg a0 (by omega : (0:Int) <= L)) a1
 have b2 := jd (Int.mul_nonneg b0 (by omega : (0:Int) <= L)) b1
 have e1 : (a * a + b * b) * (L * L) = a * L * (a * L) + b * L * (b * L) := by grind
 have e2 : x * m * (x * m) + y * m * (y * m) = (x * x + y * y) * (m * m) := by grind
 have h1 : (a * a + b * b) * (L * L) <= (x * x + y * y) * (m * m) := by grind
 refine Int.not_le.1 fun hle => ?_
 have h2 : (m + 1) * (m + 1) * (L * L) <= (x * x + y * y) * (m * m) := Int.le_trans (Int.mul_le_mul_of_nonneg_right hle (Int.mul_nonneg (by omega) (by omega))) h1
 have h3 : (x * x + y * y) * (m * m) <= ((L + 1) * (L + 1)) * (m * m) := Int.mul_le_mul_of_nonneg_right (by omega) (Int.mul_nonneg hm hm)
 have e3 : (m + 1) * (m + 1) * (L * L) = ((m + 1) * L) * ((m + 1) * L) := bw ..
 have e4 : ((L + 1) * (L + 1)) * (m * m) = ((L + 1) * m) * ((L + 1) * m) := bw ..
 have h4 : ((L + 1) * m) * ((L + 1) * m) < ((m + 1) * L) * ((m + 1) * L) := by
  have k1 : (L + 1) * m < (m + 1) * L := by grind
  have k0 : 0 <= (L + 1) * m := Int.mul_nonneg (by omega) hm
  exact Nl k0 k1
 omega
/-- A way that is not great. -/
def xe (v : Vc) : Prop := (-1125899906842624 <= v.1 /\ v.1 <= 1125899906842624) /\ (-1125899906842624 <= v.2 /\ v.2 <= 1125899906842624)
theorem Al {v : Vc} (h : xe v) : sqr v = v.1 * v.1 + v.2 * v.2 /\ qi v = v /\ 0 <= sqr v /\ sqr v < (xm (sqr v) + 1) * (xm (sqr v) + 1) := by
 obtain ⟨h1, h2⟩ := h
 have e : sqr v = v.1 * v.1 + v.2 * v.2 := by grind[sqr,Ri]
 have p1 : 0 <= v.1 * v.1 := by rcases Int.le_total 0 v.1 with h | h; exact Int.mul_nonneg h h; rw [<- Int.neg_mul_neg]; exact Int.mul_nonneg (by omega) (by omega)
 have p2 : 0 <= v.2 * v.2 := by rcases Int.le_total 0 v.2 with h | h; exact Int.mul_nonneg h h; rw [<- Int.neg_mul_neg]; exact Int.mul_nonneg (by omega) (by omega)
 have b : ∀ x : Int, -1125899906842624 <= x /\ x <= 1125899906842624 -> x * x <= 1125899906842624 * 1125899906842624 := fun x hx => by
  rcases Int.le_total 0 x with h | h
  ·exact jd h hx.2
  ·rw [<- Int.neg_mul_neg]; exact jd (by omega) (by omega)
 have b1 := b _ h1
 have b2 := b _ h2
 have h0 : 0 <= sqr v := by omega
 refine ⟨e, ?_, h0, ?_⟩
 ·grind[qi,wx]
 ·obtain ⟨r0, r1, r2, r3⟩ := Dr h0
  grind
theorem Dg (x : Int) : x * x = (x.natAbs : Int) * x.natAbs := by grind
theorem Lq {c m L : Int} (hm : 0 <= m) (hL : 0 < L) : ((xh c m L).natAbs : Int) = (c.natAbs : Int) * m / L := by
 have q : ∀ z : Int, 0 <= z -> 0 <= z * m / L := fun z hz => Int.ediv_nonneg (Int.mul_nonneg hz hm) (by omega)
 unfold xh
 split
 ·have := q (-c) (by omega)
  rw [show (c.natAbs : Int) = -c by omega]; omega
 ·have := q c (by omega)
  rw [show (c.natAbs : Int) = c by omega]; omega
theorem Ib {c m L : Int} (hm : 0 <= m) (hmL : m < L) : (xh c m L).natAbs <= c.natAbs := by
 have h1 := Lq (c := c) hm (show 0 < L by omega)
 have h2 : (c.natAbs : Int) * m / L <= c.natAbs := by
  have : (c.natAbs : Int) * m <= c.natAbs * L := Int.mul_le_mul_of_nonneg_left (by omega) (by omega)
  exact Int.le_trans (Int.ediv_le_ediv (by omega) this) (by rw [Int.mul_ediv_cancel _ (by omega)]; exact Int.le_refl _)
 omega
/-- A way that is cut is not longer. -/
theorem f8 {v : Vc} {m : Int} (hs : xe v) (hm : 0 <= m) : xe (xa v m) /\ (xa v m).1 * (xa v m).1 + (xa v m).2 * (xa v m).2 < (m + 1) * (m + 1) := by
 obtain ⟨e, en, h0, h1⟩ := Al hs
 have hmx : max m 0 = m := by omega
 have n1 : nrm v.1 = v.1 := congrArg Prod.fst en
 have n2 : nrm v.2 = v.2 := congrArg Prod.snd en
 have r0 := (Dr h0).1
 unfold xa
 rw [hmx]
 split
 ·rename_i hle
  rw [en]
  refine ⟨hs, ?_⟩
  have := jd (show 0 <= xm (sqr v) + 1 by omega) (show xm (sqr v) + 1 <= m + 1 by omega)
  omega
 ·rename_i hgt
  rw [n1, n2]
  have hmL : m < xm (sqr v) := by omega
  have c1 := Ib (c := v.1) hm hmL
  have c2 := Ib (c := v.2) hm hmL
  refine ⟨?_, ?_⟩
  ·unfold xe at hs ⊢
   dsimp only
   omega
  ·dsimp only
   rw [Dg (xh v.1 _ _), Dg (xh v.2 _ _)]
   refine zvi (s := 0) (x := v.1.natAbs) (y := v.2.natAbs) (by omega) (by omega) hm hmL ?_ (Lq hm (by omega)) (Lq hm (by omega))
   rw [<- Dg, <- Dg]
   omega
theorem di (x : Int) (k : Nat) : (x.tdiv (2 ^ k : Nat)).natAbs <= x.natAbs := by
 rw [Int.natAbs_tdiv]
 exact Nat.div_le_self _ _
/-- A place of a map. -/
def yr (p : Vc) : Prop := (0 <= p.1 /\ p.1 <= 8388608) /\ (0 <= p.2 /\ p.2 <= 8388608)
theorem Bv {a b : Int} (ha : -2251799813685248 <= a /\ a <= 2251799813685248) (hb : -2251799813685248 <= b /\ b <= 2251799813685248) : yo a b = a + b := by
 unfold yo xo
 rw [wx (by omega), wx (by omega), if_neg (by omega), if_neg (by omega)]
theorem Mo {p q : Vc} (hp : yr p) (hq : yr q) : y6 q p = (q.1 - p.1, q.2 - p.2) /\ xe (y6 q p) := by
 obtain ⟨p1, p2⟩ := hp
 obtain ⟨q1, q2⟩ := hq
 have e := Mr (a := q) (b := p) (by omega) (by omega) (by omega) (by omega)
 refine ⟨e, ?_⟩
 rw [e]
 unfold xe
 dsimp only
 omega
/-- What one pushes another one is not great. -/
theorem Oe {p q : Vc} (hp : yr p) (hq : yr q) {r : Int} (hr : 0 < r) : -16777216 <= (j2 p r q).1 /\ (j2 p r q).1 <= 16777216 /\ -16777216 <= (j2 p r q).2 /\ (j2 p r q).2 <= 16777216 := by
 obtain ⟨e, hs⟩ := Mo hq hp
 unfold j2
 split
 ·rename_i hn
  generalize hm : r - xm (sqr (y6 p q)) = m
  have hv : ∀ w : Vc, xe w -> (w.1.natAbs <= 16777216 /\ w.2.natAbs <= 16777216) -> -16777216 <= (xa w m).1 /\ (xa w m).1 <= 16777216 /\ -16777216 <= (xa w m).2 /\ (xa w m).2 <= 16777216 := by
   intro w hw hb
   obtain ⟨_, en, _, _⟩ := Al hw
   have n1 : nrm w.1 = w.1 := congrArg Prod.fst en
   have n2 : nrm w.2 = w.2 := congrArg Prod.snd en
   unfold xa
   split
   ·rw [en]; omega
   ·rename_i hgt
    rw [n1, n2]
    have c1 := Ib (c := w.1) (m := max m 0) (L := xm (sqr w)) (by omega) (by omega)
    have c2 := Ib (c := w.2) (m := max m 0) (L := xm (sqr w)) (by omega) (by omega)
    dsimp only
    omega
  obtain ⟨p1, p2⟩ := hp
  obtain ⟨q1, q2⟩ := hq
  split
  ·exact hv _ (by unfold xe; decide) (by decide)
  ·refine hv _ hs ?_
   rw [e]
   dsimp only
   omega
 ·decide
theorem zse {w : Wld} {u : Unt} (hu : yr u.pos) (h : ∀ x ∈ w.U, x.inn = 0 -> yr x.pos) (hl : w.U.length <= 4096) : xe (Cy w u) := by
 have key : ∀ (l : List Unt) (v : Vc) (B : Nat), (∀ x ∈ l, x.inn = 0 -> yr x.pos) -> B + l.length <= 4096 -> (v.1.natAbs <= B * 16777216 /\ v.2.natAbs <= B * 16777216) ->
   xe (l.foldl (fun v x => if x.inn = 0 /\ x.id ≠ u.id then qv v (j2 u.pos (zk u.kind + zk x.kind + 16384) x.pos) else v) v) := by
  intro l
  induction l with
  | nil =>
   intro v B _ hB hv
   unfold xe
   simp only [List.length_nil] at hB
   simp only [List.foldl_nil]
   omega
  | cons x l ih =>
   intro v B hx hB hv
   simp only [List.length_cons] at hB
   rw [List.foldl_cons]
   refine ih _ (B + 1) (fun y hy => hx y (List.mem_cons_of_mem _ hy)) (by omega) ?_
   split
   ·rename_i hc
    have r1 := Hq u.kind
    have r2 := Hq x.kind
    have := Oe hu (hx x List.mem_cons_self hc.1) (r := zk u.kind + zk x.kind + 16384) (by omega)
    generalize j2 u.pos (zk u.kind + zk x.kind + 16384) x.pos = z at *
    have e : qv v z = (v.1 + z.1, v.2 + z.2) := by
     unfold qv
     rw [Bv (by omega) (by omega), Bv (by omega) (by omega)]
    rw [e]
    dsimp only
    omega
   ·exact ⟨Nat.le_trans hv.1 (Nat.mul_le_mul_right _ (Nat.le_succ B)), Nat.le_trans hv.2 (Nat.mul_le_mul_right _ (Nat.le_succ B))⟩
 unfold Cy
 refine key w.U (0, 0) 0 h (by omega) ⟨?_, ?_⟩
 ·show (0 : Int).natAbs <= _; simp
 ·show (0 : Int).natAbs <= _; simp
theorem Wm (w : Wld) {a b : Unt} (h : a.id = b.id) : z8 (z8 w a) b = z8 w b := by
 unfold z8
 simp only [List.map_map]
 congr 1
 refine List.map_congr_left fun x _ => ?_
 simp only [Function.comp]
 by_cases e : x.id = a.id
 ·rw [if_pos e, if_pos h, if_pos (e.trans h)]
 ·rw [if_neg e]
theorem zpf {w : Wld} (hr : yq w.U) {i : Nat} (hi : i < w.U.length) : z8 w w.U[i] = w := by
 rw [Dt hr hi rfl]
 congr 1
 exact List.set_getElem_self hi
theorem zn6 {w : Wld} (hr : yq w.U) {i : Nat} (hi : i < w.U.length) {u : Unt} (hid : u.id = w.U[i].id) : yq (z8 w u).U := by
 refine Wc (Oc w u) (fun j hj => ?_) hr
 by_cases e : j = i
 ·subst e
  obtain ⟨_, h⟩ := Kk hr hi hid
  rw [h]; exact hid
 ·rw [Wn hr hi hid hj e]
/-- What a tick makes of a unit. -/
def Dh (u u' : Unt) : Prop := u'.id = u.id /\ u'.kind = u.kind /\ (u'.pos = u.pos \/ ∃ (v : Vc) (m : Int) (k : Nat), xe v /\ 0 <= m /\ m <= ym u.kind /\ u'.pos = qv u.pos (j4 (qi (xa v m)) k))
theorem Fw (k : Int) : 8192 <= ym k /\ ym k <= 24576 := by unfold ym; split <;> (try split) <;> (try split) <;> omega
theorem Sl {w : Wld} (hr : yq w.U) {i : Nat} (hi : i < w.U.length) {v : Vc} {m : Int} (hs : xe v) (hm : 0 <= m) (hm2 : m <= ym w.U[i].kind) : ∃ u', jz w w.U[i] (xa v m) = z8 w u' /\ Dh w.U[i] u' := by
 unfold jz
 cases h : qs w w.U[i] (qi (xa v m)) 5 0 with
 | none => exact ⟨w.U[i], (zpf hr hi).symm, rfl, rfl, .inl rfl⟩
 | some r =>
  obtain ⟨k, p⟩ := r
  obtain ⟨_, _, h3⟩ := Fo 5 0 h
  exact ⟨_, rfl, rfl, rfl, .inr ⟨v, m, k, hs, hm, hm2, h3⟩⟩
theorem Gd {w : Wld} (hm : yg w) {u : Unt} (hu : u ∈ w.U) (h0 : u.inn = 0) : yr u.pos := by
 have := we hm.1.1.2.1.1 (hm.2.1 u hu h0).1
 unfold yr
 omega
theorem gg {g : Gnd} (hg : zi g) {t : Nat} (ht : t < g.T.length) : yr (zg g t) := by
 obtain ⟨⟨h1, h2⟩, ⟨h3, h4⟩, h5, _⟩ := hg
 have a := Int.emod_nonneg (t : Int) (show g.W ≠ 0 by omega)
 have b := Int.emod_lt_of_pos (t : Int) (show 0 < g.W by omega)
 have c : 0 <= (t : Int) / g.W := Int.ediv_nonneg (by omega) (by omega)
 have d : (t : Int) / g.W < g.H := Int.ediv_lt_of_lt_mul (by omega) (by rw [Int.mul_comm]; omega)
 unfold yr zg tx ty
 dsimp only
 omega
theorem Sz {w : Wld} (hm : yg w) {i : Nat} (hi : i < w.U.length) (h0 : w.U[i].inn = 0) {u : Unt} (hu : mvG 0 u = mvG 0 w.U[i]) (ht : u.next.toNat < w.G.T.length) : ∃ u', xk w u = z8 w u' /\ Dh w.U[i] u' := by
 obtain ⟨f1, f2, f3, f4, f5⟩ := Hw hu
 have hmp := Gd hm (List.getElem_mem hi) h0
 have same : ∀ u' : Unt, u'.id = u.id -> u'.kind = u.kind -> u'.pos = u.pos -> ∃ u2, z8 w u' = z8 w u2 /\ Dh w.U[i] u2 := fun u' a b c => ⟨u', rfl, a.trans f1, b.trans f3, .inl (c.trans f4)⟩
 unfold xk
 split
 ·obtain ⟨h2, e⟩ := Kk (u := { u with stuck := 0 }) hm.1.2.1 hi f1
  have hr2 := zn6 (u := { u with stuck := 0 }) hm.1.2.1 hi f1
  have hs := (Mo (p := u.pos) (q := zg w.G u.next.toNat) (by rw [f4]; exact hmp) (gg hm.1.1.2.1.1 ht)).2
  have hsp := Fw u.kind
  obtain ⟨u2, e2, k1, k2, k3⟩ := Sl hr2 h2 (v := y6 (zg w.G u.next.toNat) u.pos) (m := ym u.kind) hs (by omega) (by rw [e]; exact Int.le_refl _)
  rw [e] at e2 k1 k2 k3
  refine ⟨u2, ?_, k1.trans f1, k2.trans f3, ?_⟩
  ·unfold jo
   rw [e2]
   exact Wm w k1.symm
  ·rw [<- f4, <- f3]; exact k3
 ·split
  ·exact same _ rfl rfl rfl
  ·exact same _ rfl rfl rfl
theorem zqk {w : Wld} (hg : zi w.G) {u : Unt} {own : Nat} (ho : own < w.G.T.length) (h : ¬ qz w u own < 0) : (qz w u own).toNat < w.G.T.length := by
 have := Oo hg (u := u) ho
 have := hg.2.2.1
 unfold jb at *
 omega
theorem ztn {w : Wld} (hm : yg w) {i : Nat} (hi : i < w.U.length) (h0 : w.U[i].inn = 0) (hg : w.U[i].goal ≠ -1) : ∃ u', k7 w w.U[i] = z8 w u' /\ Dh w.U[i] u' := by
 have hu := Mw hm hi
 have hgn := hm.1.1.2.1.1
 unfold k7
 split
 ·exact ⟨_, rfl, rfl, rfl, .inl rfl⟩
 ·split
  ·split
   ·exact ⟨_, rfl, rfl, rfl, .inl rfl⟩
   ·rename_i hn
    exact Sz hm hi h0 (u := { w.U[i] with next := qz w w.U[i] (zq w.G w.U[i].pos) }) rfl (zqk hgn (Oj hm hi h0) hn)
  ·rename_i hl
   refine Sz hm hi h0 rfl ?_
   have hne : w.U[i].next ≠ -1 := fun e => hl (by unfold ko; simp [e])
   have := hu.2.1.2.1
   have := hgn.2.2.1
   unfold jb at *
   omega
/-- Who goes: the others stay; nobody goes farther than its speed. -/
theorem Se {w : Wld} (hm : yg w) {i : Nat} (hi : i < w.U.length) (h0 : w.U[i].inn = 0) : ∃ u', qf w w.U[i] = z8 w u' /\ Dh w.U[i] u' := by
 unfold qf
 split
 ·have hsp := Fw w.U[i].kind
  have e : (ym w.U[i].kind).tdiv 4 = ym w.U[i].kind / 4 := Int.tdiv_eq_ediv_of_nonneg (by omega)
  unfold w9
  rw [e]
  exact Sl hm.1.2.1 hi (zse (Gd hm (List.getElem_mem hi) h0) (fun x hx h => Gd hm hx h) hm.1.1.2.1.2.2) (by omega) (by omega)
 ·exact ztn hm hi h0 ‹_›
structure MayF (w : Wld) : Prop where
 hg : zi w.G
 hB : w.B.length <= 256
 hU : w.U.length <= 4096
 hT : w.G.T.length <= 16384
 hb : ∀ b ∈ w.B, yc b /\ onP w.G b
 hk : ∀ u ∈ w.U, ki u.kind
 hr : yq w.U
 hn1 : 1 <= w.next
 hn2 : w.next <= 1099511627776
theorem Dw {w : Wld} (h : yg w) : MayF w := by
 obtain ⟨⟨hh, hok⟩, _⟩ := h
 have hbl := hh.2.1.2.1
 have ha := yw hh.2.1.1
 exact ⟨hh.2.1.1, hbl.1, hh.2.1.2.2, by omega, fun b hb => ⟨(hbl.2.2.1 b hb).1, (hbl.2.2.1 b hb).2.1⟩, fun u hu => (hok.2 u hu).1.1.2.2, hok.1, hh.1.2.2.1, hh.1.2.2.2⟩
theorem MayF.fits {w : Wld} (h : MayF w) : w.fits := ⟨by unfold Gnd.fits; have := h.hT; omega, by have := h.hB; omega, by have := h.hU; omega⟩
theorem cw (k : Int) : 0 <= zx k /\ zx k <= 3 := by unfold zx; split <;> decide
structure Scr24 where
 W : Wld
 I : List Int
 V : List Vc
def Kb (s : Scr24) : List AV := yd s.W ++ [wc s.I, lst 2 zy s.V]
def K3 (s : Scr24) : Prop := (H6 s.W \/ s.I.length > 40) \/ s.V.length > 40
def Scr24.good (s : Scr24) : Prop := (∀ u ∈ s.W.U, u.pos.ok) /\ (∀ n ∈ s.I, ye n) /\ ∀ v ∈ s.V, v.ok
theorem mv (a b : Vc) : (qv a b).ok := by
 have h1 := Lz (nrm a.1 + nrm b.1)
 have h2 := Lz (nrm a.2 + nrm b.2)
 exact ⟨⟨by show _ <= xo _; omega, by show xo _ <= _; omega⟩, ⟨by show _ <= xo _; omega, by show xo _ <= _; omega⟩⟩
/-- A world whose walk may be stepped: it may play, and its places are words. -/
def playW (w : Wld) : Prop := yg w /\ ∀ u ∈ w.U, u.pos.ok
theorem playW.sizes {w : Wld} (h : playW w) : w.G.T.length <= 1000000 /\ w.B.length <= 1000000 /\ w.U.length <= 1000000 := by
 have f := Dw h.1
 have := f.hB
 have := f.hU
 have := f.hT
 omega
theorem lv {u u' : Unt} (h : Dh u u') (hu : u.pos.ok) : u'.pos.ok := by
 rcases h.2.2 with e | ⟨v, m, k, _, _, _, e⟩
 ·rw [e]; exact hu
 ·rw [e]; exact mv _ _
theorem zpd {w : Wld} {u : Unt} (hw : ∀ x ∈ w.U, x.pos.ok) (hu : u.pos.ok) : ∀ x ∈ (z8 w u).U, x.pos.ok := by
 intro x hx
 unfold z8 at hx
 obtain ⟨y, hy, rfl⟩ := List.mem_map.1 hx
 split
 ·exact hu
 ·exact hw y hy
end Go.V
