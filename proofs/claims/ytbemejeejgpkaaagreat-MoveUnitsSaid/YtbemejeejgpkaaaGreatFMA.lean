/- The ground on which laws of thronglaw24 are proved: contracts of functions and plain lemmas; no condition beyond the row's own. -/
import Derived.Test.YtbemejeejgpkaaaGreatVJ
import Derived.Test.YtbemejeejgpkaaaGreatVI
import Derived.Test.YtbemejeejgpkaaaGreatSK
import Derived.Test.YtbemejeejgpkaaaGreatVH
import Derived.Test.YtbemejeejgpkaaaGreatSJ
import Derived.Test.YtbemejeejgpkaaaGreatVE
import Derived.Test.YtbemejeejgpkaaaGreatSI
import Derived.Test.YtbemejeejgpkaaaGreatSH
set_option linter.unusedSimpArgs false
set_option linter.unusedVariables false
namespace Go.V
theorem zue {w : Wld} {u : Unt} {v : Vc} : ∀ (n k : Nat) {r : Nat × Vc}, tryL w u v n k = some r -> k <= r.1 /\ r.1 < k + n := by
 intro n
 induction n with
 | zero => intro k r h; cases h
 | succ n ih =>
  intro k r h
  unfold tryL at h
  split at h
  ·cases h
  ·split at h
   ·cases h; exact ⟨Nat.le_refl _, by dsimp only; omega⟩
   ·have := ih (k + 1) h; omega
/-- The walk has come to 'k' and nothing was taken. -/
def znx (w : Wld) (u : Unt) (v : Vc) (k : Nat) : Prop := tryL w u v 5 0 = tryL w u v (5 - k) k
theorem zh2 {w : Wld} {u : Unt} {v : Vc} {k : Nat} (h : znx w u v k) (h2 : k < 5 -> ki v k = (0, 0)) (hk : k <= 5) : tryL w u v 5 0 = none := by
 rw [h]
 by_cases h5 : k < 5
 ·rw [show 5 - k = (4 - k) + 1 by omega]
  unfold tryL
  rw [if_pos (h2 h5)]
 ·rw [show 5 - k = 0 by omega]
  rfl
theorem zrh {w : Wld} {u : Unt} {v : Vc} {k : Nat} (h : znx w u v k) (hk : k < 5) (h1 : ki v k ≠ (0, 0)) (h2 : ym w u.id u.kind (vadd u.pos (ki v k))) : tryL w u v 5 0 = some (k, vadd u.pos (ki v k)) := by
 rw [h, show 5 - k = (4 - k) + 1 by omega]
 unfold tryL
 rw [if_neg h1, if_pos h2]
theorem zri {w : Wld} {u : Unt} {v : Vc} {k : Nat} (h : znx w u v k) (hk : k < 5) (h1 : ki v k ≠ (0, 0)) (h2 : ¬ ym w u.id u.kind (vadd u.pos (ki v k))) : znx w u v (k + 1) := by
 unfold znx
 rw [h, show 5 - k = (5 - (k + 1)) + 1 by omega]
 conv => lhs; unfold tryL
 rw [if_neg h1, if_neg h2]
theorem zcp {w : Wld} {u : Unt} {v : Vc} (h : tryL w u (vnrm v) 5 0 = none) : tryK w u v = 5 /\ tryW w u v = w := by
 unfold tryK tryW
 rw [h]
 exact ⟨rfl, rfl⟩
theorem zfs {w : Wld} {u : Unt} {v : Vc} {k : Nat} {p : Vc} (h : tryL w u (vnrm v) 5 0 = some (k, p)) : tryK w u v = k /\ tryW w u v = putU w { u with pos := p } := by
 unfold tryK tryW
 rw [h]
 exact ⟨rfl, rfl⟩
theorem zyu (w : Wld) (u : Unt) : tryK w u (0, 0) = 5 /\ tryW w u (0, 0) = w := zcp (by
 have : ki (vnrm (0, 0)) 0 = (0, 0) := by decide
 unfold tryL
 rw [if_pos this])
end Go.V
namespace Go.Proofs
open Go Go.V
set_option maxRecDepth 4000
set_option maxRecDepth 20000 in
theorem zml (a : Scr24) (st : Store) (R : AV -> Store -> Prop) (h : ∀ z : Bool, (z = true ↔ zfc a) -> R (bool z) st) : ACalls Tryz.prog 12 [.agg (zlq a)] st R := by
 refine ACalls.of_body (c := cfg 18) zc Tryz.func12 (by rfl) (by rfl) (by rfl) (by rfl) ?_
 repeat' (first | refine bcd (fun _ => ?_) (fun _ => ?_) | refine zd (fun _ => ?_) (fun _ => ?_) | refine in64 (by omega) ?_ | (refine zgs a.W _ _ ?_; rintro (_ | _) hz)| fail)
 all_goals
  refine ret (h _ ?_)
  simp only [decide_eq_true_eq, decide_eq_false_iff_not, Bool.false_eq_true, false_iff, true_iff, beq_iff_eq, bne_iff_ne, beq_eq_false_iff_ne, ne_eq, reduceCtorEq, zi, zfc, zmq] at *
  omega
theorem zx7 {w : Wld} {id : Int} (hm : mayP w) (he : askM w id = 0) : ∃ (i : Nat) (hi : i < w.U.length), w.U[i].id = id /\ w.U[i].inn = 0 := by
 unfold askM at he
 rw [if_pos hm] at he
 cases hf : w.U.find? (fun u => u.id == id) with
 | none => rw [hf] at he; cases he
 | some u =>
  rw [hf] at he
  obtain ⟨i, hi, e⟩ := List.getElem_of_mem (List.mem_of_find?_eq_some hf)
  have hid := List.find?_some hf
  refine ⟨i, hi, ?_, ?_⟩
  ·rw [e]; simpa using hid
  ·rw [e]
   dsimp only at he
   by_cases h0 : u.inn = 0
   ·exact h0
   ·rw [if_neg h0] at he; cases he
def wNil : Wld := ⟨0, 0, 0, ⟨0, 0, []⟩, [], []⟩
theorem yn2 {a b c d : AV} (h : AV.le a c) (h' : AV.le b d) : AV.le (.tup [a, b]) (.tup [c, d]) := by
 intro w T v hv
 cases hv with
 | tup _ cs hl hc =>
  refine .tup _ cs hl fun i x y hx hy => ?_
  match i, hx with
  | 0, hx => cases hx; exact h w T y (hc 0 _ _ rfl hy)
  | 1, hx => cases hx; exact h' w T y (hc 1 _ _ rfl hy)
  | i + 2, hx => cases hx
/-- What move.Unit hands back. -/
noncomputable def mout (w : Wld) (id : Int) : Wld := if askM w id = 0 then zfq w id else wNil
end Go.Proofs
namespace Go.Proofs
open Go Go.V
set_option maxRecDepth 4000
end Go.Proofs
namespace Go.Proofs
open Go Go.V
set_option maxRecDepth 4000
theorem zju (w : Wld) (hw : playW w) (id k : Int) (hk : zat k) (q : Vc) (hq : q.ok) (st : Store) (R : AV -> Store -> Prop)
  (h : ∀ z : Bool, (z = true ↔ ym w id k q) -> R (V.bool z) st) : ACalls Tryz.prog 33 [.agg (wldC w), int id, int k, .agg (vecC q)] st R := by
 have f := mayF hw.1
 have hB := f.hB
 have hU := f.hU
 refine ACalls.of_body (c := cfg 14) zc Tryz.func33 (by rfl) (by rfl) (by rfl) (by rfl) ?_
 exact zgg w f.hg (by omega) f.hb (by omega) hw.2 f.hk id k hk q hq _ _ fun z hz => ret (h z hz)
theorem zek (w : Wld) (hU : w.U.length <= 1000000) (id : Int) (st : Store) (R : AV -> Store -> Prop) (h : R (int (idxI (ze6 w.U id))) st) : ACalls Tryz.prog 29 [.agg (wldC w), int id] st R := zif w hU id st R h
theorem zoc (w : Wld) (hw : playW w) {i : Nat} (hi : i < w.U.length) (id : Int) (hid : w.U[i].id = id) (st : Store) (R : AV -> Store -> Prop) (h : R (int (i : Nat)) st) : ACalls Tryz.prog 29 [.agg (wldC w), int id] st R :=
 zek w hw.sizes.2.2 id st R (by rw [yiv hw.1.1.2.1 hi hid]; exact h)
/-- What is asked of a unit that is to go, found by number. -/
theorem znj (w : Wld) (hn : ∀ u ∈ w.U, u.pos.ok) (hw : w.fits) (hU : w.U.length <= 1000000) (id : Int) (e : Int) (he : askM w id = e) (st : Store) (R : AV -> Store -> Prop) (h : R (int e) st) :
  ACalls Tryz.prog 14 [.agg (wldC w), int id] st R := by
 subst he
 refine ACalls.of_body (c := cfg 21) zc Tryz.func14 (by rfl) (by rfl) (by rfl) (by rfl) ?_
 refine zu4 w hw hn _ _ (fun y hy => ?_)
 refine yk ?_
 refine zd (fun c1 => ?_) (fun c1 => ?_)
 rotate_left
 ·rw [zq1 (fun hh => by rw [hy.2 hh] at c1; cases c1)] at h
  exact ret h
 have hm := hy.1 c1
 refine zek w hU id _ _ ?_
 cases hf : ze6 w.U id with
 | none =>
  rw [znk hm (zix hf)] at h
  exact ret h
 | some i =>
  obtain ⟨hi, hid⟩ := ziw hf
  have ea := zkw hm hi
  rw [hid] at ea
  rw [ea] at h
  refine ⟨i, rfl, za _ (zh hi) ?_⟩
  refine bcne (fun c3 => ?_) (fun c3 => ?_)
  ·rw [if_neg c3] at h
   exact ret h
  ·rw [if_pos c3] at h
   exact ret h
end Go.Proofs
namespace Go.V
theorem zud {w : Wld} {u u' : Unt} (h1 : u'.id = u.id) (h2 : u'.kind = u.kind) (h3 : u'.pos = u.pos) {v : Vc} : ∀ n k, tryL w u' v n k = tryL w u v n k := by
 intro n
 induction n with
 | zero => intro k; rfl
 | succ n ih =>
  intro k
  unfold tryL
  rw [h1, h2, h3, ih]
end Go.V
namespace Go.V
theorem zi2 {w : Wld} {u : Unt} {id k : Int} {q : Vc} (h : u.id = id) : ym (putU w u) id k q ↔ ym w id k q := by
 unfold ym
 refine and_congr Iff.rfl ?_
 constructor
 ·intro hh x hx h0 hne
  refine hh x ?_ h0 hne
  show x ∈ w.U.map _
  exact List.mem_map.2 ⟨x, hx, if_neg (by rw [h]; exact hne)⟩
 ·intro hh x hx h0 hne
  obtain ⟨y, hy, e⟩ := List.mem_map.1 (show x ∈ w.U.map _ from hx)
  by_cases hyu : y.id = u.id
  ·rw [if_pos hyu] at e
   subst e
   exact absurd h hne
  ·rw [if_neg hyu] at e
   subst e
   exact hh y hy h0 hne
theorem zfr {w : Wld} {u u' : Unt} (h : u'.id = u.id) {v : Vc} : ∀ n k, tryL (putU w u') u v n k = tryL w u v n k := by
 intro n
 induction n with
 | zero => intro k; rfl
 | succ n ih =>
  intro k
  unfold tryL
  rw [ih]
  by_cases h0 : ki v k = (0, 0)
  ·rw [if_pos h0, if_pos h0]
  ·rw [if_neg h0, if_neg h0]
   by_cases hc : ym w u.id u.kind (vadd u.pos (ki v k))
   ·rw [if_pos hc, if_pos ((zi2 h).2 hc)]
   ·rw [if_neg hc, if_neg (fun hh => hc ((zi2 h).1 hh))]
theorem yka {w : Wld} {u : Unt} {d : Vc} : (tryL w u (vnrm d) 5 0 = none -> tryK (putU w u) u d = 5 /\ tryW (putU w u) u d = putU w u) ∧
  ∀ k p, tryL w u (vnrm d) 5 0 = some (k, p) -> tryK (putU w u) u d = k /\ k < 5 /\ tryW (putU w u) u d = putU w { u with pos := p } := by
 refine ⟨fun h => ?_, fun k p h => ?_⟩
 ·exact zcp (by rw [zfr rfl]; exact h)
 ·have := zfs (w := putU w u) (u := u) (v := d) (k := k) (p := p) (by rw [zfr rfl]; exact h)
  refine ⟨this.1, by have := (zue 5 0 h).2; omega, ?_⟩
  rw [this.2, zc3 w (by rfl)]
theorem yfq {w : Wld} {u : Unt} {d : Vc} (hd : xh u.pos (cenV w.G u.next.toNat) (yl u.kind) = d) :
  (tryL w u (vnrm d) 5 0 = none -> w7 w u = if u.stuck + 1 = 8 then putU w (endU 4 u) else putU w { u with stuck := u.stuck + 1, next := -1 }) ∧
  ∀ k p, tryL w u (vnrm d) 5 0 = some (k, p) -> w7 w u = putU w { u with pos := p, stuck := 0 } := by
 have e1 : ∀ n k, tryL (putU w { u with stuck := 0 }) { u with stuck := 0 } (vnrm d) n k = tryL w u (vnrm d) n k := fun n k => by
  rw [zfr rfl]
  exact zud (u := u) (u' := { u with stuck := 0 }) rfl rfl rfl n k
 refine ⟨fun h => ?_, fun k p h => ?_⟩
 ·have h1 := zcp (w := putU w { u with stuck := 0 }) (u := { u with stuck := 0 }) (v := d) (by rw [e1]; exact h)
  unfold w7
  rw [hd, h1.1, if_neg (by decide)]
 ·have h1 := zfs (w := putU w { u with stuck := 0 }) (u := { u with stuck := 0 }) (v := d) (k := k) (p := p) (by rw [e1]; exact h)
  have h2 := (zue 5 0 h).2
  unfold w7
  rw [hd, h1.1, if_pos (by omega), h1.2, zc3 w (by rfl)]
end Go.V
namespace Go.V
section
variable {P : Program} {c : Cfg} {w : World} {st : Store} {Oth M : Nat -> Nat -> Prop}
theorem zgw {T : Nat -> Nat -> Prop} {b f n cap k : Nat} {l : List AV} (h : CellsRel w T l b) (hn : f + n * k <= l.length) :
    ∃ new : Array Value, Reads w T ((l.drop f).take (n * k)) new.toList /\ new.size = n * k /\ ∀ w', w'.heap = w.heap -> (Builtin.firstCells k n (.slice (some ⟨b, f, none⟩) n cap)).run P w' = .ok new w' := by
  obtain ⟨c, e, fr, h1, h2, h3, h4⟩ := h
  have hsz : f + n * k <= c.size := by omega
  refine ⟨((List.range' 0 (n * k)).map fun i => c.getD (f + i) undef).toArray, ?_, by simp, fun w' hw => ?_⟩
  · refine ⟨by simp; omega, fun i x y hx hy => ?_⟩
    have hi : i < n * k := by
      have := (List.getElem?_eq_some_iff.1 hx).1
      simp at this; omega
    rw [List.getElem?_take_of_lt hi, List.getElem?_drop] at hx
    simp [hi] at hy
    subst hy
    refine h4 (f + i) x _ hx ?_
    rw [Array.getElem?_eq_getElem (by omega)]
    simp [show f + i < c.size by omega]
  · have := yu (P := P) ⟨b, f, none⟩ w' (fun i => c.getD (f + i) undef) (n * k) 0 #[] (fun p _ hp => by
      rw [x5, zda hw]
      simp only [World.cell?, h1]
      have : f + p < c.size := by omega
      simp [this])
    simp only [Builtin.firstCells, loadCells]
    simpa using this
/-- An append to a slice over an object, from a place in it. -/
theorem zx8 {e : TypeId} {ie : TI} (hie : c.I e = some ie) {b f n cap : Nat} {l : List AV} {x : AV} {rows : List (List AV)} (ho : st.obj b = some (.cells l)) (hcap : f + cap * ie.size <= l.length) (hn : n <= cap)
    (hx : qf ie.size (.av x) = some rows) (hroom : room (n + rows.length) ie.bytes) {K : AV -> Store -> Prop}
    (h1 : n + rows.length <= cap -> K (.s (.slice (some ⟨b, f, none⟩) (n + rows.length) cap)) (st.setObj b (.cells (zo l (f + n * ie.size) rows.flatten))))
    (h2 : cap < n + rows.length -> ∀ b' cap', Fresh st b' -> n + rows.length <= cap' -> cap' <= 9223372036854775807 -> K (.s (.slice (some ⟨b', 0, none⟩) (n + rows.length) cap')) (st.setObj b' (.cells ((l.drop f).take (n * ie.size) ++ rows.flatten ++ List.replicate ((cap' - (n + rows.length)) * ie.size) .any)))) :
    AppX P c st e (.s (.slice (some ⟨b, f, none⟩) n cap)) x K := by
  refine ⟨⟨ie, hie⟩, fun ie' hie' Oth M w sv xv argTypes ty args t sto hs hxv hat ht1 hu hti h0 h1' => ?_⟩
  rw [hie] at hie'
  cases hie'
  have hs := VRel.eq_s hs
  subst hs
  have A : AppArgs P c argTypes args t e ie (some ⟨b, f, none⟩) n cap xv := ⟨hat, ht1, hu, hti, h0, h1'⟩
  obtain ⟨hl1, hl2, new, hnew, hone, hnsz, hfc⟩ := ks (P := P) (β := fun _ => 0) (k := ie.size) (x := .av x) hxv hx
  have hnn : f + n * ie.size <= l.length := Nat.le_trans (Nat.add_le_add_left (Nat.mul_le_mul_right _ hn) f) hcap
  by_cases hc : n + rows.length <= cap
  · obtain ⟨⟨cs, e0, fr, hb0, huf, hlen, hrel⟩, hM⟩ := sto.obj b _ ho
    have hfit : f + n * ie.size + new.toList.length <= cs.size := by
      rw [Array.length_toList, hnsz, Nat.add_assoc, <- Nat.add_mul, <- hlen]
      exact Nat.le_trans (Nat.add_le_add_left (Nat.mul_le_mul_right _ hc) f) hcap
    obtain ⟨w', hw1, hw2⟩ := qo (P := P) w b (f + n * ie.size) new.toList 0 w cs e0 fr hb0 (.inl huf) hfit hone
    have hrun := vh (w' := w') ty A hl1 (hfc w rfl) hc (fun a ha => by
      cases ha
      rw [x5]; exact hw1) (fun h => by cases h)
    obtain ⟨k1, k2⟩ := jx sto ho hnew hw2
    exact ⟨_, _, hrun, _, _, M, h1 hc, .s _, k1, k2⟩
  · have hc : cap < n + rows.length := by omega
    obtain ⟨old, hold1, hold2, hold3⟩ := zgw (P := P) (cap := cap) (sto.obj b _ ho).1 hnn
    obtain ⟨newCap, rest, g1, g0, g2, g3⟩ := jv ty A hl1 (hfc w.drew rfl) (hold3 w.drew rfl) hc hroom
    have gd : Grow w w.drew := Grow.drew w
    have sto1 := sto.grow gd
    obtain ⟨f1, f2, f3⟩ := qy sto1 (old ++ new ++ rest) e (l := (l.drop f).take (n * ie.size) ++ rows.flatten ++ List.replicate rest.size .any) (by
      rw [Array.toList_append, Array.toList_append]
      refine ((hold1.append hnew).append ⟨by simp, fun i x y hx hy => ?_⟩).keep (gd.keeps _)
      rw [List.getElem?_replicate] at hx
      split at hx
      · cases hx; exact .any _
      · cases hx)
    have e1 : w.drew.heap.size = w.heap.size := rfl
    rw [g2] at f2
    exact ⟨_, _, g3, _, _, _, h2 hc _ newCap f1 g1 g0, .s _, f2, (gd.chg M).trans f3⟩
end
end Go.V
namespace Go.V
section
variable {g : Gnd} {ok : Nat -> Bool} {c : Int} {goal : Nat} {d : Nat -> Int} {W : Nat -> Bool}
theorem zra {t : Nat} (h : SP (x7 g ok c) goal d W (fun a _ _ => a = t)) : SP (x7 g ok c) goal d W (wayO g ok c t 0) :=
 zn5 h fun a u k ha hn hE => by
  obtain ⟨_, _, w, hw, h1, _, h2, _⟩ := hE
  subst ha
  exact absurd ⟨rfl, w, Nat.zero_le _, hw, h1, h2⟩ hn
theorem zyl {t : Nat} (h : SP (x7 g ok c) goal d W (wayO g ok c t 8)) : SP (x7 g ok c) goal d W ze1 :=
 zn5 h fun a u k ha hn hE => by
  obtain ⟨_, w, h1, h2, _⟩ := ha
  omega
theorem zk2 {t i : Nat} (h : SP (x7 g ok c) goal d W (wayO g ok c t i)) (hp : ∀ u : Nat, besN g t i = u -> 0 < yr g ok c t i -> 0 <= d u /\ d u <= d t + yr g ok c t i) : SP (x7 g ok c) goal d W (wayO g ok c t (i + 1)) :=
 zn5 h fun a u k ha hn hE => by
  obtain ⟨rfl, w, h1, h2, h3, rfl⟩ := ha
  by_cases hw : w = i
  ·subst hw
   exact hp u h3 (zbx _ _ _ hE)
  ·exact absurd ⟨rfl, w, by omega, h2, h3, rfl⟩ hn
theorem yo7 {O : Nat -> Nat -> Int -> Prop} (h : SP (x7 g ok c) goal d W O) (hgoal : ok goal = true) {u : Nat} (hu : 0 <= d u) : ok u = true := by
 by_cases e : u = goal
 ·rw [e]; exact hgoal
 ·obtain ⟨t, k, _, hE, _⟩ := h.pre u e hu
  obtain ⟨_, _, _, _, _, h1, _⟩ := hE
  exact h1
end
/-- A row of tiles in memory, from a place on. -/
def QF (S : Store) (b1 b2 : Nat) (v : AV) (q : List Nat) : Prop :=
 ∃ b f cap l, v = .s (.slice (some ⟨b, f, none⟩) q.length cap) /\ S.obj b = some (.cells l) /\ f + cap <= l.length /\ q.length <= cap /\ cap <= 9223372036854775807 /\ (l.drop f).take q.length = q.map (fun t => int (t : Nat)) /\ b ≠ b1 /\ b ≠ b2
theorem QF.set1 {S : Store} {b1 b2 : Nat} {v : AV} {q : List Nat} (h : QF S b1 b2 v q) (x : AObj) : QF (S.setObj b1 x) b1 b2 v q := by
 obtain ⟨b, f, cap, l, h1, h2, h3, h4, h5, h6, h7, h8⟩ := h
 exact ⟨b, f, cap, l, h1, by rw [zf h7]; exact h2, h3, h4, h5, h6, h7, h8⟩
theorem QF.set2 {S : Store} {b1 b2 : Nat} {v : AV} {q : List Nat} (h : QF S b1 b2 v q) (x : AObj) : QF (S.setObj b2 x) b1 b2 v q := by
 obtain ⟨b, f, cap, l, h1, h2, h3, h4, h5, h6, h7, h8⟩ := h
 exact ⟨b, f, cap, l, h1, by rw [zf h8]; exact h2, h3, h4, h5, h6, h7, h8⟩
theorem ynt {l : List AV} {f t : Nat} {q : List Nat} (h : (l.drop f).take (t :: q).length = (t :: q).map (fun t => int (t : Nat))) : (l.drop (f + 0 * 1)).head? = some (int (t : Nat)) := by
 rw [Nat.zero_mul, Nat.add_zero]
 cases hd : l.drop f with
 | nil => rw [hd] at h; simp at h
 | cons x r =>
  rw [hd] at h
  simp only [List.length_cons, List.take_succ_cons, List.map_cons, List.cons.injEq] at h
  rw [h.1]
  rfl
theorem yns {l : List AV} {f t : Nat} {q : List Nat} (h : (l.drop f).take (t :: q).length = (t :: q).map (fun t => int (t : Nat))) : (l.drop (f + 1)).take q.length = q.map (fun t => int (t : Nat)) := by
 rw [<- List.drop_drop]
 cases hd : l.drop f with
 | nil => rw [hd] at h; simp at h
 | cons x r =>
  rw [hd] at h
  simp only [List.length_cons, List.take_succ_cons, List.map_cons, List.cons.injEq] at h
  exact h.2
theorem ypg {l : List AV} {f n : Nat} {x : AV} {r : List AV} (h : (l.drop f).take n = r) (hn : f + n + 1 <= l.length) : ((zo l (f + n) [x]).drop f).take (n + 1) = r ++ [x] := by
 have hl : (l.take (f + n)).length = f + n := by rw [List.length_take]; omega
 unfold zo
 rw [List.append_assoc, List.drop_append_of_le_length (by omega), List.drop_take, Nat.add_sub_cancel_left, List.take_append, List.take_of_length_le (by rw [h]; have := congrArg List.length h; simp at this; omega)]
 rw [h]
 have hr : r.length = n := by have := congrArg List.length h; simp at this; omega
 rw [hr, Nat.add_sub_cancel_left]
 rfl
theorem zjp {l xs : List AV} {o : Nat} (h : o + xs.length <= l.length) : (zo l o xs).length = l.length := by
 unfold zo
 simp
 omega
end Go.V
namespace Go.V
theorem zvi {P : Program} {c : Cfg} {e : TypeId} {ie : TI} (hie : c.I e = some ie) (hs : ie.size = 1) (hby : ie.bytes <= 1000) {S : Store} {b1 b2 : Nat} {v : AV} {q : List Nat} (hq : QF S b1 b2 v q) (hlen : q.length <= 1000000) {x1 x2 : AObj} (ho1 : S.obj b1 = some x1) (ho2 : S.obj b2 = some x2) (t : Nat) {K : AV -> Store -> Prop}
  (hK : ∀ v' S', QF S' b1 b2 v' (q ++ [t]) -> S'.obj b1 = some x1 -> S'.obj b2 = some x2 -> K v' S') : appendK P c S e (.av v) (.av (.lst 1 [[int (t : Nat)]] none)) K := by
 obtain ⟨b, f, cap, l, rfl, ho, h3, h4, h5, h6, h7, h8⟩ := hq
 have hl1 : (q ++ [t]).length = q.length + 1 := by simp
 have hm : (q ++ [t]).map (fun t => int (t : Nat)) = q.map (fun t => int (t : Nat)) ++ [int (t : Nat)] := by simp
 refine ⟨.inr ⟨_, _, rfl, rfl, ?_⟩⟩
 refine zx8 hie (l := l) (rows := [[int (t : Nat)]]) ho (by rw [hs]; omega) h4 ?_ ?_ (fun hc => ?_) (fun hc b' cap' hf hc1 hc2 => ?_)
 ·rw [hs]; rfl
 ·have : (q.length + 1) * ie.bytes <= 1000001 * 1000 := Nat.mul_le_mul (by omega) hby
  exact ⟨by simp only [List.length_singleton] at *; omega, by simp only [List.length_singleton]; omega⟩
 ·simp only [List.length_singleton] at hc
  refine hK _ _ ⟨b, f, cap, zo l (f + q.length) [int (t : Nat)], by rw [hl1]; rfl, ?_, ?_, by omega, h5, ?_, h7, h8⟩ ?_ ?_
  ·rw [zb, hs, Nat.mul_one]
   rfl
  ·rw [zjp (by simp only [List.length_singleton]; omega)]
   exact h3
  ·rw [hl1, ypg h6 (by omega), hm]
  ·rw [zf (Ne.symm h7)]; exact ho1
  ·rw [zf (Ne.symm h8)]; exact ho2
 ·have n1 : b' ≠ b1 := fun e => absurd hf.1 (by rw [e, ho1]; simp)
  have n2 : b' ≠ b2 := fun e => absurd hf.1 (by rw [e, ho2]; simp)
  simp only [List.length_singleton] at hc hc1
  have hlr : ((l.drop f).take q.length).length = q.length := by rw [h6]; simp
  refine hK _ _ ⟨b', 0, cap', _, by rw [hl1]; rfl, zb _ _ _, ?_, by omega, hc2, ?_, n1, n2⟩ ?_ ?_
  ·simp only [hs, Nat.mul_one, List.length_append, hlr, List.length_replicate, List.flatten_cons, List.flatten_nil, List.append_nil, List.length_singleton]
   omega
  ·rw [hl1, hm, List.drop_zero, hs, Nat.mul_one, h6]
   rw [List.take_append_of_le_length (by simp), List.take_of_length_le (by simp)]
   rfl
  ·rw [zf (Ne.symm n1)]; exact ho1
  ·rw [zf (Ne.symm n2)]; exact ho2
end Go.V
namespace Go.V
theorem zn6 {E : Nat -> Nat -> Int -> Prop} {goal : Nat} {d : Nat -> Int} {W W' : Nat -> Bool} {O : Nat -> Nat -> Int -> Prop} (h : SP E goal d W O) (hW : ∀ u, W u = true -> W' u = true) (hl : ∀ u, W' u = true -> 0 <= d u) : SP E goal d W' O :=
 ⟨h.lab, h.gl, h.pre, fun t u c ht hw hE hO => h.rel t u c ht (by
  cases e : W t with
  | false => rfl
  | true => rw [hW t e] at hw; cases hw) hE hO, hl⟩
/-- Who waits in a row. -/
def inQ (q : List Nat) (u : Nat) : Bool := decide (u ∈ q)
theorem inQ_iff {q : List Nat} {u : Nat} : inQ q u = true ↔ u ∈ q := decide_eq_true_iff
end Go.V
namespace Go.Proofs
open Go Go.V
set_option maxRecDepth 4000
theorem zgl {g : Gnd} {t way : Nat} (hw : way < 8) : (rws intC (jq g t))[way]? = some (intC (besN g t way)) := by
 have h8 : way < (jq g t).length := by rw [k7]; exact hw
 rw [zh h8]
 unfold besN
 rw [List.getD_eq_getElem?_getD, List.getElem?_eq_getElem h8]
 rfl
/-- What a step costs from a tile that may be stood on. -/
def yfr (g : Gnd) (ok : Nat -> Bool) (c : Int) (t way : Nat) : Int := if ok t then yr g ok c t way else 0
set_option maxHeartbeats 2000000 in
set_option maxRecDepth 20000 in
theorem zia {g : Gnd} (hg : gndP g) {l : List Bld} {c s : Int} (hc : c = 0 \/ c = 1 \/ c = 2) (t : Nat) (ht : t < g.T.length) (way : Nat) (hw : way < 8) (S : Store) (R : AV -> Store -> Prop)
  (h : R (int (yfr g (zk g l c s) c t way)) S) : ACalls Tryz.prog 106 [.agg (gndC g), zgt g l c s, int c, int (t : Nat), ints (jq g t), int (way : Nat), int (-1)] S R := by
 have hgl : ∀ u, u < g.T.length -> u < (blL g.T.length (zk g l c s)).length := fun u hu => by rw [yo]; exact hu
 have p1 := xw c (g.T[t]).toNat
 unfold yfr at h
 refine ACalls.of_body (c := cfg 113) zc Tryz.func106 (by rfl) (by rfl) (by rfl) (by rfl) ?_
 refine ⟨way, rfl, za _ (zgl hw) ?_⟩
 have hor := zex hg t hw
 have hlo := fun h => zp1 (g := g) (ok := zk g l c s) (c := c) (t := t) (w := way) h
 have hhi := fun h => zp2 (g := g) (ok := zk g l c s) (c := c) (t := t) (w := way) h
 have hno := zct (g := g) (ok := zk g l c s) (c := c) (t := t) (w := way)
 have hhn := fun h => zll (g := g) (ok := zk g l c s) (c := c) (t := t) (w := way) h
 generalize yr g (zk g l c s) c t way = E at *
 generalize hU : besN g t way = U at *
 refine bcd (fun c1 => ?_) (fun c1 => ?_)
 ·rw [hno (j1 c1), ite_self] at h
  exact ret h
 obtain ⟨u, rfl, hul⟩ : ∃ u : Nat, U = (u : Int) /\ u < g.T.length := by
  rcases hor with h1 | h1
  ·exact absurd h1 c1
  ·exact h1
 refine ⟨t, rfl, za _ (zh (hgl t ht)) ?_⟩
 rw [je ht]
 refine yk ?_
 refine zd (fun c2 => ?_) (fun c2 => ?_)
 rotate_left
 ·rw [if_neg (by rw [c2]; decide)] at h
  exact ret h
 rw [if_pos c2] at h
 refine ⟨u, rfl, za _ (zh (hgl u hul)) ?_⟩
 rw [je hul]
 refine yk ?_
 refine zd (fun c3 => ?_) (fun c3 => ?_)
 rotate_left
 ·rw [hno (by rw [xn, c3])] at h
  exact ret h
 have hfu : vd (zk g l c s) (u : Int) = true := by rw [xn, c3]
 rw [Int.toNat_natCast] at hlo hhi
 rw [zfg g c ht, zfg g c hul] at hlo hhi
 have p2 := xw c (g.T[u]).toNat
 refine ADraw.of_sched zc (by rfl) (by rfl) yhp (by rfl) ?_
 refine ⟨t, rfl, za _ (zh ht) ?_⟩
 refine ⟨u, rfl, za _ (zh hul) ?_⟩
 refine ⟨zg2 c hc g.T[t] (zkl hg ht) _ _ ⟨(by repeat (first | exact Tv | refine ⟨rfl, ?_⟩ | refine ⟨optR (optR (optR (za _ (zb _ _ _) rfl))), ?_⟩)), ?_⟩, Tv⟩
 refine ⟨zg2 c hc g.T[u] (zkl hg hul) _ _ ⟨(by repeat (first | exact Tv | refine ⟨rfl, ?_⟩ | refine ⟨optR (optR (optR (za _ (zb _ _ _) rfl))), ?_⟩)), ?_⟩, Tv⟩
 refine in64 (by omega) ?_
 refine ⟨⟨Tv, ?_⟩, Tv⟩
 generalize zar c g.T[t].toNat = P1 at *
 generalize zar c g.T[u].toNat = P2 at *
 refine bcd (fun c4 => ?_) (fun c4 => ?_)
 ·refine in64 (by omega) ?_
  rw [hlo hfu (by omega)] at h
  exact ret h
 have h4 : ¬ way < 4 := by omega
 have hhi := hhi hfu h4
 have hhn := hhn h4
 have hsi : ∀ i, i < 2 -> (way - 4 + i) % 4 < 8 := fun i _ => by omega
 have hs0 : (way - 4 + 0) % 4 = zjr way := by unfold zjr; omega
 have hs1 : (way - 4 + 1) % 4 = zjq way := by unfold zjq; omega
 refine AWp.loop (σ := Nat) ⟨fun i => [(1, .av (zgt g l c s)), (4, .av (ints (jq g t))), (5, .av (int (way : Nat))), (6, .av (int (-1))), (7, .bx 7 0), (16, .av (int (P1 + P2))), (17, .av (int (i : Nat)))], fun _ => [(7, gndC g)],
  fun i st' => i <= 2 /\ st' = S /\ ∀ j, j < i -> vd (zk g l c s) (besN g t ((way - 4 + j) % 4)) = true, fun i => 2 - i⟩ zc ?_ ?_
 ·exact ⟨0, Tv, ⟨Nat.zero_le _, rfl, fun j hj => absurd hj (Nat.not_lt_zero j)⟩, ⟨Tq, Tq, Tq, Tq, Tq, Tq, Tq, Tv⟩, ⟨rfl, Tv⟩⟩
 rintro i st' ⟨hi, rfl, hfr⟩
 dsimp only at hi hfr ⊢
 refine bcd (fun c5 => ?_) (fun c5 => ?_)
 rotate_left
 ·have : i = 2 := by omega
  subst this
  have ha := hfr 0 (by omega)
  have hb := hfr 1 (by omega)
  rw [hs0] at ha
  rw [hs1] at hb
  rw [hhi ha hb] at h
  refine in64 (by omega) ?_
  exact ret h
 have hi2 : i < 2 := by omega
 have hm : ((way : Int) - 4 + (i : Int)).tmod 4 = (((way - 4 + i) % 4 : Nat) : Int) := by
  rw [Int.tmod_eq_emod_of_nonneg (by omega)]
  omega
 have hno2 : vd (zk g l c s) (besN g t ((way - 4 + i) % 4)) = false -> R (int 0) st' := fun hh => by
  rw [hhn (by
   have : i = 0 \/ i = 1 := by omega
   rcases this with rfl | rfl
   ·rw [hs0] at hh; exact .inl hh
   ·rw [hs1] at hh; exact .inr hh)] at h
  exact h
 have hor2 := zex hg t (hsi i hi2)
 have hget := zgl (g := g) (t := t) (hsi i hi2)
 generalize hw2 : (way - 4 + i) % 4 = way2 at *
 refine in64 (by omega) ?_
 refine in64 (by omega) ?_
 refine ⟨by decide, ?_⟩
 refine ⟨way2, hm, za _ hget ?_⟩
 generalize hU2 : besN g t way2 = U2 at *
 refine bcd (fun c6 => ?_) (fun c6 => ?_)
 ·exact ret (hno2 (j1 c6))
 obtain ⟨u2, rfl, hul2⟩ : ∃ u : Nat, U2 = (u : Int) /\ u < g.T.length := by
  rcases hor2 with h1 | h1
  ·exact absurd h1 c6
  ·exact h1
 refine ⟨u2, rfl, za _ (zh (hgl u2 hul2)) ?_⟩
 rw [je hul2]
 refine yk ?_
 refine zd (fun c7 => ?_) (fun c7 => ?_)
 rotate_left
 ·exact ret (hno2 (by rw [xn, c7]))
 refine in64 (by omega) ?_
 refine ⟨i + 1, (show 2 - (i + 1) < 2 - i by omega), ⟨by omega, rfl, fun j hj => ?_⟩, ⟨Tq, Tq, Tq, Tq, Tq, Tq, Tq, Tv⟩, ⟨rfl, Tv⟩⟩
 by_cases e : j = i
 ·subst e
  rw [hw2, hU2, xn, c7]
 ·exact hfr j (by omega)
end Go.Proofs
namespace Go.Proofs
open Go Go.V
set_option maxRecDepth 4000
def zk5 (n : Nat) (W : Nat -> Bool) : Nat := sumN n fun t => if W t then 1 else 0
theorem zt0 (n : Nat) (W : Nat -> Bool) : zk5 n W <= n := by
 have := zjl (f := fun t => if W t = true then 1 else 0) (g := fun _ => 1) n (fun t _ => by split <;> omega)
 rw [zbp] at this
 unfold zk5
 omega
theorem zps {n : Nat} {W : Nat -> Bool} {u : Nat} (hu : u < n) (x : Bool) : zk5 n (updN W u x) + (if W u then 1 else 0) = zk5 n W + (if x then 1 else 0) := by
 have := zdq (f := fun t => if updN W u x t = true then 1 else 0) (g := fun t => if W t = true then 1 else 0) (u := u) n hu (fun t _ ht => by rw [z7 ht])
 simp only [zx] at this
 exact this
set_option maxHeartbeats 4000000 in
set_option maxRecDepth 20000 in
theorem yhy {g : Gnd} (hg : gndP g) {l : List Bld} {c s : Int} (hc : c = 0 \/ c = 1 \/ c = 2) (goal : Nat) (hgo : goal < g.T.length) (R : AV -> Store -> Prop)
  (h : ∀ b S, S.obj b = some (.cells (il g.T.length (farF g (zk g l c s) c goal))) -> (∀ u, (0 <= farF g (zk g l c s) c goal u -> zk g l c s u = true) /\ -1 <= farF g (zk g l c s) c goal u /\ farF g (zk g l c s) c goal u <= 2000000) -> R (.s (.slice (some ⟨b, 0, none⟩) g.T.length g.T.length)) S) :
  ACalls Tryz.prog 62 [.agg (gndC g), zgt g l c s, int c, int (goal : Nat), int (-1)] Store.empty R := by
 have ha := zr hg
 have hT : g.T.length <= 16384 := by omega
 have hgl : ∀ u, u < g.T.length -> u < (blL g.T.length (zk g l c s)).length := fun u hu => by rw [yo]; exact hu
 refine ACalls.of_body (c := cfg 133 [57, 1000057] []) zc Tryz.func62 (by rfl) (by rfl) (by rfl) (by rfl) ?_
 refine in64 (by omega) ?_
 have hwh : g.W * g.H = ((g.T.length : Nat) : Int) := by omega
 rw [hwh]
 refine qa rfl (it := ti29) (ie := ti3) rfl rfl rfl rfl rfl (n := g.T.length) ?_ ?_ (fun b hf => ?_)
 ·show 8 * g.T.length <= _; omega
 ·omega
 have il0 : List.replicate g.T.length (AV.s (.int .i64 0)) = il g.T.length (vy (-1) 0) := (zgr _).trans (kh fun t _ => (if_neg (Nat.not_lt_zero t)).symm)
 refine AWp.loop (σ := Nat) ⟨fun i => [(1, .av (zgt g l c s)), (2, .av (int c)), (3, .av (int (goal : Nat))), (4, .av (int (-1))), (5, .bx 5 0), (11, .av (.s (.slice (some ⟨b, 0, none⟩) g.T.length g.T.length))), (12, .av (int (i : Nat)))], fun _ => [(5, gndC g)],
  fun i st' => i <= g.T.length /\ st' = Store.empty.setObj b (.cells (il g.T.length (vy (-1) i))), fun i => g.T.length - i⟩ zc ?_ ?_
 ·exact ⟨0, Tv, ⟨Nat.zero_le _, by rw [<- il0]⟩, ⟨Tq, Tq, Tq, Tq, Tq, Tq, Tq, Tv⟩, ⟨rfl, Tv⟩⟩
 rintro i st' ⟨hi, rfl⟩
 dsimp only at hi ⊢
 refine zd (fun d1 => ?_) (fun d1 => ?_)
 ·have hlt : i < g.T.length := by simpa using d1
  refine ⟨i, rfl, hlt, ?_⟩
  refine zj (i := ti3) (v := int (-1)) (b := b) (o := 0 + i * 1) (l := il g.T.length (vy (-1) i)) (st2 := Store.empty.setObj b (.cells (il g.T.length (vy (-1) (i + 1))))) rfl rfl rfl (zb _ _ _) (by rw [yv]; omega) ?_ ?_
  ·rw [zg, zc7 _ _ _ _ hlt]
   congr 2
   refine kh fun t ht => ?_
   unfold updN vy
   by_cases e : t = i
   ·rw [if_pos e, if_pos (by omega)]
   ·rw [if_neg e]
    by_cases e2 : t < i
    ·rw [if_pos e2, if_pos (by omega)]
    ·rw [if_neg e2, if_neg (by omega)]
  refine in64 (by omega) ?_
  exact ⟨i + 1, (show g.T.length - (i + 1) < g.T.length - i by omega), ⟨hlt, rfl⟩, ⟨Tq, Tq, Tq, Tq, Tq, Tq, Tq, Tv⟩, ⟨rfl, Tv⟩⟩
 have : i = g.T.length := by
  have : ¬ i < g.T.length := by simpa using d1
  omega
 subst this
 rw [yjv]
 refine ⟨goal, rfl, za _ (zh (hgl goal hgo)) ?_⟩
 rw [je hgo]
 refine yk ?_
 refine zd (fun c1 => ?_) (fun c1 => ?_)
 rotate_left
 ·rw [zxj c1] at h
  exact ret (h b _ (zb _ _ _) (fun u => ⟨fun hu => absurd (show (0 : Int) <= -1 from hu) (by decide), show (-1 : Int) <= -1 by decide, show (-1 : Int) <= 2000000 by decide⟩))
 refine ⟨goal, rfl, hgo, ?_⟩
 refine zj (i := ti3) (v := int 0) (b := b) (o := 0 + goal * 1) (l := il g.T.length fun _ => -1) (st2 := Store.empty.setObj b (.cells (il g.T.length (updN (fun _ => -1) goal 0)))) rfl rfl rfl (zb _ _ _) (by rw [yv]; omega) ?_ ?_
 ·rw [zg, zc7 _ _ _ _ hgo]
 refine ⟨by decide, fun b3 hf3 => ?_⟩
 refine qa rfl (it := ti60) (ie := ti4) rfl rfl rfl rfl rfl (n := g.T.length) ?_ ?_ (fun b2 hf2 => ?_)
 ·show 1 * _ <= _; omega
 ·omega
 rw [zbj]
 have hb3 : b3 ≠ b := fun e => by
  have := hf3.1
  rw [e, zb] at this; cases this
 have hb23 : b2 ≠ b3 := fun e => by
  have := hf2.1
  rw [e, zb] at this; cases this
 have hb2 : b2 ≠ b := fun e => by
  have := hf2.1
  rw [e, zf (Ne.symm hb3), zb] at this; cases this
 have hd0 : ∀ u, updN (fun _ => (-1 : Int)) goal 0 u = if u = goal then 0 else -1 := fun u => rfl
 have hSP := ymt (x7 g (zk g l c s) c) hd0 (W := inQ [goal]) (fun u => by unfold inQ; simp)
 have hcb := zi1 hgo hd0
 have hd00 : 0 <= updN (fun _ => (-1 : Int)) goal 0 goal := by rw [zx]; exact Int.le_refl 0
 generalize updN (fun _ => (-1 : Int)) goal 0 = d0 at *
 refine AWp.loop (σ := (Nat -> Int) × (Nat -> Bool) × List Nat × AV × Store) ⟨fun x => [(1, .av (zgt g l c s)), (2, .av (int c)), (4, .av (int (-1))), (5, .bx 5 0), (11, .av (.s (.slice (some ⟨b, 0, none⟩) g.T.length g.T.length))), (13, .av x.2.2.2.1), (14, .av (.s (.slice (some ⟨b2, 0, none⟩) g.T.length g.T.length)))], fun _ => [(5, gndC g)],
  fun x st' => st' = x.2.2.2.2 /\ st'.obj b = some (.cells (il g.T.length x.1)) /\ st'.obj b2 = some (.cells (bl g.T.length x.2.1)) /\ QF st' b b2 x.2.2.2.1 x.2.2.1 /\ SP (x7 g (zk g l c s) c) goal x.1 (inQ x.2.2.1) ze1 /\ (∀ u, x.2.1 u = true -> u ∈ x.2.2.1) /\ (∀ u ∈ x.2.2.1, u < g.T.length /\ 0 <= x.1 u) /\ zg4 g.T.length x.1 /\ x.2.2.1.length <= zk5 g.T.length x.2.1 + 1, fun x => 2 * zj3 g.T.length x.1 + x.2.2.1.length⟩ zc ?_ ?_
 ·have hq0 : ∀ S : Store, S.obj b3 = some (.cells [int (goal : Nat)]) -> QF S b b2 (.s (.slice (some ⟨b3, 0, none⟩) 1 1)) [goal] := fun S hS => ⟨b3, 0, 1, [int (goal : Nat)], rfl, hS, Nat.le_refl 1, Nat.le_refl 1, by decide, rfl, hb3, Ne.symm hb23⟩
  refine ⟨(d0, fun _ => false, [goal], .s (.slice (some ⟨b3, 0, none⟩) 1 1), _), Tv, ⟨rfl, ?_, zb _ _ _, hq0 _ ?_, hSP, fun u hu => Bool.noConfusion hu, fun u hu => ?_, hcb, Nat.le_add_left 1 _⟩, ⟨Tq, Tq, Tq, Tq, Tq, Tq, Tq, Tv⟩, ⟨rfl, Tv⟩⟩
  ·rw [zf (Ne.symm hb2), zf (Ne.symm hb3), zb]
  ·rw [zf (Ne.symm hb23), zb]
   rfl
  ·have hu := List.mem_singleton.1 hu
   subst hu
   exact ⟨hgo, hd00⟩
 clear hSP hcb hd0 hd00
 rintro ⟨d, M, q, v, S⟩ st' ⟨rfl, hob, hob2, hq, hSP, hq1, hq2, hcb, hql⟩
 dsimp only at hob hob2 hq hSP hq1 hq2 hcb hql ⊢
 have hqn : q.length <= 16385 := by have := zt0 g.T.length M; omega
 cases q with
 | nil =>
  obtain ⟨bq, f, cap, lq, rfl, ho, h3, h4, h5, h6, h7, h8⟩ := hq
  have e := zo2 c1 (yo8 hSP (fun u => by unfold inQ; simp))
  exact ret (h b _ (by rw [e]; exact hob) (fun u => by
   rw [e]
   have h1 := hSP.lab u
   have h2 := zbz hcb u
   exact ⟨fun hu => yo7 hSP c1 hu, by omega, by omega⟩))
 | cons t r =>
 obtain ⟨bq, f, cap, lq, rfl, ho, h3, h4, h5, h6, h7, h8⟩ := hq
 obtain ⟨htn, hdt⟩ := hq2 t (List.mem_cons_self ..)
 refine bcd (fun c2 => ?_) (fun c2 => absurd (show (0 : Int) < ((t :: r).length : Nat) by simp only [List.length_cons]; omega) c2)
 refine ⟨0, rfl, Nat.zero_lt_succ _, ?_⟩
 refine za (o := st'.obj bq) _ ho ?_
 refine za _ (ynt h6) ?_
 refine ⟨1, (t :: r).length, rfl, rfl, by simp, h4, ?_⟩
 have hv1 : 1 < cap -> QF st' b b2 (.s (.slice (some ⟨bq, f + 1 * 1, none⟩) ((t :: r).length - 1) (cap - 1))) r := fun hc => ⟨bq, f + 1, cap - 1, lq, rfl, ho, by omega, by simp only [List.length_cons] at h4; omega, by omega, yns h6, h7, h8⟩
 have hv2 : 1 = cap -> QF st' b b2 (.s (.slice (some ⟨bq, f, none⟩) 0 0)) r := fun hc => by
  have : r = [] := by
   simp only [List.length_cons] at h4
   exact List.eq_nil_of_length_eq_zero (by omega)
  subst this
  exact ⟨bq, f, 0, lq, rfl, ho, by omega, Nat.le_refl _, by decide, rfl, h7, h8⟩
 have hcap : 1 < cap \/ 1 = cap := by simp only [List.length_cons] at h4; omega
 have hSP1 : SP (x7 g (zk g l c s) c) goal d (inQ r) (wayO g (zk g l c s) c t 0) := zra (zn6 (ymr hSP t) (fun u hu => by
  unfold updN at hu
  split at hu
  ·cases hu
  ·rename_i e
   rw [inQ_iff] at hu ⊢
   exact (List.mem_cons.1 hu).resolve_left e) (fun u hu => (hq2 u (List.mem_cons_of_mem t (inQ_iff.1 hu))).2))
 have hok := yo7 hSP c1 hdt
 have hM1 : ∀ u, updN M t false u = true -> u ∈ r := fun u hu => by
  unfold updN at hu
  split at hu
  ·cases hu
  ·rename_i e
   exact (List.mem_cons.1 (hq1 u hu)).resolve_left e
 have hr2 : ∀ u ∈ r, u < g.T.length /\ 0 <= d u := fun u hu => hq2 u (List.mem_cons_of_mem t hu)
 have hwl : r.length <= zk5 g.T.length (updN M t false) + 1 := by
  have := zps (W := M) htn false
  simp only [List.length_cons] at hql
  split at this <;> simp at this <;> omega
 have hob' := (zf (st := st') (b := b) (p := b2) (x := .cells (bl g.T.length (updN M t false))) (Ne.symm hb2)).trans hob
 have hbig := fun (d : Nat -> Int) (h : zg4 g.T.length d) => zbz h
 rcases hcap with hcap | hcap
 rotate_left
 refine .inr ⟨hcap, ?_⟩
 have hQ := (hv2 hcap).set2 (.cells (bl g.T.length (updN M t false)))
 rotate_left
 refine .inl ⟨hcap, ?_⟩
 have hQ := (hv1 hcap).set2 (.cells (bl g.T.length (updN M t false)))
 all_goals
  clear hv1 hv2
  refine ⟨t, rfl, htn, ?_⟩
  refine zj (i := ti4) (v := V.bool false) (b := b2) (o := 0 + t * 1) (l := bl g.T.length M) (st2 := st'.setObj b2 (.cells (bl g.T.length (updN M t false)))) rfl rfl rfl hob2 (by rw [xg]; omega) ?_ ?_
  ·rw [zx0 _ _ _ _ htn]
  refine wq g hg t htn _ _ ?_
  refine AWp.loop (σ := Nat × (Nat -> Int) × (Nat -> Bool) × List Nat × AV × Store) ⟨fun x => [(1, .av (zgt g l c s)), (2, .av (int c)), (4, .av (int (-1))), (5, .bx 5 0), (11, .av (.s (.slice (some ⟨b, 0, none⟩) g.T.length g.T.length))), (13, .av x.2.2.2.2.1), (14, .av (.s (.slice (some ⟨b2, 0, none⟩) g.T.length g.T.length))), (15, .av (int (t : Nat))), (16, .av (ints (jq g t))), (17, .av (int (x.1 : Nat)))], fun _ => [(5, gndC g)],
   fun x st2 => x.1 <= 8 /\ st2 = x.2.2.2.2.2 /\ st2.obj b = some (.cells (il g.T.length x.2.1)) /\ st2.obj b2 = some (.cells (bl g.T.length x.2.2.1)) /\ QF st2 b b2 x.2.2.2.2.1 x.2.2.2.1 /\ SP (x7 g (zk g l c s) c) goal x.2.1 (inQ x.2.2.2.1) (wayO g (zk g l c s) c t x.1) /\ (∀ u, x.2.2.1 u = true -> u ∈ x.2.2.2.1) /\ (∀ u ∈ x.2.2.2.1, u < g.T.length /\ 0 <= x.2.1 u) /\ 0 <= x.2.1 t /\ zg4 g.T.length x.2.1 /\ x.2.2.2.1.length <= zk5 g.T.length x.2.2.1 + 1 /\ 2 * zj3 g.T.length x.2.1 + x.2.2.2.1.length <= 2 * zj3 g.T.length d + r.length, fun x => 8 - x.1⟩ zc ?_ ?_
  ·exact ⟨(0, d, updN M t false, r, _, _), Tv, ⟨Nat.zero_le _, rfl, hob', zb _ _ _, hQ, hSP1, hM1, hr2, hdt, hcb, hwl, Nat.le_refl _⟩, ⟨Tq, Tq, Tq, Tq, Tq, Tq, Tq, Tq, Tq, Tq, Tv⟩, ⟨rfl, Tv⟩⟩
  clear hQ hSP1 hM1 hr2 hwl hob' hob hob2 hSP hq1 hq2 hcb hql hdt
  rintro ⟨i, e, M2, q, v, S2⟩ st2 ⟨hi, rfl, hob, hob2, hq, hSP, hq1, hq2, hdt, hcb, hql, hmu⟩
  dsimp only at hi hob hob2 hq hSP hq1 hq2 hdt hcb hql hmu ⊢
  refine bcd (fun c3 => ?_) (fun c3 => ?_)
  rotate_left
  ·have : i = 8 := by omega
   subst this
   refine ⟨(e, M2, q, v, st2), ?_, ⟨rfl, hob, hob2, hq, zyl hSP, hq1, hq2, hcb, hql⟩, ⟨Tq, Tq, Tq, Tq, Tq, Tq, Tq, Tv⟩, ⟨rfl, Tv⟩⟩
   show 2 * zj3 g.T.length e + q.length < 2 * zj3 g.T.length d + (t :: r).length
   simp only [List.length_cons]
   omega
  have hlt : i < 8 := by omega
  refine zia hg hc t htn i hlt _ _ ?_
  rw [show yfr g (zk g l c s) c t i = yr g (zk g l c s) c t i from if_pos hok]
  have hsb := zjm g (zk g l c s) c t i
  have hskip := zk2 hSP
  have hedge := zqv (g := g) (ok := zk g l c s) (c := c) (t := t) (way := i) hok htn hlt
  have hnote := fun (u : Nat) => yms zbx hSP (t := t) (u := u) (c := yr g (zk g l c s) c t i) hdt
  have hor := zex hg t hlt
  have hfree := fun h => zct (g := g) (ok := zk g l c s) (c := c) (t := t) (w := i) h
  have hgo2 : ∀ (e' : Nat -> Int) (M' : Nat -> Bool) (q' : List Nat), SP (x7 g (zk g l c s) c) goal e' (inQ q') (wayO g (zk g l c s) c t i) -> (∀ u : Nat, besN g t i = u -> 0 < yr g (zk g l c s) c t i -> 0 <= e' u /\ e' u <= e' t + yr g (zk g l c s) c t i) -> SP (x7 g (zk g l c s) c) goal e' (inQ q') (wayO g (zk g l c s) c t (i + 1)) := fun e' M' q' h1 h2 => zk2 h1 h2
  have hget := zgl (g := g) (t := t) hlt
  have hbt := hbig e hcb t
  generalize yr g (zk g l c s) c t i = E at *
  generalize besN g t i = U at *
  refine bceq (fun d2 => ?_) (fun d2 => ?_)
  ·refine in64 (by omega) ?_
   exact ⟨(i + 1, e, M2, q, v, st2), (show 8 - (i + 1) < 8 - i by omega), ⟨by dsimp only; omega, rfl, hob, hob2, hq, hskip (fun u _ h0 => absurd h0 (by omega)), hq1, hq2, hdt, hcb, hql, hmu⟩, ⟨Tq, Tq, Tq, Tq, Tq, Tq, Tq, Tq, Tq, Tq, Tv⟩, ⟨rfl, Tv⟩⟩
  have hE0 : 0 < E := by omega
  obtain ⟨u, rfl, hul⟩ : ∃ u : Nat, U = (u : Int) /\ u < g.T.length := by
   rcases hor with h1 | h1
   ·exact absurd (hfree (j1 h1)) d2
   ·exact h1
  have hedge := hedge hE0
  rw [Int.toNat_natCast] at hedge
  have hnote := fun h1 h2 => hnote u h1 hedge h2
  refine ⟨i, rfl, za _ hget ?_⟩
  refine ADraw.of_sched zc (by rfl) (by rfl) yf5 (by rfl) ?_
  refine ⟨u, rfl, hul, ?_⟩
  refine za (o := st2.obj b) _ hob ?_
  refine za _ (yx hul) ?_
  refine bcd (fun c4 => ?_) (fun c4 => ?_)
  rotate_left
  have hl : e u < 0 \/ e t + E < e u := .inl (by omega)
  rotate_left
  refine ⟨u, rfl, hul, ?_⟩
  refine za (o := st2.obj b) _ hob ?_
  refine za _ (yx hul) ?_
  refine ⟨t, rfl, htn, ?_⟩
  refine za (o := st2.obj b) _ hob ?_
  refine za _ (yx htn) ?_
  refine in64 (by omega) ?_
  refine bcd (fun c5 => ?_) (fun c5 => ?_)
  ·refine in64 (by omega) ?_
   exact ⟨(i + 1, e, M2, q, v, st2), (show 8 - (i + 1) < 8 - i by omega), ⟨by dsimp only; omega, rfl, hob, hob2, hq, hskip (fun u' hu' _ => by
    have : u = u' := by omega
    subst this
    exact ⟨c4, c5⟩), hq1, hq2, hdt, hcb, hql, hmu⟩, ⟨Tq, Tq, Tq, Tq, Tq, Tq, Tq, Tq, Tq, Tq, Tv⟩, ⟨rfl, Tv⟩⟩
  have hl : e u < 0 \/ e t + E < e u := .inr (by omega)
  all_goals
   have htu : t ≠ u := fun h => by subst h; rcases hl with h | h <;> omega
   have hSPn := hnote htu hl
   have hcbn := zby hcb hul hdt ⟨hE0, hsb.2⟩ hl
   have hlf := zwh hcb hul hdt ⟨hE0, hsb.2⟩ hl
   have hdtn : updN e u (e t + E) t = e t := z7 htu
   have hdun : updN e u (e t + E) u = e t + E := zx _ _ _
   have hnn : ∀ x, 0 <= e x -> 0 <= updN e u (e t + E) x := fun x hx => by
    unfold updN
    split
    ·omega
    ·exact hx
   have hob3 : (st2.setObj b (.cells (il g.T.length (updN e u (e t + E))))).obj b2 = _ := (zf hb2).trans hob2
   have hq3 := hq.set1 (.cells (il g.T.length (updN e u (e t + E))))
   refine ⟨t, rfl, htn, ?_⟩
   refine za (o := st2.obj b) _ hob ?_
   refine za _ (yx htn) ?_
   refine in64 (by omega) ?_
   refine ⟨u, rfl, hul, ?_⟩
   refine zj (i := ti3) (v := int (e t + E)) (b := b) (o := 0 + u * 1) (l := il g.T.length e) (st2 := st2.setObj b (.cells (il g.T.length (updN e u (e t + E))))) rfl rfl rfl hob (by rw [yv]; omega) ?_ ?_
   ·rw [zc7 _ _ _ _ hul]
   generalize hS3 : st2.setObj b (.cells (il g.T.length (updN e u (e t + E)))) = S3 at *
   have hob1 : S3.obj b = some (.cells (il g.T.length (updN e u (e t + E)))) := by rw [<- hS3, zb]
   generalize hed : updN e u (e t + E) = e2 at *
   refine ⟨u, rfl, hul, ?_⟩
   refine za (o := S3.obj b2) _ hob3 ?_
   refine za _ (zkt hul) ?_
   refine yk ?_
   refine zd (fun c6 => ?_) (fun c6 => ?_)
   ·refine in64 (by omega) ?_
    have hmem := hq1 u c6
    refine ⟨(i + 1, e2, M2, q, v, S3), (show 8 - (i + 1) < 8 - i by omega), ⟨by dsimp only; omega, rfl, hob1, hob3, hq3, ?_, hq1, fun x hx => ⟨(hq2 x hx).1, hnn x (hq2 x hx).2⟩, by dsimp only; omega, hcbn, hql, by dsimp only; omega⟩, ⟨Tq, Tq, Tq, Tq, Tq, Tq, Tq, Tq, Tq, Tq, Tv⟩, ⟨rfl, Tv⟩⟩
    refine hgo2 e2 (fun _ => true) _ (zn6 hSPn (fun x hx => ?_) (fun x hx => hnn x (hq2 x (inQ_iff.1 hx)).2)) (fun u' hu' _ => ?_)
    ·unfold updN at hx
     split at hx
     ·rename_i ex; subst ex; exact inQ_iff.2 hmem
     ·exact hx
    ·have : u = u' := by omega
     subst this
     omega
   refine ⟨u, rfl, hul, ?_⟩
   refine zj (i := ti4) (v := V.bool true) (b := b2) (o := 0 + u * 1) (l := bl g.T.length M2) (st2 := S3.setObj b2 (.cells (bl g.T.length (updN M2 u true)))) rfl rfl rfl hob3 (by rw [xg]; omega) ?_ ?_
   ·rw [zx0 _ _ _ _ hul]
   refine ⟨by decide, ?_⟩
   refine zvi (ie := ti3) rfl rfl (by decide) (hq3.set2 (.cells (bl g.T.length (updN M2 u true)))) (by have := zt0 g.T.length M2; omega) ((zf (Ne.symm hb2)).trans hob1) (zb _ _ _) u (fun v2 S4 g1 g2 g3 => ?_)
   have hw := zps (n := g.T.length) (W := M2) hul true
   rw [c6] at hw
   refine in64 (by omega) ?_
   refine ⟨(i + 1, e2, updN M2 u true, q ++ [u], v2, S4), (show 8 - (i + 1) < 8 - i by omega), ⟨by dsimp only; omega, rfl, g2, g3, g1, ?_, fun x hx => ?_, fun x hx => ?_, by dsimp only; omega, hcbn, ?_, ?_⟩, ⟨Tq, Tq, Tq, Tq, Tq, Tq, Tq, Tq, Tq, Tq, Tv⟩, ⟨rfl, Tv⟩⟩
   ·refine hgo2 e2 (fun _ => true) _ (zn6 hSPn (fun x hx => ?_) (fun x hx => ?_)) (fun u' hu' _ => ?_)
    ·rw [inQ_iff]
     unfold updN at hx
     split at hx
     ·rename_i ex; subst ex; simp
     ·exact List.mem_append_left _ (inQ_iff.1 hx)
    ·rcases List.mem_append.1 (inQ_iff.1 hx) with h1 | h1
     ·exact hnn x (hq2 x h1).2
     ·have := List.mem_singleton.1 h1
      subst this
      omega
    ·have : u = u' := by omega
     subst this
     omega
   ·unfold updN at hx
    dsimp only at hx
    split at hx
    ·rename_i ex; subst ex; simp
    ·exact List.mem_append_left _ (hq1 x hx)
   ·rcases List.mem_append.1 hx with h1 | h1
    ·exact ⟨(hq2 x h1).1, hnn x (hq2 x h1).2⟩
    ·have := List.mem_singleton.1 h1
     subst this
     exact ⟨hul, by dsimp only; omega⟩
   ·show (q ++ [u]).length <= zk5 g.T.length (updN M2 u true) + 1
    simp only [List.length_append, List.length_singleton]
    simp at hw
    omega
   ·show 2 * zj3 g.T.length e2 + (q ++ [u]).length <= _
    simp only [List.length_append, List.length_singleton]
    omega
end Go.Proofs
namespace Go.Proofs
open Go Go.V
set_option maxRecDepth 4000
/-- The ways of the first tiles; the others are still naught. -/
noncomputable def wayU (g : Gnd) (ok : Nat -> Bool) (c : Int) (d : Nat -> Int) (i t : Nat) : Int := if t < i then wayF g ok c d t else 0
theorem zty {g : Gnd} {ok : Nat -> Bool} {c : Int} {d : Nat -> Int} {i : Nat} : wayU g ok c d (i + 1) = updN (wayU g ok c d i) i (wayF g ok c d i) := funext fun t => by
 unfold wayU updN
 dsimp only
 by_cases h : t = i
 ·subst h; rw [if_pos (by omega), if_pos rfl]
 ·rw [if_neg h]
  by_cases h2 : t < i
  ·rw [if_pos h2, if_pos (by omega)]
  ·rw [if_neg h2, if_neg (by omega)]
theorem zt2 {α : Type} (d : Nat -> α) (u : Nat) (x y : α) : updN (updN d u x) u y = updN d u y := funext fun t => by
 unfold updN
 split <;> rfl
theorem yn6 (g : Gnd) (ok : Nat -> Bool) (c : Int) (d : Nat -> Int) (n : Nat) : il n (wayU g ok c d n) = il n (wayF g ok c d) := kh fun t ht => if_pos ht
set_option maxHeartbeats 4000000 in
set_option maxRecDepth 20000 in
theorem zvb {g : Gnd} (hg : gndP g) {l : List Bld} (hl : l.length <= 1000000000000) (hb : ∀ b ∈ l, bldP b /\ onP g b) {c s : Int} (hc : c = 0 \/ c = 1 \/ c = 2) (hs : 0 <= s) (goal : Nat) (hgo : goal < g.T.length) (R : AV -> Store -> Prop)
  (h : ∀ b S, S.obj b = some (.cells (il g.T.length (wayF g (zk g l c s) c (farF g (zk g l c s) c goal)))) -> R (.s (.slice (some ⟨b, 0, none⟩) g.T.length g.T.length)) S) :
  ACalls Tryz.prog 93 [.agg (gndC g), lst 6 bldC l, int c, int s, int (goal : Nat)] Store.empty R := by
 have ha := zr hg
 have hT : g.T.length <= 16384 := by omega
 refine ACalls.of_body (c := cfg 92) zc Tryz.func93 (by rfl) (by rfl) (by rfl) (by rfl) ?_
 refine zie g hg l hl hb c hc s hs _ _ ?_
 refine yhy hg hc goal hgo _ (fun b S hob hF => ?_)
 refine qa rfl (it := ti29) (ie := ti3) rfl rfl rfl rfl rfl (n := g.T.length) ?_ ?_ (fun b2 hf2 => ?_)
 ·show 8 * g.T.length <= _; omega
 ·omega
 have hbb : b2 ≠ b := fun e => by rw [e] at hf2; rw [hf2.1] at hob; cases hob
 generalize farF g (zk g l c s) c goal = D at *
 have il0 : List.replicate g.T.length (AV.s (.int .i64 0)) = il g.T.length (wayU g (zk g l c s) c D 0) := (zgr _).trans (kh fun t _ => (if_neg (Nat.not_lt_zero t)).symm)
 refine AWp.loop (σ := Nat) ⟨fun i => [(2, .av (int c)), (5, .bx 5 0), (11, .av (zgt g l c s)), (12, .av (.s (.slice (some ⟨b, 0, none⟩) g.T.length g.T.length))), (13, .av (.s (.slice (some ⟨b2, 0, none⟩) g.T.length g.T.length))), (14, .av (int (i : Nat)))], fun _ => [(5, gndC g)],
  fun i st' => i <= g.T.length /\ st' = S.setObj b2 (.cells (il g.T.length (wayU g (zk g l c s) c D i))), fun i => g.T.length - i⟩ zc ?_ ?_
 ·exact ⟨0, Tv, ⟨Nat.zero_le _, by rw [<- il0]⟩, ⟨Tq, Tq, Tq, Tq, Tq, Tq, Tv⟩, ⟨rfl, Tv⟩⟩
 rintro i st' ⟨hi, rfl⟩
 dsimp only at hi ⊢
 refine zd (fun d1 => ?_) (fun d1 => ?_)
 rotate_left
 ·have : i = g.T.length := by
   have : ¬ i < g.T.length := by simpa using d1
   omega
  subst this
  exact ret (h b2 _ (by rw [zb, yn6]))
 have hlt : i < g.T.length := by simpa using d1
 have hobT := fun x => (zf (st := S) (b := b) (p := b2) (x := x) (Ne.symm hbb)).trans hob
 refine ⟨i, rfl, hlt, ?_⟩
 refine zj (i := ti3) (v := int (-1)) (b := b2) (o := 0 + i * 1) (l := il g.T.length (wayU g (zk g l c s) c D i)) (st2 := S.setObj b2 (.cells (il g.T.length (updN (wayU g (zk g l c s) c D i) i (-1))))) rfl rfl rfl (zb _ _ _) (by rw [yv]; omega) ?_ ?_
 ·rw [zg, zc7 _ _ _ _ hlt]
 have hn := zty (g := g) (ok := zk g l c s) (c := c) (d := D) (i := i)
 refine ⟨i, rfl, hlt, ?_⟩
 refine za (o := (S.setObj b2 _).obj b) _ (hobT _) ?_
 refine za _ (yx hlt) ?_
 refine bcd (fun c1 => ?_) (fun c1 => ?_)
 ·rw [zpr c1] at hn
  refine in64 (by omega) ?_
  exact ⟨i + 1, (show g.T.length - (i + 1) < g.T.length - i by omega), ⟨hlt, by rw [hn]⟩, ⟨Tq, Tq, Tq, Tq, Tq, Tq, Tv⟩, ⟨rfl, Tv⟩⟩
 refine wq g hg i hlt _ _ ?_
 have hoki := (hF i).1 (by omega)
 generalize wayU g (zk g l c s) c D i = B0 at *
 refine AWp.loop (σ := Nat × Int) ⟨fun x => [(2, .av (int c)), (5, .bx 5 0), (11, .av (zgt g l c s)), (12, .av (.s (.slice (some ⟨b, 0, none⟩) g.T.length g.T.length))), (13, .av (.s (.slice (some ⟨b2, 0, none⟩) g.T.length g.T.length))), (14, .av (int (i : Nat))), (15, .av (ints (jq g i))), (16, .av (int ((x.1 : Nat) - 1 : Int)))], fun _ => [(5, gndC g)],
  fun x st' => x.1 <= 8 /\ st' = S.setObj b2 (.cells (il g.T.length (updN B0 i x.2))) /\ ((x.2 = -1 /\ ∀ w, x.1 <= w -> w < 8 -> ¬ xm g (zk g l c s) c D i w) \/ ∃ j : Nat, x.2 = (j : Int) /\ x.1 <= j /\ j < 8 /\ xm g (zk g l c s) c D i j /\ ∀ w, x.1 <= w -> w < j -> ¬ xm g (zk g l c s) c D i w), fun x => x.1⟩ zc ?_ ?_
 ·exact ⟨(8, -1), Tv, ⟨Nat.le_refl _, rfl, .inl ⟨rfl, fun w h1 h2 => absurd h2 (by omega)⟩⟩, ⟨Tq, Tq, Tq, Tq, Tq, Tq, Tq, Tq, Tv⟩, ⟨rfl, Tv⟩⟩
 rintro ⟨k, y⟩ st' ⟨hk, rfl, hy⟩
 dsimp only at hk hy ⊢
 cases k with
 | zero =>
  have hyw : y = wayF g (zk g l c s) c D i := by
   rcases hy with ⟨h1, h2⟩ | ⟨j, h1, _, h3, h4, h5⟩
   ·rw [h1, zk4 c1 (fun w hw => h2 w (Nat.zero_le _) hw)]
   ·rw [h1, zk3 c1 h3 h4 (fun w hw => h5 w (Nat.zero_le _) hw)]
  subst hyw
  refine in64 (by omega) ?_
  exact ⟨i + 1, (show g.T.length - (i + 1) < g.T.length - i by omega), ⟨hlt, by rw [hn]⟩, ⟨Tq, Tq, Tq, Tq, Tq, Tq, Tv⟩, ⟨rfl, Tv⟩⟩
 | succ w =>
 have hw : w < 8 := by omega
 rw [show (((w + 1 : Nat) : Int) - 1) = (w : Int) by omega]
 refine zia hg hc i hlt w hw _ _ ?_
 rw [show yfr g (zk g l c s) c i w = yr g (zk g l c s) c i w from if_pos hoki]
 have hgo1 : xm g (zk g l c s) c D i w ↔ (0 < yr g (zk g l c s) c i w /\ 0 <= D (besN g i w).toNat /\ yr g (zk g l c s) c i w + D (besN g i w).toNat = D i) := Iff.rfl
 have hno : ¬ xm g (zk g l c s) c D i w -> ((y = -1 /\ ∀ w', w <= w' -> w' < 8 -> ¬ xm g (zk g l c s) c D i w') \/ ∃ j : Nat, y = (j : Int) /\ w <= j /\ j < 8 /\ xm g (zk g l c s) c D i j /\ ∀ w', w <= w' -> w' < j -> ¬ xm g (zk g l c s) c D i w') := fun hn0 => by
  have key : ∀ w', w <= w' -> w' = w \/ w + 1 <= w' := fun w' h => by omega
  rcases hy with ⟨h1, h2⟩ | ⟨j, h1, h2, h3, h4, h5⟩
  ·exact .inl ⟨h1, fun w' h3 h4 => (key w' h3).elim (fun e => e ▸ hn0) (fun h => h2 w' h h4)⟩
  ·exact .inr ⟨j, h1, by omega, h3, h4, fun w' h6 h7 => (key w' h6).elim (fun e => e ▸ hn0) (fun h => h5 w' h h7)⟩
 have hsb := zjm g (zk g l c s) c i w
 have hor := zex hg i hw
 have hfree := fun h => zct (g := g) (ok := zk g l c s) (c := c) (t := i) (w := w) h
 have hget := zgl (g := g) (t := i) hw
 have hlast : xm g (zk g l c s) c D i w -> (((w : Int) = -1 /\ ∀ w', w <= w' -> w' < 8 -> ¬ xm g (zk g l c s) c D i w') \/ ∃ j : Nat, (w : Int) = (j : Int) /\ w <= j /\ j < 8 /\ xm g (zk g l c s) c D i j /\ ∀ w', w <= w' -> w' < j -> ¬ xm g (zk g l c s) c D i w') := fun hg1 => .inr ⟨w, rfl, Nat.le_refl _, hw, hg1, fun w' h1 h2 => absurd h2 (by omega)⟩
 generalize yr g (zk g l c s) c i w = E at *
 generalize besN g i w = U at *
 refine ADraw.of_sched zc (by rfl) (by rfl) yfz (by rfl) ?_
 refine bcd (fun c3 => ?_) (fun c3 => ?_)
 rotate_left
 ·refine in64 (by omega) ?_
  exact ⟨(w, y), Nat.lt_succ_self w, ⟨by dsimp only; omega, rfl, hno (fun q => c3 (hgo1.1 q).1)⟩, ⟨Tq, Tq, Tq, Tq, Tq, Tq, Tq, Tq, Tv⟩, ⟨rfl, Tv⟩⟩
 obtain ⟨u, rfl, hul⟩ : ∃ u : Nat, U = (u : Int) /\ u < g.T.length := by
  rcases hor with h1 | h1
  ·exact absurd (hfree (j1 h1)) (by omega)
  ·exact h1
 rw [Int.toNat_natCast] at hgo1
 have hDu := hF u
 refine ⟨w, rfl, za _ hget ?_⟩
 refine ⟨u, rfl, hul, ?_⟩
 refine za (o := (S.setObj b2 _).obj b) _ (hobT _) ?_
 refine za _ (yx hul) ?_
 refine bcd (fun c4 => ?_) (fun c4 => ?_)
 rotate_left
 ·refine in64 (by omega) ?_
  exact ⟨(w, y), Nat.lt_succ_self w, ⟨by dsimp only; omega, rfl, hno (fun q => c4 (hgo1.1 q).2.1)⟩, ⟨Tq, Tq, Tq, Tq, Tq, Tq, Tq, Tq, Tv⟩, ⟨rfl, Tv⟩⟩
 refine ⟨w, rfl, za _ hget ?_⟩
 refine ⟨u, rfl, hul, ?_⟩
 refine za (o := (S.setObj b2 _).obj b) _ (hobT _) ?_
 refine za _ (yx hul) ?_
 refine in64 (by omega) ?_
 refine ⟨i, rfl, hlt, ?_⟩
 refine za (o := (S.setObj b2 _).obj b) _ (hobT _) ?_
 refine za _ (yx hlt) ?_
 refine bceq (fun c5 => ?_) (fun c5 => ?_)
 rotate_left
 ·refine in64 (by omega) ?_
  exact ⟨(w, y), Nat.lt_succ_self w, ⟨by dsimp only; omega, rfl, hno (fun q => c5 (by have := (hgo1.1 q).2.2; omega))⟩, ⟨Tq, Tq, Tq, Tq, Tq, Tq, Tq, Tq, Tv⟩, ⟨rfl, Tv⟩⟩
 refine ⟨i, rfl, hlt, ?_⟩
 refine zj (i := ti3) (v := int (w : Nat)) (b := b2) (o := 0 + i * 1) (l := il g.T.length (updN B0 i y)) (st2 := S.setObj b2 (.cells (il g.T.length (updN B0 i (w : Int))))) rfl rfl rfl (zb _ _ _) (by rw [yv]; omega) ?_ ?_
 ·rw [zg, zc7 _ _ _ _ hlt, zt2]
 refine in64 (by omega) ?_
 exact ⟨(w, (w : Int)), Nat.lt_succ_self w, ⟨by dsimp only; omega, rfl, hlast (hgo1.2 ⟨c3, c4, by omega⟩)⟩, ⟨Tq, Tq, Tq, Tq, Tq, Tq, Tq, Tq, Tv⟩, ⟨rfl, Tv⟩⟩
theorem zr6 {g : Gnd} (hg : gndP g) {l : List Bld} (hl : l.length <= 1000000000000) (hb : ∀ b ∈ l, bldP b /\ onP g b) {c s : Int} (hc : c = 0 \/ c = 1 \/ c = 2) (hs : 0 <= s) (goal : Nat) (hgo : goal < g.T.length) (st : Store) (R : AV -> Store -> Prop)
  (h : ∀ b N, N.obj b = some (.cells (il g.T.length (wayF g (zk g l c s) c (farF g (zk g l c s) c goal)))) -> Disj N st -> R (.s (.slice (some ⟨b, 0, none⟩) g.T.length g.T.length)) (N.un st)) :
  ACalls Tryz.prog 93 [.agg (gndC g), lst 6 bldC l, int c, int s, int (goal : Nat)] st R := by
 rw [<- xf st]
 exact ACalls.frame (fun b hb => (hb.elim (fun h => h rfl) (fun h => h rfl) : False).elim) (zvb hg hl hb hc hs goal hgo (fun r S => ∃ b, r = .s (.slice (some ⟨b, 0, none⟩) g.T.length g.T.length) /\ S.obj b = some (.cells (il g.T.length (wayF g (zk g l c s) c (farF g (zk g l c s) c goal))))) (fun b S hS => ⟨b, rfl, hS⟩)) fun r N ⟨b, e, hN⟩ hd => by rw [e]; exact h b N hN hd
end Go.Proofs
namespace Go.Proofs
open Go Go.V
set_option maxRecDepth 4000
/-- What pushes one, off the first ones. -/
def zj9 (w : Wld) (u : Unt) (k : Nat) : Vc := (w.U.take k).foldl (fun v x => if x.inn = 0 /\ x.id ≠ u.id then vadd v (kf u.pos (kRad u.kind + kRad x.kind + 16384) x.pos) else v) (0, 0)
theorem zir {w : Wld} {u : Unt} {k : Nat} (hk : k < w.U.length) : zj9 w u (k + 1) = if w.U[k].inn = 0 /\ w.U[k].id ≠ u.id then vadd (zj9 w u k) (kf u.pos (kRad u.kind + kRad w.U[k].kind + 16384) w.U[k].pos) else zj9 w u k := by
 unfold zj9
 rw [List.take_succ_eq_append_getElem hk, List.foldl_append]
 rfl
theorem zwt (w : Wld) (u : Unt) : zj9 w u w.U.length = zbf w u := by
 unfold zj9 zbf
 rw [List.take_length]
theorem yih {w : Wld} {u : Unt} : ∀ k, k <= w.U.length -> (zj9 w u k).ok := by
 intro k
 induction k with
 | zero =>
  intro _
  have : Vc.ok (0, 0) := ⟨⟨by decide, by decide⟩, ⟨by decide, by decide⟩⟩
  exact this
 | succ k ih =>
  intro hk
  rw [zir (by omega)]
  split
  ·exact znv _ _
  ·exact ih (by omega)
set_option maxHeartbeats 4000000 in
set_option maxRecDepth 20000 in
theorem zjw (w : Wld) (hw : playW w) {i : Nat} (hi : i < w.U.length) (h0 : w.U[i].inn = 0) (st : Store) (R : AV -> Store -> Prop) (h : R (.agg (vecC (zbf w w.U[i]))) st) : ACalls Tryz.prog 49 [.agg (wldC w), int (i : Nat)] st R := by
 have f := mayF hw.1
 have hU := f.hU
 have hkd := fun (k : Nat) (hk : k < w.U.length) => f.hk _ (List.getElem_mem hk)
 have hne : ∀ (k : Nat) (hk : k < w.U.length), k ≠ i -> w.U[k].id ≠ w.U[i].id := fun k hk hki => by
  rcases Nat.lt_or_ge k i with g | g
  ·have := xd hw.1.1.2.1 g hi
   omega
  ·have := xd hw.1.1.2.1 (show i < k by omega) hk
   omega
 refine ACalls.of_body (c := cfg 55) zc Tryz.func49 (by rfl) (by rfl) (by rfl) (by rfl) ?_
 refine ⟨i, rfl, za _ (zh hi) ?_⟩
 refine jm w.U[i].kind (hkd i hi) _ _ ?_
 refine AWp.loop (σ := Nat) ⟨fun k => [(1, .av (int (i : Nat))), (2, .bx 2 0), (4, .bx 4 0), (5, .bx 5 0), (6, .av (int (kRad w.U[i].kind))), (7, .bx 7 0), (8, .av (int (k : Nat)))], fun k => [(2, wldC w), (4, [int 0, int 0]), (5, untC w.U[i]), (7, vecC (zj9 w w.U[i] k))],
  fun k st' => k <= w.U.length /\ st' = st, fun k => w.U.length - k⟩ zc ?_ ?_
 ·exact ⟨0, Tv, ⟨Nat.zero_le _, rfl⟩, ⟨Tq, Tq, Tq, Tq, Tq, Tq, Tq, Tv⟩, ⟨rfl, rfl, rfl, rfl, Tv⟩⟩
 rintro k st' ⟨hk, rfl⟩
 dsimp only at hk ⊢
 refine zd (fun d1 => ?_) (fun d1 => ?_)
 rotate_left
 ·have : k = w.U.length := x3 d1 hk
  subst this
  rw [zwt]
  exact ret h
 have hlt : k < w.U.length := qz d1
 have hnx := zir (u := w.U[i]) hlt
 have hok := yih (u := w.U[i]) k hk
 refine ⟨k, rfl, za _ (zh hlt) ?_⟩
 refine bceq (fun c1 => ?_) (fun c1 => ?_)
 ·have : k = i := by omega
  subst this
  rw [if_neg (fun q => q.2 rfl)] at hnx
  refine in64 (by omega) ?_
  exact ⟨k + 1, (show w.U.length - (k + 1) < w.U.length - k by omega), ⟨hlt, rfl⟩, ⟨Tq, Tq, Tq, Tq, Tq, Tq, Tq, Tv⟩, ⟨rfl, rfl, rfl, by (rw [hnx]; rfl), Tv⟩⟩
 refine bcne (fun c2 => ?_) (fun c2 => ?_)
 ·rw [if_neg (fun q => c2 q.1)] at hnx
  refine in64 (by omega) ?_
  exact ⟨k + 1, (show w.U.length - (k + 1) < w.U.length - k by omega), ⟨hlt, rfl⟩, ⟨Tq, Tq, Tq, Tq, Tq, Tq, Tq, Tv⟩, ⟨rfl, rfl, rfl, by (rw [hnx]; rfl), Tv⟩⟩
 rw [if_pos ⟨c2, hne k hlt (by omega)⟩] at hnx
 have r1 := zao w.U[i].kind
 have r2 := zao w.U[k].kind
 have m1 := za8 hw.1 (List.getElem_mem hi) h0
 have m2 := za8 hw.1 (List.getElem_mem hlt) c2
 have hpo : (kf w.U[i].pos (kRad w.U[i].kind + kRad w.U[k].kind + 16384) w.U[k].pos).ok := by have := zbu m1 m2 (show 0 < kRad w.U[i].kind + kRad w.U[k].kind + 16384 by omega); exact ⟨⟨by omega, by omega⟩, ⟨by omega, by omega⟩⟩
 refine ADraw.of_sched zc (by rfl) (by rfl) ynd (by rfl) ?_
 refine ⟨by decide, ?_⟩
 refine ⟨jm w.U[k].kind (hkd k hlt) _ _ ⟨(by repeat (first | exact Tv | refine ⟨rfl, ?_⟩ | refine ⟨optR (optR (optR (za _ (zb _ _ _) rfl))), ?_⟩)), ?_⟩, Tv⟩
 refine in64 (by omega) ?_
 refine in64 (by omega) ?_
 refine ⟨zrr w.U[i].pos (kRad w.U[i].kind + kRad w.U[k].kind + 16384) w.U[k].pos m1 m2 (by omega) _ _ ⟨(by repeat (first | exact Tv | refine ⟨rfl, ?_⟩ | refine ⟨optR (optR (optR (za _ (zb _ _ _) rfl))), ?_⟩)), ?_⟩, Tv⟩
 refine ⟨wo (zj9 w w.U[i] k) _ hok hpo _ _ ⟨(by repeat (first | exact Tv | refine ⟨rfl, ?_⟩ | refine ⟨optR (optR (optR (za _ (zb _ _ _) rfl))), ?_⟩)), ?_⟩, Tv⟩
 refine ⟨⟨Tv, ?_⟩, Tv⟩
 refine in64 (by omega) ?_
 exact ⟨k + 1, (show w.U.length - (k + 1) < w.U.length - k by omega), ⟨hlt, rfl⟩, ⟨Tq, Tq, Tq, Tq, Tq, Tq, Tq, Tv⟩, ⟨rfl, rfl, rfl, by (rw [hnx]; rfl), Tv⟩⟩
end Go.Proofs
namespace Go.Proofs
open Go Go.V
set_option maxRecDepth 4000
theorem zdg (l : List Unt) (hl : l.length <= 1000000) (R : AV -> Store -> Prop) (h : ∀ v N, RowsO 10 untC N v l -> R v N) : ACalls Tryz.prog 42 [lst 10 untC l] Store.empty R := by
 refine ACalls.of_body (c := cfg 19) zc Tryz.func42 (by rfl) (by rfl) (by rfl) (by rfl) ?_
 refine AWp.loop (σ := Nat × AV × Store) ⟨fun s => [(0, .av (lst 10 untC l)), (3, .av s.2.1), (4, .av (int s.1))], fun _ => [], fun s st' => s.1 <= l.length /\ st' = s.2.2 /\ RowsO 10 untC s.2.2 s.2.1 (l.take s.1), fun s => l.length - s.1⟩ zc ?_ ?_
 ·exact ⟨(0, _, Store.empty), Tv, ⟨Nat.zero_le _, rfl, .inl ⟨rfl, rfl⟩⟩, ⟨Tq, Tq, Tq, Tv⟩, Tv⟩
 ·rintro ⟨i, v, N⟩ st' ⟨hi, rfl, ha⟩
  dsimp only at hi ha ⊢
  refine zd (fun h1 => ?_) (fun h1 => ?_)
  ·have hlt : i < l.length := qz h1
   refine ⟨i, rfl, za _ (zh hlt) ?_⟩
   refine ⟨by decide, ?_⟩
   refine zpm (ie := ti51) rfl (fun _ => rfl) (by decide) ha l[i] rfl (by rw [List.length_take]; omega) (fun b cap L q1 q2 q3 q4 => ?_)
   refine ⟨⟨by omega, by omega⟩, ?_⟩
   refine ⟨(i + 1, _, _), ?_, ⟨hlt, rfl, ?_⟩, ⟨Tq, Tq, Tq, Tv⟩, Tv⟩
   ·show l.length - (i + 1) < l.length - i
    omega
   ·dsimp only
    rw [List.take_succ_eq_append_getElem hlt]
    exact .inr ⟨b, cap, L, rfl, zb _ _ _, q2, q3, q4⟩
  ·have hge : i = l.length := x3 h1 hi
   subst hge
   rw [List.take_length] at ha
   exact ret (h _ _ ha)
theorem zhq (l : List Unt) (hl : l.length <= 1000000) (st : Store) (R : AV -> Store -> Prop) (h : ∀ v N, RowsO 10 untC N v l -> Disj N st -> R v (N.un st)) : ACalls Tryz.prog 42 [lst 10 untC l] st R := by
 rw [<- xf st]
 exact ACalls.frame (zcj st) (zdg l hl (fun v N => RowsO 10 untC N v l) fun v N hv => hv) fun v N hv hd => h v N hv hd
theorem zg5 (w : Wld) (hw : w.fits) (hU : w.U.length <= 1000000) (st : Store) (R : AV -> Store -> Prop) (h : ∀ v N, RowsO 10 untC N v w.U -> Disj N st -> R (.agg (wldV w v)) (N.un st)) : ACalls Tryz.prog 13 [.agg (wldC w)] st R := by
 refine ACalls.of_body (c := cfg 18) zc Tryz.func13 (by rfl) (by rfl) (by rfl) (by rfl) ?_
 refine ve w.G hw.1 _ _ ?_
 refine zaj w.B hw.2.1 _ _ ?_
 refine zhq w.U hU _ _ (fun v N hv hd => ?_)
 have hv2 := hv
 rcases hv2 with ⟨rfl, _⟩ | ⟨b, cap, L, rfl, _⟩
 ·exact ret (h _ N hv hd)
 ·exact ret (h _ N hv hd)
/-- One cell of a unit is stored. -/
theorem zuw {g : Store} {b cap : Nat} {us : List Unt} {L : List AV} (h1 : us.length <= cap) (h2 : cap * 10 <= us.length * 10 + L.length) (h3 : cap <= 9223372036854775807) {i j : Nat} (hi : i < us.length) {ys : List AV} (hj : j + ys.length <= 10) {u' : Unt} (hu : untC u' = zo (untC us[i]) j ys) :
  RowsO 10 untC (g.setObj b (.cells (zo ((rws untC us).flatten ++ L) (0 + i * 10 + j) ys))) (.s (.slice (some ⟨b, 0, none⟩) us.length cap)) (us.set i u') := by
 refine .inr ⟨b, cap, L, by rw [List.length_set], ?_, by rw [List.length_set]; exact h1, by rw [List.length_set]; exact h2, h3⟩
 rw [zb, Nat.zero_add, w9 y5 hi hj hu]
end Go.Proofs
namespace Go.Proofs
open Go Go.V
set_option maxRecDepth 4000
/-- A copy of units that may be written themselves. -/
theorem zhr {S : Store} {v0 : AV} {l : List Unt} (hv0 : RowsQ 10 untC S v0 l) (hl : l.length <= 1000000) (R : AV -> Store -> Prop) (h : ∀ v N, RowsO 10 untC N v l -> Disj N S -> R v (N.un S)) : ACalls Tryz.prog 42 [v0] S R := by
 obtain ⟨oa, c0, rfl, hget⟩ := hv0.form
 refine ACalls.of_body (c := cfg 19) zc Tryz.func42 (by rfl) (by rfl) (by rfl) (by rfl) ?_
 refine AWp.loop (σ := Nat × AV × Store) ⟨fun s => [(0, .av (.s (.slice oa l.length c0))), (3, .av s.2.1), (4, .av (int s.1))], fun _ => [], fun s st' => s.1 <= l.length /\ st' = s.2.2.un S /\ Disj s.2.2 S /\ RowsO 10 untC s.2.2 s.2.1 (l.take s.1), fun s => l.length - s.1⟩ zc ?_ ?_
 ·exact ⟨(0, _, Store.empty), Tv, ⟨Nat.zero_le _, (xf S).symm, zcj S, .inl ⟨rfl, rfl⟩⟩, ⟨Tq, Tq, Tq, Tv⟩, Tv⟩
 ·rintro ⟨i, v, N⟩ st' ⟨hi, rfl, hd, ha⟩
  dsimp only at hi ha hd ⊢
  refine zd (fun h1 => ?_) (fun h1 => ?_)
  ·have hlt : i < l.length := by simpa using h1
   obtain ⟨b, J, rfl, ho⟩ := hget i hlt
   refine ⟨i, rfl, hlt, ?_⟩
   refine za (o := (N.un S).obj b) _ (un_r ho) ?_
   refine zm (i := ti51) (row := untC l[i]) rfl rfl (kw y5 hlt) ?_
   refine ⟨by decide, ?_⟩
   refine zpm (ie := ti51) rfl (fun _ => rfl) (by decide) (ha.unL hd) l[i] rfl (by rw [List.length_take]; omega) (fun b2 cap L q1 q2 q3 q4 => ?_)
   have hnb : ¬ S.has b2 := by
    rcases q1 with q1 | ⟨c1, q1⟩
    ·exact fresh_iff.1 (zaf q1).2
    ·subst q1
     rcases ha with ⟨e, _⟩ | ⟨b3, c3, L3, e, e2, _⟩
     ·cases e
     ·cases e
      exact hd _ (js e2)
   rw [we hnb]
   refine ⟨⟨by omega, by omega⟩, ?_⟩
   refine ⟨(i + 1, _, _), ?_, ⟨hlt, rfl, zde hd hnb, ?_⟩, ⟨Tq, Tq, Tq, Tv⟩, Tv⟩
   ·show l.length - (i + 1) < l.length - i
    omega
   ·dsimp only
    rw [List.take_succ_eq_append_getElem hlt]
    exact .inr ⟨b2, cap, L, rfl, zb _ _ _, q2, q3, q4⟩
  ·have hge : i = l.length := by
    have : ¬ i < l.length := by simpa using h1
    omega
   subst hge
   rw [List.take_length] at ha
   exact ret (h _ _ ha hd)
theorem zg6 {S : Store} {w : Wld} {v0 : AV} (hv0 : RowsQ 10 untC S v0 w.U) (hw : w.fits) (hU : w.U.length <= 1000000) (R : AV -> Store -> Prop) (h : ∀ v N, RowsO 10 untC N v w.U -> Disj N S -> R (.agg (wldV w v)) (N.un S)) : ACalls Tryz.prog 13 [.agg (wldV w v0)] S R := by
 have hv2 := hv0
 obtain ⟨oa, c0, rfl, _⟩ := hv2.form
 refine ACalls.of_body (c := cfg 18) zc Tryz.func13 (by rfl) (by rfl) (by rfl) (by rfl) ?_
 refine ve w.G hw.1 _ _ ?_
 refine zaj w.B hw.2.1 _ _ ?_
 refine zhr hv0 hU _ (fun v N hv hd => ?_)
 have hv2 := hv
 rcases hv2 with ⟨rfl, _⟩ | ⟨b, cap, L, rfl, _⟩
 ·exact ret (h _ N hv hd)
 ·exact ret (h _ N hv hd)
theorem ypf {w : World} {T : Nat -> Nat -> Prop} {x y z t : AV} {vs : List Value} (h : Reads w T [x, y, z, t] vs) : ∃ a b c d, vs = [a, b, c, d] /\ VRel w T x a /\ VRel w T y b /\ VRel w T z c /\ VRel w T t d := by
 obtain ⟨h1, h2⟩ := h
 match vs, h1, h2 with
 | [a, b, c, d], _, h2 => exact ⟨a, b, c, d, rfl, h2 0 _ _ rfl rfl, h2 1 _ _ rfl rfl, h2 2 _ _ rfl rfl, h2 3 _ _ rfl rfl⟩
theorem zlt {S : Store} {w : Wld} {v : AV} (hv : RowsQ 10 untC S v w.U) (hw : playW w) (id k : Int) (hk : zat k) (q : Vc) (hq : q.ok) (R : AV -> Store -> Prop)
  (h : ∀ z : Bool, (z = true ↔ ym w id k q) -> R (V.bool z) S) : ACalls Tryz.prog 33 [.agg (wldV w v), int id, int k, .agg (vecC q)] S R :=
 ACalls.read (ys := [.agg (wldC w), int id, int k, .agg (vecC q)]) (Q := fun r => ∃ z : Bool, r = V.bool z /\ (z = true ↔ ym w id k q)) (fun Oth M W vs sto hr => by
  obtain ⟨a, b, c, d, rfl, h1, h2, h3, h4⟩ := ypf hr
  exact Reads.cons (kp hv sto h1) (Reads.cons (yd h2) (Reads.cons (yd h3) (Reads.cons (yd h4) Reads.nil)))) (zju w hw id k hk q hq _ _ fun z hz => ⟨z, rfl, hz⟩) (fun r ⟨z, e, _⟩ => e ▸ yjw _) (fun r ⟨z, e, hz⟩ => e ▸ h z hz)
theorem zc1 {S : Store} {w : Wld} {v : AV} (hv : RowsQ 10 untC S v w.U) (hw : playW w) {i : Nat} (hi : i < w.U.length) (id : Int) (hid : w.U[i].id = id) (R : AV -> Store -> Prop) (h : R (int (i : Nat)) S) : ACalls Tryz.prog 29 [.agg (wldV w v), int id] S R :=
 ACalls.read (ys := [.agg (wldC w), int id]) (Q := fun r => r = int (i : Nat)) (fun Oth M W vs sto hr => by
  obtain ⟨x, y, rfl, h1, h2⟩ := zgf hr
  exact Reads.cons (kp hv sto h1) (Reads.cons (yd h2) Reads.nil)) (zoc w hw hi id hid _ _ rfl) (fun r hr => hr ▸ yjw _) (fun r hr => hr ▸ h)
set_option maxHeartbeats 4000000 in
set_option maxRecDepth 20000 in
theorem zh9 {S : Store} {w : Wld} {v : AV} (hv : RowsQ 10 untC S v w.U) (hw : playW w) {i : Nat} (hi : i < w.U.length) (h0 : w.U[i].inn = 0) (d : Vc) (hd : d.ok) (R : AV -> Store -> Prop)
  (h : ∀ v2 N, RowsQ 10 untC (N.un S) v2 (tryW w w.U[i] d).U -> Disj N S -> R (.tup [.agg (wldV (tryW w w.U[i] d) v2), int (tryK w w.U[i] d)]) (N.un S)) :
  ACalls Tryz.prog 31 [.agg (wldV w v), int w.U[i].id, .agg (vecC d)] S R := by
 have f := mayF hw.1
 have hU := f.hU
 have hnd := yjh hd
 have hhalf := fun k => zwx hnd k
 have t0 : znx w w.U[i] (vnrm d) 0 := rfl
 have hnone := fun (e : tryL w w.U[i] (vnrm d) 5 0 = none) => zcp e
 have hsome := fun k p (e : tryL w w.U[i] (vnrm d) 5 0 = some (k, p)) => zfs e
 have hkk := f.hk _ (List.getElem_mem hi)
 have hpk := hw.2 _ (List.getElem_mem hi)
 obtain ⟨oa, c0, ev, hget⟩ := hv.form
 obtain ⟨b, J, rfl, ho⟩ := hget i hi
 subst ev
 have hsame : tryL w w.U[i] (vnrm d) 5 0 = none -> R (.tup [.agg (wldV w (.s (.slice (some ⟨b, 0, none⟩) w.U.length c0))), int 5]) S := fun e => by
  obtain ⟨e1, e2⟩ := hnone e
  have := h (.s (.slice (some ⟨b, 0, none⟩) w.U.length c0)) Store.empty (by rw [xf, e2]; exact hv) (zcj S)
  rw [xf, e1, e2] at this
  exact this
 refine ACalls.of_body (c := cfg 74) zc Tryz.func31 (by rfl) (by rfl) (by rfl) (by rfl) ?_
 refine zc1 hv hw hi w.U[i].id rfl _ ?_
 refine ⟨i, rfl, hi, ?_⟩
 refine za (o := S.obj b) _ ho ?_
 refine zm (i := ti51) (row := untC w.U[i]) rfl rfl (kw y5 hi) ?_
 refine ADraw.of_sched zc (by rfl) (by rfl) ynk (by rfl) ?_
 refine ⟨jy d.1 _ _ ⟨(by repeat (first | exact Tv | refine ⟨rfl, ?_⟩ | refine ⟨optR (optR (optR (za _ (zb _ _ _) rfl))), ?_⟩)), ?_⟩, Tv⟩
 refine ⟨jy d.2 _ _ ⟨(by repeat (first | exact Tv | refine ⟨rfl, ?_⟩ | refine ⟨optR (optR (optR (za _ (zb _ _ _) rfl))), ?_⟩)), ?_⟩, Tv⟩
 refine ⟨⟨Tv, ?_⟩, Tv⟩
 have hT := hw.1.1.2.1
 have hR : ∀ k p, tryL w w.U[i] (vnrm d) 5 0 = some (k, p) -> ∀ v2 N, RowsQ 10 untC (N.un S) v2 (w.U.set i { w.U[i] with pos := p }) -> Disj N S -> R (.tup [.agg (wldV w v2), int (k : Int)]) (N.un S) := fun k p e v2 N h1 h2 => by
  obtain ⟨e1, e2⟩ := hsome k p e
  have e3 := qe (w := w) hT hi (u := { w.U[i] with pos := p }) rfl
  rw [e3] at e2
  have := h v2 N (by rw [e2]; exact h1) h2
  rw [e1, e2] at this
  exact this
 clear h hsome hnone
 have hhv : ∀ k, ki (vnrm d) k = ((vnrm d).1.tdiv ((2 ^ k : Nat) : Int), (vnrm d).2.tdiv ((2 ^ k : Nat) : Int)) := fun k => rfl
 refine AWp.loop (σ := Nat) ⟨fun k => [(1, .av (int w.U[i].id)), (3, .bx 3 0), (5, .bx 5 0), (6, .bx 6 0), (8, .av (int (i : Nat))), (9, .bx 9 0), (10, .av (int (k : Nat)))], fun _ => [(3, wldV w (.s (.slice (some ⟨b, 0, none⟩) w.U.length c0))), (5, vecC (vnrm d)), (6, wld0), (9, untC w.U[i])],
  fun k st' => k <= 5 /\ znx w w.U[i] (vnrm d) k /\ st' = S, fun k => 5 - k⟩ zc ?_ ?_
 ·exact ⟨0, Tv, ⟨Nat.zero_le _, t0, rfl⟩, ⟨Tq, Tq, Tq, Tq, Tq, Tq, Tq, Tv⟩, ⟨rfl, rfl, rfl, rfl, Tv⟩⟩
 rintro k st' ⟨hk, htk, rfl⟩
 dsimp only at hk htk ⊢
 generalize vnrm d = nd at *
 refine bcd (fun c1 => ?_) (fun c1 => ?_)
 rotate_left
 ·exact ret (hsame (zh2 htk (fun hq => absurd hq (by omega)) hk))
 have hk5 : k < 5 := by omega
 have hsh := zum hk5
 have hkv := hhv k
 have hh := hhalf k
 have hp2 : ((2 ^ k : Nat) : Int) ≠ 0 := by have : 0 < 2 ^ k := Nat.pow_pos (by decide); omega
 rw [<- hsh] at hkv hp2
 have hh1 : yi (nd.1.tdiv (IntKind.i64.wrap (1 * 2 ^ (min ((k : Int)).toNat IntKind.i64.bits)))) := by
  have := hh.1
  rw [hkv] at this
  exact ⟨by dsimp only at this; omega, by dsimp only at this; omega⟩
 have hh2 : yi (nd.2.tdiv (IntKind.i64.wrap (1 * 2 ^ (min ((k : Int)).toNat IntKind.i64.bits)))) := by
  have := hh.2
  rw [hkv] at this
  exact ⟨by dsimp only at this; omega, by dsimp only at this; omega⟩
 have nx := zri htk hk5
 have sm := zrh htk hk5
 have no := zh2 htk
 refine ADraw.of_sched zc (by rfl) (by rfl) ynj (by rfl) ?_
 refine ⟨by omega, ?_⟩
 refine ⟨hp2, in64 hh1 ?_⟩
 refine ⟨by omega, ?_⟩
 refine ⟨hp2, in64 hh2 ?_⟩
 refine ⟨⟨?_, ?_⟩, Tv⟩
 ·repeat (first | exact Tv | refine ⟨rfl, ?_⟩ | refine ⟨⟨by omega, rfl⟩, ?_⟩ | refine ⟨⟨hp2, in64 hh1 rfl⟩, ?_⟩ | refine ⟨⟨hp2, in64 hh2 rfl⟩, ?_⟩)
 refine ⟨⟨Tv, ?_⟩, Tv⟩
 rw [hkv] at nx sm no hh
 generalize nd.1.tdiv (IntKind.i64.wrap (1 * 2 ^ (min ((k : Int)).toNat IntKind.i64.bits))) = x at *
 generalize nd.2.tdiv (IntKind.i64.wrap (1 * 2 ^ (min ((k : Int)).toNat IntKind.i64.bits))) = y at *
 refine bceq (fun c2 => ?_) (fun c2 => ?_)
 refine bceq (fun c3 => ?_) (fun c3 => ?_)
 ·exact ret (hsame (no (fun _ => by rw [c2, c3]) hk))
 have hne : (x, y) ≠ ((0 : Int), (0 : Int)) := fun e => c3 (congrArg (fun v : Vc => v.2) e)
 rotate_left
 have hne : (x, y) ≠ ((0 : Int), (0 : Int)) := fun e => c2 (congrArg (fun v : Vc => v.1) e)
 all_goals
  refine wo w.U[i].pos (x, y) hpk (yib hh) _ _ ?_
  have nx := nx hne
  have sm := sm hne
  have hnp := znv w.U[i].pos (x, y)
  generalize vadd w.U[i].pos (x, y) = np at *
  refine zlt hv hw w.U[i].id w.U[i].kind hkk np hnp _ (fun z hz => ?_)
  refine zd (fun c4 => ?_) (fun c4 => ?_)
  rotate_left
  ·refine in64 (by omega) ?_
   exact ⟨k + 1, (show 5 - (k + 1) < 5 - k by omega), ⟨by omega, nx (fun hc => by rw [hz.2 hc] at c4; cases c4), rfl⟩, ⟨Tq, Tq, Tq, Tq, Tq, Tq, Tq, Tv⟩, ⟨rfl, rfl, rfl, rfl, Tv⟩⟩
  have hRk := hR _ _ (sm (hz.1 c4))
  refine zg6 hv (mayF hw.1).fits (by omega) _ (fun v2 N hv2 hd2 => ?_)
  rcases hv2 with ⟨_, e⟩ | ⟨b2, cap, L, rfl, ho2, g1, g2, g3⟩
  ·rw [e] at hi; exact absurd hi (Nat.not_lt_zero i)
  have hnb : ¬ st'.has b2 := hd2 _ (js ho2)
  have hlen : 0 + i * 10 + 3 + 2 <= ((rws untC w.U).flatten ++ L).length := by
   rw [List.length_append, y9 y5]
   omega
  have hrow := zuw (g := N) (b := b2) (L := L) g1 g2 g3 hi (j := 3) (ys := vecC np) (show 3 + 2 <= 10 by decide) (u' := { w.U[i] with pos := np }) rfl
  refine ⟨i, rfl, hi, ?_⟩
  refine yw (i := ti49) (v := .agg (vecC np)) (xs := vecC np) (b := b2) (o := 0 + i * 10 + 3) (l := (rws untC w.U).flatten ++ L) rfl rfl rfl (un_l hd2 ho2) hlen ?_
  rw [we hnb]
  exact ret (hRk _ _ (RowsO.q (hrow.unL (zde hd2 hnb))) (zde hd2 hnb))
end Go.Proofs
namespace Go.Proofs
open Go Go.V
set_option maxRecDepth 4000
theorem zb5 {S : Store} {w : Wld} {v : AV} (hv : RowsQ 10 untC S v w.U) (hw : playW w) {i : Nat} (hi : i < w.U.length) (h0 : w.U[i].inn = 0) (R : AV -> Store -> Prop) (h : R (.agg (vecC (zbf w w.U[i]))) S) : ACalls Tryz.prog 49 [.agg (wldV w v), int (i : Nat)] S R :=
 ACalls.read (ys := [.agg (wldC w), int (i : Nat)]) (Q := fun r => r = .agg (vecC (zbf w w.U[i]))) (fun Oth M W vs sto hr => by
  obtain ⟨x, y, rfl, h1, h2⟩ := zgf hr
  exact Reads.cons (kp hv sto h1) (Reads.cons (yd h2) Reads.nil)) (zjw w hw hi h0 _ _ rfl) (fun r hr => hr ▸ zxc [.int .i64 _, .int .i64 _]) (fun r hr => hr ▸ h)
theorem zfi {P : Program} {c : Cfg} {e : TypeId} {ie : TI} (hie : c.I e = some ie) (hs : ie.size = 1) (hby : ie.bytes <= 1000) {S : Store} {x : Value} (hx : qf ie.size (.av (.lst 1 [[AV.s x]] none)) = some [[AV.s x]]) {K : AV -> Store -> Prop}
  (h : ∀ b' cap' S', (∀ i y, S.obj i = some y -> S'.obj i = some y) -> K (.s (.slice (some ⟨b', 0, none⟩) 1 cap')) S') : appendK P c S e (.av nil) (.av (.lst 1 [[AV.s x]] none)) K := by
 refine ⟨.inr ⟨nil, _, rfl, rfl, zkx (rows := [[AV.s x]]) hie hx ?_ (show 0 < 1 by decide) (fun b' cap' hf h1 h2 => ?_)⟩⟩
 ·exact ⟨by simp only [List.length_singleton]; omega, by simp⟩
 ·refine h b' cap' _ (fun i y hy => ?_)
  have : i ≠ b' := fun e => by rw [e, hf.1] at hy; cases hy
  rw [zf this]
  exact hy
set_option maxHeartbeats 4000000 in
set_option maxRecDepth 20000 in
theorem zxi {fb : Nat} {w : Wld} (hm : mayP w) (oa : Option Addr) (n0 c0 : Nat) {c s : Int} (hc : c = 0 \/ c = 1 \/ c = 2) (hs : 0 <= s) (goal : Nat) (hgo : goal < w.G.T.length) (R : AV -> Store -> Prop)
  (h : ∀ b S, S.obj b = some (.cells (il w.G.T.length (wayF w.G (zk w.G w.B c s) c (farF w.G (zk w.G w.B c s) c goal)))) -> R (.s (.slice (some ⟨b, 0, none⟩) w.G.T.length w.G.T.length)) S) :
  ACalls Tryz.prog 53 [ptr fb, .agg (wldV w (.s (.slice oa n0 c0))), int c, int s, int (goal : Nat)] (Store.empty.setObj fb (.cells [nil, nil, nil, nil])) R := by
 have f := mayF hm
 have hB := f.hB
 have hfo : (Store.empty.setObj fb (.cells [nil, nil, nil, nil])).obj fb = _ := zb _ _ _
 refine ACalls.of_body (c := cfg 109) zc Tryz.func53 (by rfl) (by rfl) (by rfl) (by rfl) ?_
 refine AWp.loop (σ := Unit) ⟨fun _ => [(0, .av (ptr fb)), (2, .av (int c)), (3, .av (int s)), (4, .av (int (goal : Nat))), (6, .bx 6 0), (11, .av (int 0))], fun _ => [(6, wldV w (.s (.slice oa n0 c0)))],
  fun _ st' => st' = Store.empty.setObj fb (.cells [nil, nil, nil, nil]), fun _ => 0⟩ zc ?_ ?_
 ·exact ⟨(), Tv, rfl, ⟨Tq, Tq, Tq, Tq, Tq, Tq, Tv⟩, ⟨rfl, Tv⟩⟩
 rintro _ st' rfl
 refine za (o := (Store.empty.setObj fb (.cells [nil, nil, nil, nil])).obj fb) _ hfo ?_
 refine zr6 f.hg (by omega) f.hb hc hs goal hgo _ _ (fun b N hN hd => ?_)
 have hbf : fb ≠ b := fun e => hd b (js hN) (by rw [<- e]; exact js hfo)
 have hob : (N.un (Store.empty.setObj fb (.cells [nil, nil, nil, nil]))).obj b = _ := un_l hd hN
 have hfb : (N.un (Store.empty.setObj fb (.cells [nil, nil, nil, nil]))).obj fb = _ := un_r hfo
 clear hN hd
 generalize N.un (Store.empty.setObj fb (.cells [nil, nil, nil, nil])) = S at *
 refine ADraw.of_sched zc (by rfl) (by rfl) ynb (by rfl) ?_
 refine za (o := S.obj fb) _ hfb ?_
 refine ⟨by decide, ?_⟩
 refine za (o := S.obj fb) _ hfb ?_
 refine ⟨by decide, ?_⟩
 refine za (o := S.obj fb) _ hfb ?_
 refine ⟨by decide, ?_⟩
 refine ⟨?_, Tv⟩
 refine zfi (ie := ti3) rfl rfl (by decide) rfl (fun b1 n1 S1 g1 => ?_)
 have hfb1 := g1 _ _ hfb
 have hob1 := g1 _ _ hob
 clear g1 hfb hob
 refine ⟨(by repeat (first | exact Tv | refine ⟨rfl, ?_⟩ | refine ⟨za (o := S1.obj fb) _ hfb1 rfl, ?_⟩)), ?_⟩
 refine ⟨?_, Tv⟩
 refine zfi (ie := ti3) rfl rfl (by decide) rfl (fun b2 n2 S2 g2 => ?_)
 have hfb2 := g2 _ _ hfb1
 have hob2 := g2 _ _ hob1
 clear g2 hfb1 hob1
 refine ⟨(by repeat (first | exact Tv | refine ⟨rfl, ?_⟩ | refine ⟨za (o := S2.obj fb) _ hfb2 rfl, ?_⟩)), ?_⟩
 refine ⟨?_, Tv⟩
 refine zfi (ie := ti3) rfl rfl (by decide) rfl (fun b3 n3 S3 g3 => ?_)
 have hfb3 := g3 _ _ hfb2
 have hob3 := g3 _ _ hob2
 clear g3 hfb2 hob2
 refine ⟨(by repeat (first | exact Tv | refine ⟨rfl, ?_⟩ | refine ⟨za (o := S3.obj fb) _ hfb3 rfl, ?_⟩)), ?_⟩
 refine ⟨?_, Tv⟩
 have hst1 : ∀ x, (S3.setObj fb x).obj b = _ := fun x => (zf (Ne.symm hbf)).trans hob3
 refine za _ rfl (zv rfl (zy (v := .s (.slice (some ⟨b1, 0, none⟩) 1 n1)) rfl rfl rfl rfl ?_))
 refine zj (i := ti29) (v := .s (.slice (some ⟨b1, 0, none⟩) 1 n1)) (b := fb) (o := 0) (l := [nil, nil, nil, nil]) (st2 := S3.setObj fb (.cells [.s (.slice (some ⟨b1, 0, none⟩) 1 n1), nil, nil, nil])) rfl rfl rfl hfb3 (by decide) rfl ?_
 refine ⟨(by repeat (first | exact Tv | refine ⟨rfl, ?_⟩)), ?_⟩
 refine ⟨?_, Tv⟩
 refine za _ rfl (zv rfl (zy (v := .s (.slice (some ⟨b2, 0, none⟩) 1 n2)) rfl rfl rfl rfl ?_))
 refine zj (i := ti29) (v := .s (.slice (some ⟨b2, 0, none⟩) 1 n2)) (b := fb) (o := 1) (l := [.s (.slice (some ⟨b1, 0, none⟩) 1 n1), nil, nil, nil]) (st2 := S3.setObj fb (.cells [.s (.slice (some ⟨b1, 0, none⟩) 1 n1), .s (.slice (some ⟨b2, 0, none⟩) 1 n2), nil, nil])) rfl rfl rfl (zb _ _ _) (show 2 <= 4 by decide) (zg _ _ _ _) ?_
 refine ⟨(by repeat (first | exact Tv | refine ⟨rfl, ?_⟩)), ?_⟩
 refine ⟨?_, Tv⟩
 refine za _ rfl (zv rfl (zy (v := .s (.slice (some ⟨b3, 0, none⟩) 1 n3)) rfl rfl rfl rfl ?_))
 refine zj (i := ti29) (v := .s (.slice (some ⟨b3, 0, none⟩) 1 n3)) (b := fb) (o := 2) (l := [.s (.slice (some ⟨b1, 0, none⟩) 1 n1), .s (.slice (some ⟨b2, 0, none⟩) 1 n2), nil, nil]) (st2 := S3.setObj fb (.cells [.s (.slice (some ⟨b1, 0, none⟩) 1 n1), .s (.slice (some ⟨b2, 0, none⟩) 1 n2), .s (.slice (some ⟨b3, 0, none⟩) 1 n3), nil])) rfl rfl rfl (zb _ _ _) (show 3 <= 4 by decide) (zg _ _ _ _) ?_
 refine ⟨Tv, ?_⟩
 refine za (o := (S3.setObj fb (.cells [.s (.slice (some ⟨b1, 0, none⟩) 1 n1), .s (.slice (some ⟨b2, 0, none⟩) 1 n2), .s (.slice (some ⟨b3, 0, none⟩) 1 n3), nil])).obj fb) _ (zb _ _ _) ?_
 refine ⟨by decide, ?_⟩
 refine zfi (ie := ti29) rfl rfl (by decide) rfl (fun b4 n4 S4 g4 => ?_)
 have hfb4 := g4 _ _ (zb S3 fb (.cells [.s (.slice (some ⟨b1, 0, none⟩) 1 n1), .s (.slice (some ⟨b2, 0, none⟩) 1 n2), .s (.slice (some ⟨b3, 0, none⟩) 1 n3), nil]))
 have hob4 := g4 _ _ (hst1 _)
 refine jj (i := ti43) (v := .s (.slice (some ⟨b4, 0, none⟩) 1 n4)) (b := fb) (o := 3) (l := [.s (.slice (some ⟨b1, 0, none⟩) 1 n1), .s (.slice (some ⟨b2, 0, none⟩) 1 n2), .s (.slice (some ⟨b3, 0, none⟩) 1 n3), nil]) rfl rfl rfl hfb4 (show 4 <= 4 by decide) ?_
 exact ret (h b _ ((zf (Ne.symm hbf)).trans hob4))
end Go.Proofs
namespace Go.Proofs
open Go Go.V
set_option maxRecDepth 4000
/-- One cell of a unit is stored, in a list of units in memory. -/
theorem vz {l : List Unt} {L : List AV} {i j : Nat} (hi : i < l.length) (hj : j + 1 <= 10) {y : AV} {u' : Unt} (hu : untC u' = zo (untC l[i]) j [y]) : zo ((rws untC l).flatten ++ L) (0 + i * 10 + j) [y] = (rws untC (l.set i u')).flatten ++ L := by
 rw [Nat.zero_add]
 exact w9 y5 hi hj hu
theorem zaa {l : List Unt} {L : List AV} {i j : Nat} (hi : i < l.length) (hj : j + 1 <= 10) : 0 + i * 10 + j + 1 <= ((rws untC l).flatten ++ L).length := by
 rw [List.length_append, y9 y5]
 omega
set_option maxHeartbeats 2000000 in
theorem zdu {S : Store} {b i : Nat} {l : List Unt} {L : List AV} (ho : S.obj b = some (.cells ((rws untC l).flatten ++ L))) (hi : i < l.length) (s : Int) (R : AV -> Store -> Prop)
  (h : R (.tup []) (S.setObj b (.cells ((rws untC (l.set i (endU s l[i]))).flatten ++ L)))) :
  ACalls Tryz.prog 50 [.s (.pointer (some ⟨b, 0 + i * 10, none⟩)), int s] S R := by
 have e1 := vz (L := L) hi (j := 5) (by decide) (y := int (-1)) (u' := { l[i] with goal := -1 }) rfl
 have hi1 : i < (l.set i { l[i] with goal := -1 }).length := by rw [List.length_set]; exact hi
 have e2 := vz (L := L) hi1 (j := 6) (by decide) (y := int (-1)) (u' := { l[i] with goal := -1, next := -1 }) (by rw [List.getElem_set_self]; rfl)
 rw [List.set_set] at e2
 have hi2 : i < (l.set i { l[i] with goal := -1, next := -1 }).length := by rw [List.length_set]; exact hi
 have e3 := vz (L := L) hi2 (j := 7) (by decide) (y := int 0) (u' := { l[i] with goal := -1, next := -1, stuck := 0 }) (by rw [List.getElem_set_self]; rfl)
 rw [List.set_set] at e3
 have hi3 : i < (l.set i { l[i] with goal := -1, next := -1, stuck := 0 }).length := by rw [List.length_set]; exact hi
 have e4 := vz (L := L) hi3 (j := 9) (by decide) (y := int s) (u' := endU s l[i]) (by rw [List.getElem_set_self]; rfl)
 rw [List.set_set] at e4
 refine ACalls.of_body (c := cfg 17) zc Tryz.func50 (by rfl) (by rfl) (by rfl) (by rfl) ?_
 refine zj (i := ti3) (v := int (-1)) (b := b) (o := 0 + i * 10 + 5) (l := (rws untC l).flatten ++ L) (st2 := S.setObj b (.cells ((rws untC (l.set i { l[i] with goal := -1 })).flatten ++ L))) rfl rfl rfl ho (zaa hi (by decide)) (by rw [e1]) ?_
 refine zj (i := ti3) (v := int (-1)) (b := b) (o := 0 + i * 10 + 6) (l := _) (st2 := S.setObj b (.cells ((rws untC (l.set i { l[i] with goal := -1, next := -1 })).flatten ++ L))) rfl rfl rfl (zb _ _ _) (zaa hi1 (by decide)) (by rw [e2, zg]) ?_
 refine zj (i := ti3) (v := int 0) (b := b) (o := 0 + i * 10 + 7) (l := _) (st2 := S.setObj b (.cells ((rws untC (l.set i { l[i] with goal := -1, next := -1, stuck := 0 })).flatten ++ L))) rfl rfl rfl (zb _ _ _) (zaa hi2 (by decide)) (by rw [e3, zg]) ?_
 refine zj (i := ti3) (v := int s) (b := b) (o := 0 + i * 10 + 9) (l := _) (st2 := S.setObj b (.cells ((rws untC (l.set i (endU s l[i]))).flatten ++ L))) rfl rfl rfl (zb _ _ _) (zaa hi3 (by decide)) (by rw [e4, zg]) ?_
 exact ret h
end Go.Proofs
