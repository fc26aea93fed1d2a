/- Ground of laws of thronglaw24: contracts and plain lemmas; no condition beyond the row's own. -/
import Derived.Test.YtieceacpbjcddaaGreatKJ
set_option linter.unusedSimpArgs false
set_option linter.unusedVariables false
set_option linter.defProp false
namespace Go.V
section
variable {P : Program} {c : Cfg} {w : World} {st : Store} {Oth M : Nat -> Nat -> Prop}
theorem zud {T : Nat -> Nat -> Prop} {b f n cap k : Nat} {l : List AV} (h : CellsRel w T l b) (hn : f + n * k <= l.length) :
    ∃ new : Array Value, Reads w T ((l.drop f).take (n * k)) new.toList /\ new.size = n * k /\ ∀ w', w'.heap = w.heap -> (Builtin.firstCells k n (.slice (some ⟨b, f, none⟩) n cap)).run P w' = .ok new w' := by
  obtain ⟨c, e, fr, h1, h2, h3, h4⟩ := h
  have hsz : f + n * k <= c.size := by omega
  refine ⟨((List.range' 0 (n * k)).map fun i => c.getD (f + i) undef).toArray, ?_, by simp, fun w' hw => ?_⟩
  · refine ⟨by simp; omega, fun i x y hx hy => ?_⟩
    have hi : i < n * k := by
      have := (List.getElem?_eq_some_iff.1 hx).1
      simp at this; omega
    rw [List.getElem?_take_of_lt hi, List.getElem?_drop] at hx
    simp [hi] at hy
    subst hy
    refine h4 (f + i) x _ hx ?_
    rw [Array.getElem?_eq_getElem (by omega)]
    simp [show f + i < c.size by omega]
  · have := Dq (P := P) ⟨b, f, none⟩ w' (fun i => c.getD (f + i) undef) (n * k) 0 #[] (fun p _ hp => by
      rw [x8, K5 hw]
      simp only [World.cell?, h1]
      have : f + p < c.size := by omega
      simp [this])
    simp only [Builtin.firstCells, loadCells]
    simpa using this
/-- An append to a slice over an object, from a place in it. -/
theorem zw8 {e : TypeId} {ie : TI} (hie : c.I e = some ie) {b f n cap : Nat} {l : List AV} {x : AV} {rows : List (List AV)} (ho : st.obj b = some (.cells l)) (hcap : f + cap * ie.size <= l.length) (hn : n <= cap)
    (hx : jc ie.size (.av x) = some rows) (hroom : room (n + rows.length) ie.bytes) {K : AV -> Store -> Prop}
    (h1 : n + rows.length <= cap -> K (.s (.slice (some ⟨b, f, none⟩) (n + rows.length) cap)) (st.setObj b (.cells (z7 l (f + n * ie.size) rows.flatten))))
    (h2 : cap < n + rows.length -> ∀ b' cap', Fresh st b' -> n + rows.length <= cap' -> cap' <= 9223372036854775807 -> K (.s (.slice (some ⟨b', 0, none⟩) (n + rows.length) cap')) (st.setObj b' (.cells ((l.drop f).take (n * ie.size) ++ rows.flatten ++ List.replicate ((cap' - (n + rows.length)) * ie.size) .any)))) :
    AppX P c st e (.s (.slice (some ⟨b, f, none⟩) n cap)) x K := by
  refine ⟨⟨ie, hie⟩, fun ie' hie' Oth M w sv xv argTypes ty args t sto hs hxv hat ht1 hu hti h0 h1' => ?_⟩
  rw [hie] at hie'
  cases hie'
  have hs := VRel.eq_s hs
  subst hs
  have A : AppArgs P c argTypes args t e ie (some ⟨b, f, none⟩) n cap xv := ⟨hat, ht1, hu, hti, h0, h1'⟩
  obtain ⟨hl1, hl2, new, hnew, hone, hnsz, hfc⟩ := Dn (P := P) (β := fun _ => 0) (k := ie.size) (x := .av x) hxv hx
  have hnn : f + n * ie.size <= l.length := Nat.le_trans (Nat.add_le_add_left (Nat.mul_le_mul_right _ hn) f) hcap
  by_cases hc : n + rows.length <= cap
  · obtain ⟨⟨cs, e0, fr, hb0, huf, hlen, hrel⟩, hM⟩ := sto.obj b _ ho
    have hfit : f + n * ie.size + new.toList.length <= cs.size := by
      rw [Array.length_toList, hnsz, Nat.add_assoc, <- Nat.add_mul, <- hlen]
      exact Nat.le_trans (Nat.add_le_add_left (Nat.mul_le_mul_right _ hc) f) hcap
    obtain ⟨w', hw1, hw2⟩ := F0 (P := P) w b (f + n * ie.size) new.toList 0 w cs e0 fr hb0 (.inl huf) hfit hone
    have hrun := Ik (w' := w') ty A hl1 (hfc w rfl) hc (fun a ha => by
      cases ha
      rw [x8]; exact hw1) (fun h => by cases h)
    obtain ⟨k1, k2⟩ := Ai sto ho hnew hw2
    exact ⟨_, _, hrun, _, _, M, h1 hc, .s _, k1, k2⟩
  · have hc : cap < n + rows.length := by omega
    obtain ⟨old, hold1, hold2, hold3⟩ := zud (P := P) (cap := cap) (sto.obj b _ ho).1 hnn
    obtain ⟨newCap, rest, g1, g0, g2, g3⟩ := G5 ty A hl1 (hfc w.drew rfl) (hold3 w.drew rfl) hc hroom
    have gd : Grow w w.drew := Grow.drew w
    have sto1 := sto.grow gd
    obtain ⟨f1, f2, f3⟩ := Cq sto1 (old ++ new ++ rest) e (l := (l.drop f).take (n * ie.size) ++ rows.flatten ++ List.replicate rest.size .any) (by
      rw [Array.toList_append, Array.toList_append]
      refine ((hold1.append hnew).append ⟨by simp, fun i x y hx hy => ?_⟩).keep (gd.keeps _)
      rw [List.getElem?_replicate] at hx
      split at hx
      · cases hx; exact .any _
      · cases hx)
    have e1 : w.drew.heap.size = w.heap.size := rfl
    rw [g2] at f2
    exact ⟨_, _, g3, _, _, _, h2 hc _ newCap f1 g1 g0, .s _, f2, (gd.chg M).trans f3⟩
end
end Go.V
namespace Go.V
section
variable {g : Gnd} {ok : Nat -> Bool} {c : Int} {goal : Nat} {d : Nat -> Int} {W : Nat -> Bool}
theorem l4 {t : Nat} (h : SP (y4 g ok c) goal d W (fun a _ _ => a = t)) : SP (y4 g ok c) goal d W (ku g ok c t 0) :=
 Nq h fun a u k ha hn hE => by
  obtain ⟨_, _, w, hw, h1, _, h2, _⟩ := hE
  subst ha
  exact absurd ⟨rfl, w, Nat.zero_le _, hw, h1, h2⟩ hn
theorem l5 {t : Nat} (h : SP (y4 g ok c) goal d W (ku g ok c t 8)) : SP (y4 g ok c) goal d W vz :=
 Nq h fun a u k ha hn hE => by
  obtain ⟨_, w, h1, h2, _⟩ := ha
  omega
theorem Rz {t i : Nat} (h : SP (y4 g ok c) goal d W (ku g ok c t i)) (hp : ∀ u : Nat, zo g t i = u -> 0 < yb g ok c t i -> 0 <= d u /\ d u <= d t + yb g ok c t i) : SP (y4 g ok c) goal d W (ku g ok c t (i + 1)) :=
 Nq h fun a u k ha hn hE => by
  obtain ⟨rfl, w, h1, h2, h3, rfl⟩ := ha
  by_cases hw : w = i
  ·grind[Bw]
  ·exact absurd ⟨rfl, w, by omega, h2, h3, rfl⟩ hn
theorem Vi {O : Nat -> Nat -> Int -> Prop} (h : SP (y4 g ok c) goal d W O) (hgoal : ok goal = true) {u : Nat} (hu : 0 <= d u) : ok u = true := by
 by_cases e : u = goal
 ·rw [e]; exact hgoal
 ·obtain ⟨t, k, _, hE, _⟩ := h.pre u e hu
  obtain ⟨_, _, _, _, _, h1, _⟩ := hE
  exact h1
end
/-- A row of tiles in memory, from a place on. -/
def QF (S : Store) (b1 b2 : Nat) (v : AV) (q : List Nat) : Prop :=
 ∃ b f cap l, v = .s (.slice (some ⟨b, f, none⟩) q.length cap) /\ S.obj b = some (.cells l) /\ f + cap <= l.length /\ q.length <= cap /\ cap <= 9223372036854775807 /\ (l.drop f).take q.length = q.map (fun t => int (t : Nat)) /\ b ≠ b1 /\ b ≠ b2
theorem QF.set1 {S : Store} {b1 b2 : Nat} {v : AV} {q : List Nat} (h : QF S b1 b2 v q) (x : AObj) : QF (S.setObj b1 x) b1 b2 v q := by
 obtain ⟨b, f, cap, l, h1, h2, h3, h4, h5, h6, h7, h8⟩ := h
 exact ⟨b, f, cap, l, h1, by rw [zw h7]; exact h2, h3, h4, h5, h6, h7, h8⟩
theorem QF.set2 {S : Store} {b1 b2 : Nat} {v : AV} {q : List Nat} (h : QF S b1 b2 v q) (x : AObj) : QF (S.setObj b2 x) b1 b2 v q := by
 obtain ⟨b, f, cap, l, h1, h2, h3, h4, h5, h6, h7, h8⟩ := h
 exact ⟨b, f, cap, l, h1, by rw [zw h8]; exact h2, h3, h4, h5, h6, h7, h8⟩
theorem zo8 {l : List AV} {f t : Nat} {q : List Nat} (h : (l.drop f).take (t :: q).length = (t :: q).map (fun t => int (t : Nat))) : (l.drop (f + 0 * 1)).head? = some (int (t : Nat)) := by
 rw [Nat.zero_mul, Nat.add_zero]
 cases hd : l.drop f with
 | nil => rw [hd] at h; simp at h
 | cons x r =>
  grind
theorem zo6 {l : List AV} {f t : Nat} {q : List Nat} (h : (l.drop f).take (t :: q).length = (t :: q).map (fun t => int (t : Nat))) : (l.drop (f + 1)).take q.length = q.map (fun t => int (t : Nat)) := by
 rw [<- List.drop_drop]
 cases hd : l.drop f with
 | nil => rw [hd] at h; simp at h
 | cons x r =>
  grind
theorem zo7 {l : List AV} {f n : Nat} {x : AV} {r : List AV} (h : (l.drop f).take n = r) (hn : f + n + 1 <= l.length) : ((z7 l (f + n) [x]).drop f).take (n + 1) = r ++ [x] := by
 have hl : (l.take (f + n)).length = f + n := by rw [List.length_take]; omega
 unfold z7
 rw [List.append_assoc, List.drop_append_of_le_length (by omega), List.drop_take, Nat.add_sub_cancel_left, List.take_append, List.take_of_length_le (by grind)]
 rw [h]
 have hr : r.length = n := by grind
 simp_all
theorem zkb {l xs : List AV} {o : Nat} (h : o + xs.length <= l.length) : (z7 l o xs).length = l.length := by
 unfold z7
 simp
 omega
end Go.V
namespace Go.V
theorem zo9 {P : Program} {c : Cfg} {e : TypeId} {ie : TI} (hie : c.I e = some ie) (hs : ie.size = 1) (hby : ie.bytes <= 1000) {S : Store} {b1 b2 : Nat} {v : AV} {q : List Nat} (hq : QF S b1 b2 v q) (hlen : q.length <= 1000000) {x1 x2 : AObj} (ho1 : S.obj b1 = some x1) (ho2 : S.obj b2 = some x2) (t : Nat) {K : AV -> Store -> Prop}
  (hK : ∀ v' S', QF S' b1 b2 v' (q ++ [t]) -> S'.obj b1 = some x1 -> S'.obj b2 = some x2 -> K v' S') : appendK P c S e (.av v) (.av (.lst 1 [[int (t : Nat)]] none)) K := by
 obtain ⟨b, f, cap, l, rfl, ho, h3, h4, h5, h6, h7, h8⟩ := hq
 have hl1 : (q ++ [t]).length = q.length + 1 := by simp
 have hm : (q ++ [t]).map (fun t => int (t : Nat)) = q.map (fun t => int (t : Nat)) ++ [int (t : Nat)] := by simp
 refine ⟨.inr ⟨_, _, rfl, rfl, ?_⟩⟩
 refine zw8 hie (l := l) (rows := [[int (t : Nat)]]) ho (by rw [hs]; omega) h4 ?_ ?_ (fun hc => ?_) (fun hc b' cap' hf hc1 hc2 => ?_)
 ·rw [hs]; rfl
 ·have : (q.length + 1) * ie.bytes <= 1000001 * 1000 := Nat.mul_le_mul (by omega) hby
  exact ⟨by grind, by grind⟩
 ·simp only [List.length_singleton] at hc
  refine hK _ _ ⟨b, f, cap, z7 l (f + q.length) [int (t : Nat)], by rw [hl1]; rfl, ?_, ?_, by omega, h5, ?_, h7, h8⟩ ?_ ?_
  ·rw [zd, hs, Nat.mul_one]
   rfl
  ·grind[zkb]
  ·rw [hl1, zo7 h6 (by omega), hm]
  ·rw [zw (Ne.symm h7)]; exact ho1
  ·rw [zw (Ne.symm h8)]; exact ho2
 ·have n1 : b' ≠ b1 := fun e => absurd hf.1 (by rw [e, ho1]; simp)
  have n2 : b' ≠ b2 := fun e => absurd hf.1 (by rw [e, ho2]; simp)
  simp only [List.length_singleton] at hc hc1
  have hlr : ((l.drop f).take q.length).length = q.length := by rw [h6]; simp
  refine hK _ _ ⟨b', 0, cap', _, by rw [hl1]; rfl, zd _ _ _, ?_, by omega, hc2, ?_, n1, n2⟩ ?_ ?_
  ·grind
  ·rw [hl1, hm, List.drop_zero, hs, Nat.mul_one, h6]
   grind
  ·rw [zw (Ne.symm n1)]; exact ho1
  ·rw [zw (Ne.symm n2)]; exact ho2
end Go.V
namespace Go.V
theorem Nr {E : Nat -> Nat -> Int -> Prop} {goal : Nat} {d : Nat -> Int} {W W' : Nat -> Bool} {O : Nat -> Nat -> Int -> Prop} (h : SP E goal d W O) (hW : ∀ u, W u = true -> W' u = true) (hl : ∀ u, W' u = true -> 0 <= d u) : SP E goal d W' O :=
 ⟨h.lab, h.gl, h.pre, fun t u c ht hw hE hO => h.rel t u c ht (by grind) hE hO, hl⟩
/-- Who waits in a row. -/
def inQ (q : List Nat) (u : Nat) : Bool := decide (u ∈ q)
theorem inQ_iff {q : List Nat} {u : Nat} : inQ q u = true ↔ u ∈ q := decide_eq_true_iff
end Go.V
