/- The ground on which laws of thronglaw31 are proved: contracts of functions and plain lemmas; no condition beyond the row's own. -/
import Derived.Shelf.Sort.Plain
import Derived.Shelf.Slices.SearchI
import Derived.Shelf.Slices.Empties
import Derived.Shelf.Slices.Delete
import Derived.Shelf.Slices.In.SortNone
import Derived.Shelf.Spec.SlicesInsertGrow
import Derived.Shelf.Spec.BitsCarry
import Derived.Test.YtlidamnkhidljaaGreatKD
import Derived.Test.YtlidamnkhidljaaGreatKC
set_option linter.unusedSimpArgs false
set_option linter.unusedVariables false
namespace Go.V
open Go.Proofs Go.Shelf Go.Sort Go.RowKit
section
variable {P : Program} {ρ : Ren} {w : World} {st : Store} {Oth M : Nat -> Nat -> Prop}
def vI (n : Int) : Value := .int .i64 n
def aI (n : Int) : AV := .s (.int .i64 n)
theorem yq (T : Nat -> Nat -> Prop) (ns : List Int) : Reads w T (ns.map aI) (ns.map vI) := by
  have := Reads.map_s (w := w) (T := T) (ns.map vI)
  rwa [List.map_map] at this
/-- A row that is put is a row that is stored. -/
theorem zde {w : World} {b q : Nat} {c : Array Value} {e : TypeId} {fr : Nat × Nat} (hb : w.heap[b]? = some (.cells c e fr)) (ns : List Int) (hl : ns.length <= c.size) :
    Wrote w b 0 (ns.map vI) (putRow (Value.int .i64) (Sort.ahead w q) b 0 ns.toArray) where
  size := by simp [putRow, mapBlock, Sort.ahead]
  other b' hne := by
    simp only [putRow, mapBlock, Sort.ahead, Array.getElem?_modify]
    rw [if_neg (Ne.symm hne)]
  blk c' e' fr' h := by
    rw [hb] at h
    cases h
    refine ⟨putCells (Value.int .i64) 0 ns.toArray c, ?_, ?_, by simp [putCells]⟩
    · simp only [putRow, mapBlock, Sort.ahead, Array.getElem?_modify, if_true, hb, Option.map_some, onCells]
    · apply List.ext_getElem?
      intro i
      simp only [putCells, Array.getElem?_toList, List.take_zero, List.nil_append, Nat.zero_add, List.length_map, Array.getElem?_mapIdx]
      by_cases hi : i < ns.length
      · rw [List.getElem?_append_left (by simpa using hi), List.getElem?_map, List.getElem?_eq_getElem hi]
        rw [Array.getElem?_eq_getElem (by omega)]
        simp [hi, vI]
      · rw [List.getElem?_append_right (by simpa using (by omega : ns.length <= i)), List.length_map, List.getElem?_drop, Array.getElem?_toList, show ns.length + (i - ns.length) = i by omega]
        cases c[i]? with
        | none => rfl
        | some v => simp [hi]
  tape := rfl
  os := rfl
  output := rfl
theorem zhb (w : World) (os : Array Obj) : Grow w (Sort.grow w os) where
  size := by simp [Sort.grow]
  blk b hb := by simp [Sort.grow, Array.getElem?_append_left hb]
  tape := rfl
  os := rfl
  output := rfl
/-- The numbers that an object holds in front. -/
theorem xa {T : Nat -> Nat -> Prop} {b : Nat} {ns : List Int} {L : List AV} (h : CellsRel w T (ns.map aI ++ L) b) :
    ∃ c e fr, w.heap[b]? = some (.cells c e fr) /\ fr.2 = fr.1 /\ ns.length + L.length = c.size /\ ∀ j, j < ns.length -> c[j]? = some (vI (ns.getD j 0)) := by
  obtain ⟨c, e, fr, h1, h2, h3, h4⟩ := h
  refine ⟨c, e, fr, h1, h2, by simpa using h3, fun j hj => ?_⟩
  have hlt : j < c.size := by rw [<- h3]; simp; omega
  have h5 := h4 j (aI ns[j]) c[j] (by rw [List.getElem?_append_left (by simpa using hj)]; simp [hj]) (by simp [hlt])
  rw [Array.getElem?_eq_getElem hlt, VRel.eq_s h5]
  simp [hj, vI]
theorem zb2 {T : Nat -> Nat -> Prop} {b : Nat} {ns : List Int} {L : List AV} (h : CellsRel w T (ns.map aI ++ L) b) : Holds (Value.int .i64) w b 0 ns.toArray := by
  obtain ⟨c, e, fr, h1, h2, h3, h4⟩ := xa h
  intro j hj
  have hj : j < ns.length := by simpa using hj
  constructor
  · rw [Nat.zero_add]
    simp only [World.cell?, h1]
    have := h4 j hj
    simp only [Option.isSome_none, Bool.false_eq_true, if_false, this, vI]
    simp [hj]
  · simp only [World.frozen?, h1]
    obtain ⟨lo, hi⟩ := fr
    simp only at h2
    subst h2
    simp
theorem wa {xs l L : List AV} (h : xs.length = l.length) : zt (l ++ L) 0 xs = xs ++ L := by
  unfold zt
  rw [List.take_zero, List.nil_append, Nat.zero_add, h, List.drop_left]
theorem xg {A B xs : List AV} {o : Nat} (h : A.length = o) : zt (A ++ B) o xs = A ++ xs ++ B.drop xs.length := by
  subst h
  unfold zt
  rw [List.take_left, List.drop_append]
  simp
theorem ztz {x : AV} {vs : Array Value} {T : Nat -> Nat -> Prop} (h : Reads w T [x] vs.toList) : ∃ v, vs = #[v] /\ VRel w T x v := by
  obtain ⟨u, h1, h2⟩ := zgb h
  exact ⟨u, by apply Array.ext'; rw [h1], h2⟩
theorem zt9 {x y : AV} {vs : Array Value} {T : Nat -> Nat -> Prop} (h : Reads w T [x, y] vs.toList) : ∃ u v, vs = #[u, v] /\ VRel w T x u /\ VRel w T y v := by
  obtain ⟨u, v, h1, h2⟩ := zga h
  exact ⟨u, v, by apply Array.ext'; rw [h1], h2⟩
theorem zsx {x y z : AV} {vs : Array Value} {T : Nat -> Nat -> Prop} (h : Reads w T [x, y, z] vs.toList) : ∃ u v t, vs = #[u, v, t] /\ VRel w T x u /\ VRel w T y v /\ VRel w T z t := by
  obtain ⟨u, v, t, h1, h2⟩ := zo4 h
  exact ⟨u, v, t, by apply Array.ext'; rw [h1], h2⟩
theorem x6 {v : AV} {ns : List Int} (h : Ints st v ns) : (v = .s (.slice none 0 0) /\ ns = []) \/ ∃ b cap L, v = .s (.slice (some ⟨b, 0, none⟩) ns.length cap) /\ st.obj b = some (.cells (ns.map aI ++ L)) /\ ns.length <= cap /\ cap <= ns.length + L.length /\ cap <= 9223372036854775807 := h
/-- slices.Sort. -/
theorem znw (Ly : Lays.n189 P ρ) {fn : Func} {code : Code} (hf : P.funcs[ρ.f 189]? = some fn) (hb : fn.body = some code) (hname : (fn.name == "runtime.NumGoroutine") = false) {b cap : Nat} {ns : List Int} {L : List AV} (ho : st.obj b = some (.cells (ns.map aI ++ L)))
    (hlen : ns.length < 4611686018427387904) {R : AV -> Store -> Prop} (h : R (.tup []) (st.setObj b (.cells ((ns.mergeSort fun x y => decide (x <= y)).map aI ++ L)))) :
    ACalls P (ρ.f 189) [.s (.slice (some ⟨b, 0, none⟩) ns.length cap)] st R := by
  refine ACalls.of_calls hf hb hname fun Oth M w vs sto hr => ?_
  obtain ⟨v, rfl, hv⟩ := ztz hr
  cases hv
  have hobj := (sto.obj b _ ho).1
  obtain ⟨c, e, fr, h1, h2, h3, h4⟩ := xa hobj
  refine Calls.mono (Any.slices_Sort_int Ly b 0 cap ns w (zb2 hobj) (zn h1) hlen) fun e' w' ⟨he, n, os, hw'⟩ => ⟨_, he, ?_⟩
  subst hw'
  have hsl : (ns.mergeSort fun x y => decide (x <= y)).length = ns.length := List.length_mergeSort ns
  have hw := zde (q := n) h1 (ns.mergeSort fun x y => decide (x <= y)) (by omega)
  obtain ⟨k1, k2⟩ := xi sto ho (yq _ _) hw
  have hg := zhb (putRow (Value.int .i64) (Sort.ahead w n) b 0 (ns.mergeSort fun x y => decide (x <= y)).toArray) os
  refine ⟨.tup [], _, M, h, zz Reads.nil, ?_, k2.trans (hg.chg M)⟩
  rw [wa (by simp)] at k1
  exact k1.grow hg
theorem zdp (Ly : Lays.n189 P ρ) {fn : Func} {code : Code} (hf : P.funcs[ρ.f 189]? = some fn) (hb : fn.body = some code) (hname : (fn.name == "runtime.NumGoroutine") = false) {R : AV -> Store -> Prop} (h : R (.tup []) st) :
    ACalls P (ρ.f 189) [.s (.slice none 0 0)] st R := by
  refine ACalls.of_calls hf hb hname fun Oth M w vs sto hr => ?_
  obtain ⟨v, rfl, hv⟩ := ztz hr
  cases hv
  refine Calls.mono (Any.slices_Sort_int_none Ly none 0 w) fun e' w' ⟨he, hw'⟩ => ⟨_, he, ?_⟩
  subst hw'
  exact ⟨.tup [], st, M, h, zz Reads.nil, sto, Chg.refl _ _⟩
/-- slices.BinarySearch. -/
theorem zgy (Ly : Lays2.n25 P ρ) {fn : Func} {code : Code} (hf : P.funcs[ρ.f 25]? = some fn) (hb : fn.body = some code) (hname : (fn.name == "runtime.NumGoroutine") = false) {v : AV} {ns : List Int} (hv : Ints st v ns) (x : Int)
    (hlen : ns.length < 4611686018427387904) (hs : ns.Pairwise (· <= ·)) {R : AV -> Store -> Prop} (h : R (.tup [aI (ns.countP (· < x) : Nat), .s (.bool (ns.contains x))]) st) :
    ACalls P (ρ.f 25) [v, aI x] st R := by
  refine ACalls.of_calls hf hb hname fun Oth M w vs sto hr => ?_
  obtain ⟨u, t, rfl, hu, ht⟩ := zt9 hr
  cases ht
  rcases x6 hv with ⟨rfl, rfl⟩ | ⟨b, cap, L, rfl, ho, hc1, hc2⟩
  · cases hu
    refine Calls.mono (Any.slices_BinarySearch_int_empty Ly none 0 x w) fun e' w' ⟨he, hw'⟩ => ⟨_, he, ?_⟩
    subst hw'
    refine ⟨_, st, M, h, zz (Reads.cons (.s _) (Reads.cons (.s _) Reads.nil)), sto, Chg.refl _ _⟩
  · cases hu
    have hobj := (sto.obj b _ ho).1
    obtain ⟨c, e, fr, h1, h2, h3, h4⟩ := xa hobj
    refine Calls.mono (Any.slices_BinarySearch_int Ly b 0 ns.length cap ns x w (Nat.le_refl _) hlen (fun j hj => ?_) (by rw [List.take_length]; exact hs)) fun e' w' ⟨he, q, hw'⟩ => ⟨_, he, ?_⟩
    · rw [Nat.zero_add]
      simp only [World.cell?, h1]
      exact h4 j hj
    · subst hw'
      rw [List.take_length]
      have hg : Grow w (w.drewN q) := ⟨Nat.le_refl _, fun _ _ => rfl, rfl, rfl, rfl⟩
      exact ⟨_, st, M, h, zz (Reads.cons (.s _) (Reads.cons (.s _) Reads.nil)), sto.grow hg, hg.chg M⟩
/-- slices.Delete. -/
theorem zhp (Ly : Lays2.n23 P ρ) {fn : Func} {code : Code} (hf : P.funcs[ρ.f 23]? = some fn) (hb : fn.body = some code) (hname : (fn.name == "runtime.NumGoroutine") = false) {b cap i j : Nat} {ns : List Int} {L : List AV} (ho : st.obj b = some (.cells (ns.map aI ++ L)))
    (hc1 : ns.length <= cap) (hc2 : cap <= 9223372036854775807) (hij : i <= j) (hj : j <= ns.length) {R : AV -> Store -> Prop}
    (h : R (.s (.slice (some ⟨b, 0, none⟩) (ns.take i ++ ns.drop j).length cap)) (st.setObj b (.cells ((ns.take i ++ ns.drop j).map aI ++ (List.replicate (j - i) (aI 0) ++ L))))) :
    ACalls P (ρ.f 23) [.s (.slice (some ⟨b, 0, none⟩) ns.length cap), aI i, aI j] st R := by
  refine ACalls.of_calls hf hb hname fun Oth M w vs sto hr => ?_
  obtain ⟨u, v, t, rfl, hu, hv, ht⟩ := zsx hr
  cases hu; cases hv; cases ht
  have hobj := (sto.obj b _ ho).1
  obtain ⟨c, e, fr, h1, h2, h3, h4⟩ := xa hobj
  have hl2 : (ns.take i ++ ns.drop j ++ List.replicate (j - i) 0).length = ns.length := by simp; omega
  have hl1 : (ns.take i ++ ns.drop j).length = ns.length - (j - i) := by simp; omega
  refine Calls.mono (Any.slices_Delete_int Ly b 0 cap i j ns w (zb2 hobj) hc1 hc2 hij hj) fun e' w' ⟨he, q, hw'⟩ => ⟨_, he, ?_⟩
  subst hw'
  have hw := zde (q := q) h1 (ns.take i ++ ns.drop j ++ List.replicate (j - i) 0) (by omega)
  obtain ⟨k1, k2⟩ := xi sto ho (yq _ _) hw
  rw [<- hl1]
  refine ⟨_, _, M, h, .s _, ?_, k2⟩
  rw [wa (by simpa using hl2), List.map_append, List.map_replicate, List.append_assoc] at k1
  exact k1
/-- math/bits.Add64. -/
theorem zkq (Ly : Lays7.n25 P ρ) (x y c : Nat) (hc : c <= 1) {R : AV -> Store -> Prop}
    (h : R (.tup [.s (.int .u64 ((x + y + c) % 18446744073709551616 : Nat)), .s (.int .u64 ((x + y + c) / 18446744073709551616 : Nat))]) st) :
    ACalls P (ρ.f 25) [.s (.int .u64 x), .s (.int .u64 y), .s (.int .u64 c)] st R := by
  refine ACalls.of_value fun Oth M w vs sto hr => ?_
  obtain ⟨u, v, t, rfl, hu, hv, ht⟩ := zsx hr
  cases hu; cases hv; cases ht
  exact ⟨_, w, Any7.bits_Add64 Ly x y c hc w, _, st, M, h, zz (Reads.cons (.s _) (Reads.cons (.s _) Reads.nil)), sto, Chg.refl _ _⟩
theorem y3 {b : Nat} : ∀ (vs : List Value) (o : Nat) (w : World) (c : Array Value) (e : TypeId) (fr : Nat × Nat), w.heap[b]? = some (.cells c e fr) -> o + vs.length <= c.size -> Wrote w b o vs (w.setCells b o vs) := by
  intro vs
  induction vs with
  | nil => intro o w c e fr h _; exact ⟨rfl, fun _ _ => rfl, fun c e fr h => ⟨c, h, by simp, rfl⟩, rfl, rfl, rfl⟩
  | cons v vs ih =>
    intro o w c e fr h hl
    simp only [List.length_cons] at hl
    have h1 : (w.setCell ⟨b, o, none⟩ v).heap[b]? = some (.cells (c.setIfInBounds o v) e fr) := by
      rw [xm, if_pos rfl, h]; rfl
    have k := ih (o + 1) (w.setCell ⟨b, o, none⟩ v) _ e fr h1 (by simp; omega)
    refine ⟨by rw [World.setCells, k.size]; simp, fun b' hb => by rw [World.setCells, k.other b' hb, xm, if_neg hb], fun c1 e1 fr1 hc1 => ?_, by rw [World.setCells, k.tape]; rfl, by rw [World.setCells, k.os]; rfl, by rw [World.setCells, k.output]; rfl⟩
    rw [h] at hc1
    cases hc1
    obtain ⟨c', g1, g2, g3⟩ := k.blk _ _ _ h1
    refine ⟨c', g1, ?_, by simpa using g3⟩
    rw [g2, Array.toList_setIfInBounds]
    have hlt : o < c.toList.length := by simp; omega
    have hA : (c.toList.take o).length = o := by simp; omega
    rw [List.set_eq_take_append_cons_drop, if_pos hlt]
    have t1 : (c.toList.take o ++ v :: c.toList.drop (o + 1)).take (o + 1) = c.toList.take o ++ [v] := by
      rw [List.take_append, hA, show o + 1 - o = 1 by omega, List.take_of_length_le (by omega)]
      rfl
    have t2 : (c.toList.take o ++ v :: c.toList.drop (o + 1)).drop (o + 1 + vs.length) = c.toList.drop (o + (vs.length + 1)) := by
      rw [List.drop_append, hA, show o + 1 + vs.length - o = vs.length + 1 by omega, List.drop_of_length_le (by omega), List.nil_append, List.drop_succ_cons, List.drop_drop]
      congr 1; omega
    rw [t1, t2]
    simp
/-- slices.Insert of one number. -/
theorem zg8 (Ly : Lays2.n21 P ρ) {fn : Func} {code : Code} (hf : P.funcs[ρ.f 21]? = some fn) (hb : fn.body = some code) (hname : (fn.name == "runtime.NumGoroutine") = false) {v : AV} {ns : List Int} (hv : Ints st v ns) {vb : Nat} (x : Int) (i : Nat) (hi : i <= ns.length)
    (hvb : st.obj vb = some (.cells [aI x])) (hne : ∀ b cap, v = .s (.slice (some ⟨b, 0, none⟩) ns.length cap) -> b ≠ vb) (hlen : (ns.length + 1) * 8 <= 140737488355328) {R : AV -> Store -> Prop}
    (h : ∀ b cap L, (Fresh st b \/ ∃ c0, v = .s (.slice (some ⟨b, 0, none⟩) ns.length c0)) -> (ns.take i ++ x :: ns.drop i).length <= cap -> cap <= (ns.take i ++ x :: ns.drop i).length + L.length -> cap <= 9223372036854775807 ->
      R (.s (.slice (some ⟨b, 0, none⟩) (ns.take i ++ x :: ns.drop i).length cap)) (st.setObj b (.cells ((ns.take i ++ x :: ns.drop i).map aI ++ L)))) :
    ACalls P (ρ.f 21) [v, aI i, .s (.slice (some ⟨vb, 0, none⟩) 1 1)] st R := by
  refine ACalls.of_calls hf hb hname fun Oth M w vs sto hr => ?_
  obtain ⟨u, t, s, rfl, hu, ht, hs⟩ := zsx hr
  cases ht; cases hs
  have hvo := (sto.obj vb _ hvb).1
  obtain ⟨cv, ev, frv, v1, v2, v3, v4⟩ := xa (ns := [x]) (L := []) (show CellsRel w _ ([x].map aI ++ []) vb from hvo)
  have hvs : ∀ j v, ([vI x] : List Value)[j]? = some v -> w.cell? ⟨vb, 0 + j, none⟩ = some v := by
    intro j v hj
    cases j with
    | zero =>
      simp at hj
      subst hj
      have := v4 0 (by simp)
      simp only [World.cell?, v1]
      simpa using this
    | succ j => simp at hj
  have h1v : ∀ v ∈ ([vI x] : List Value), v.oneCell' = true := by intro v hv; simp at hv; subst hv; rfl
  have hl' : (ns.take i ++ x :: ns.drop i).length = ns.length + 1 := by simp; omega
  have hcut : ∀ (w : World) (need old : Nat) (e : TypeId), need <= 140737488355328 -> need <= grownCap w need old e /\ grownCap w need old e <= 9223372036854775807 := by
    intro w need old e hn
    unfold grownCap
    simp only [Question.cut]
    have := Nat.mod_lt (w.tape w.drawn (.appendCap need old e)) (show 0 < 2 ^ 63 - need by omega)
    omega
  rcases x6 hv with ⟨rfl, rfl⟩ | ⟨b, cap, L, rfl, ho, hc1, hc2, hc3⟩
  · cases hu
    simp only [List.length_nil, Nat.le_zero] at hi
    subst hi
    refine Calls.mono (Any2.slices_Insert_int_end_grow Ly none 0 0 vb 0 1 1 [] [vI x] w (by omega) (Nat.le_refl _) (by omega) (by omega) rfl rfl (fun _ => rfl) (fun a ha => by cases ha) hvs h1v) fun e' w' ⟨he, hw'⟩ => ⟨_, he, ?_⟩
    obtain ⟨g1, g2⟩ := hcut w (0 + 1) 0 (ρ.t 3) (by omega)
    generalize grownCap w (0 + 1) 0 (ρ.t 3) = gc at *
    subst hw'
    have gd : Grow w w.drew := Grow.drew w
    obtain ⟨f1, f2, f3⟩ := ql (sto.grow gd) ((([] : List Value) ++ [vI x]).toArray ++ Builtin.zeroCells (Value.int .i64 0).cells (gc - (0 + 1))) (ρ.t 3) (l := [x].map aI ++ List.replicate (gc - (0 + 1)) .any) (by
      rw [Array.toList_append]
      refine Reads.append (yq _ [x]) ⟨by simp [Builtin.zeroCells, Value.cells], fun i x y hx hy => ?_⟩
      rw [List.getElem?_replicate] at hx
      split at hx
      · cases hx; exact .any _
      · cases hx)
    have := h w.heap.size gc (List.replicate (gc - (0 + 1)) .any) (.inl f1) (by simpa using g1) (by simp; omega) g2
    exact ⟨_, _, _, this, .s _, f2, (gd.chg M).trans f3⟩
  · cases hu
    have hbv : b ≠ vb := hne b cap rfl
    have hobj := (sto.obj b _ ho).1
    obtain ⟨c, e, fr, h1, h2, h3, h4⟩ := xa hobj
    have cell : ∀ j, j < c.size -> w.cell? ⟨b, 0 + j, none⟩ = c[j]? := fun j hj => by rw [Nat.zero_add]; simp only [World.cell?, h1]; rfl
    have froz : ∀ o, w.frozen? ⟨b, o, none⟩ = false := fun o => by
      simp only [World.frozen?, h1]
      obtain ⟨lo, hi⟩ := fr
      simp only at h2
      subst h2
      simp
    have hcs : ∀ j v, (ns.map vI)[j]? = some v -> w.cell? ⟨b, 0 + j, none⟩ = some v := by
      intro j v hj
      have hlt : j < ns.length := by have := (List.getElem?_eq_some_iff.1 hj).1; simpa using this
      rw [cell j (by omega), h4 j hlt]
      rw [List.getElem?_map, List.getElem?_eq_getElem hlt] at hj
      simp at hj
      simp [hlt, hj]
    have h1c : ∀ v ∈ ns.map vI, v.oneCell' = true := by intro v hv; obtain ⟨n, _, rfl⟩ := List.mem_map.1 hv; rfl
    by_cases hroom : ns.length + 1 <= cap
    · obtain ⟨L0, hL⟩ : ∃ L0, L = L0 := ⟨_, rfl⟩
      by_cases hin : i = ns.length
      · subst hin
        refine Calls.mono (Any2.slices_Insert_int_end_room Ly b 0 ns.length cap vb 0 1 1 [vI x] w (by omega) hroom hc3 rfl (fun j hj => ?_) (fun j hj => froz _) hvs h1v) fun e' w' ⟨he, hw'⟩ => ⟨_, he, ?_⟩
        · rw [Nat.zero_add, show ns.length + j = 0 + (ns.length + j) by omega, cell _ (by omega)]
          simp; omega
        · subst hw'
          rw [Nat.zero_add]
          have hw := y3 [vI x] ns.length w c e fr h1 (by simp; omega)
          obtain ⟨k1, k2⟩ := xi sto ho (yq _ [x]) hw
          rw [xg (by simp)] at k1
          have e2 : (ns.take ns.length ++ x :: ns.drop ns.length).map aI = ns.map aI ++ [x].map aI := by simp
          have := h b cap (L.drop 1) (.inr ⟨cap, rfl⟩) (by omega) (by rw [hl']; simp; omega) hc3
          rw [hl', e2] at this
          exact ⟨_, _, M, this, .s _, k1, k2⟩
      · have hsz : ∀ j, j < ns.length + 1 -> (w.cell? ⟨b, 0 + j, none⟩).isSome = true := fun j hj => by
          rw [cell j (by omega)]; simp; omega
        refine Calls.mono (Any2.slices_Insert_int_shift Ly b 0 ns.length cap i vb 0 1 1 (ns.map vI) [vI x] w (by omega) (by omega) hroom hc3 (Ne.symm hbv) (by simp) rfl hcs hsz (fun j _ => froz _) hvs h1c h1v ev e cv.size c.size
          (by simp [World.shape?, v1]) (by simp [World.shape?, h1]) (by omega) ?_ ?_) fun e' w' ⟨he, hw'⟩ => ⟨_, he, ?_⟩
        · simp only [World.frozen?, v1]
          obtain ⟨lo, hi⟩ := frv
          simp only at v2
          subst v2
          simp
        · simp only [World.frozen?, v1]
          obtain ⟨lo, hi⟩ := frv
          simp only at v2
          subst v2
          simp
        · subst hw'
          rw [Nat.zero_add, Nat.zero_add, <- List.map_drop]
          have gd : Grow w w.drew := Grow.drew w
          have hw1 := y3 ((ns.drop i).map vI) (i + 1) w.drew c e fr h1 (by simp; omega)
          obtain ⟨k1, k2⟩ := xi (sto.grow gd) ho (yq _ _) hw1
          obtain ⟨c', m1, _, m2⟩ := hw1.blk c e fr h1
          have hw2 := y3 [vI x] i _ c' e fr m1 (by simp; omega)
          obtain ⟨k3, k4⟩ := xi k1 (zb _ _ _) (yq _ [x]) hw2
          rw [zi] at k3
          have e1 : zt (zt (ns.map aI ++ L) (i + 1) ((ns.drop i).map aI)) i ([x].map aI) = (ns.take i ++ x :: ns.drop i).map aI ++ L.drop 1 := by
            have hL1 : 1 <= L.length := by omega
            cases L with
            | nil => simp at hL1
            | cons y L =>
              have q1 : ns.map aI ++ y :: L = (ns.map aI ++ [y]).take (i + 1) ++ ((ns.map aI ++ [y]).drop (i + 1) ++ L) := by
                rw [<- List.append_assoc, List.take_append_drop, List.append_assoc]; rfl
              have q2 : ((ns.map aI ++ [y]).take (i + 1)).length = i + 1 := by simp; omega
              rw [q1, xg q2]
              have q3 : ((ns.map aI ++ [y]).drop (i + 1) ++ L).drop ((ns.drop i).map aI).length = L := by
                have : ((ns.map aI ++ [y]).drop (i + 1)).length = ((ns.drop i).map aI).length := by simp
                rw [<- this, List.drop_left]
              rw [q3]
              have q4 : (ns.map aI ++ [y]).take (i + 1) = (ns.take i).map aI ++ [aI (ns[i]'(by omega))] := by
                rw [List.take_append_of_le_length (by simp; omega), <- List.map_take, List.take_succ_eq_append_getElem (by omega), List.map_append]; rfl
              rw [q4, List.append_assoc, List.append_assoc, xg (by simp; omega)]
              simp
          rw [e1] at k3
          have := h b cap (L.drop 1) (.inr ⟨cap, rfl⟩) (by omega) (by rw [hl']; simp; omega) hc3
          rw [hl'] at this
          exact ⟨_, _, M, this, .s _, k3, ((gd.chg M).trans k2).trans k4⟩
    · obtain ⟨g1, g2⟩ := hcut w (ns.length + 1) cap (ρ.t 3) (by omega)
      by_cases hin : i = ns.length
      · subst hin
        refine Calls.mono (Any2.slices_Insert_int_end_grow Ly (some ⟨b, 0, none⟩) ns.length cap vb 0 1 1 (ns.map vI) [vI x] w (by omega) hc1 (by omega) hlen (by simp) rfl (fun hh => by cases hh) (fun a ha j v hj => ?_) hvs h1v) fun e' w' ⟨he, hw'⟩ => ⟨_, he, ?_⟩
        · cases ha; rw [qf]; exact hcs j v hj
        · generalize grownCap w (ns.length + 1) cap (ρ.t 3) = gc at *
          subst hw'
          have gd : Grow w w.drew := Grow.drew w
          obtain ⟨f1, f2, f3⟩ := ql (sto.grow gd) ((ns.map vI ++ [vI x]).toArray ++ Builtin.zeroCells (Value.int .i64 0).cells (gc - (ns.length + 1))) (ρ.t 3) (l := (ns ++ [x]).map aI ++ List.replicate (gc - (ns.length + 1)) .any) (by
            rw [Array.toList_append]
            refine Reads.append ?_ ⟨by simp [Builtin.zeroCells, Value.cells], fun i x y hx hy => ?_⟩
            · have := yq (w := w.drew) (fun b o => M b o \/ Oth b o) (ns ++ [x])
              rw [List.map_append (f := vI)] at this
              exact this
            · rw [List.getElem?_replicate] at hx
              split at hx
              · cases hx; exact .any _
              · cases hx)
          have e2 : ns.take ns.length ++ x :: ns.drop ns.length = ns ++ [x] := by simp
          rw [e2] at h
          have := h w.heap.size gc (List.replicate (gc - (ns.length + 1)) .any) (.inl f1) (by simpa using g1) (by simp; omega) g2
          rw [List.length_append] at this
          exact ⟨_, _, _, this, .s _, f2, (gd.chg M).trans f3⟩
      · refine Calls.mono (Any2.slices_Insert_int_grow Ly b 0 ns.length cap i vb 0 1 1 (ns.map vI) [vI x] w (by omega) (by omega) hc1 (by omega) hlen (by simp) rfl hcs hvs h1c h1v) fun e' w' ⟨he, hw'⟩ => ⟨_, he, ?_⟩
        generalize grownCap w (ns.length + 1) cap (ρ.t 3) = gc at *
        subst hw'
        rw [<- List.map_take, <- List.map_drop]
        obtain ⟨f1, f2, f3⟩ := ql sto (((ns.take i).map vI).toArray ++ Builtin.zeroCells (Value.int .i64 0).cells (ns.length + 1 - i) ++ Builtin.zeroCells (Value.int .i64 0).cells (gc - (ns.length + 1))) (ρ.t 3) (l := (ns.take i).map aI ++ List.replicate (ns.length + 1 - i + (gc - (ns.length + 1))) .any) (by
          rw [Array.append_assoc, Array.toList_append]
          refine Reads.append (yq _ _) ⟨by simp [Builtin.zeroCells, Value.cells], fun i x y hx hy => ?_⟩
          rw [List.getElem?_replicate] at hx
          split at hx
          · cases hx; exact .any _
          · cases hx)
        generalize hArr : (((ns.take i).map vI).toArray ++ Builtin.zeroCells (Value.int .i64 0).cells (ns.length + 1 - i) ++ Builtin.zeroCells (Value.int .i64 0).cells (gc - (ns.length + 1))) = Arr at *
        have hAs : Arr.size = gc := by rw [<- hArr]; simp [Builtin.zeroCells, Value.cells]; omega
        have hb1 : (w.alloc (.cells Arr (ρ.t 3))).drew.heap[w.heap.size]? = some (.cells Arr (ρ.t 3) (0, 0)) := yb w _
        have gd1 : Grow (w.alloc (.cells Arr (ρ.t 3))) (w.alloc (.cells Arr (ρ.t 3))).drew := Grow.drew _
        have hw1 := y3 [vI x] i _ _ _ _ hb1 (by simp; omega)
        obtain ⟨k1, k2⟩ := xi (f2.grow gd1) (zb _ _ _) (yq _ [x]) hw1
        obtain ⟨c', m1, _, m2⟩ := hw1.blk _ _ _ hb1
        have gd2 : Grow ((w.alloc (.cells Arr (ρ.t 3))).drew.setCells w.heap.size i [vI x]) ((w.alloc (.cells Arr (ρ.t 3))).drew.setCells w.heap.size i [vI x]).drew := Grow.drew _
        have hw2 := y3 ((ns.drop i).map vI) (i + 1) ((w.alloc (.cells Arr (ρ.t 3))).drew.setCells w.heap.size i [vI x]).drew c' _ _ m1 (by simp; omega)
        obtain ⟨k3, k4⟩ := xi (k1.grow gd2) (zb _ _ _) (yq _ _) hw2
        rw [zi, zi] at k3
        have e1 : zt (zt ((ns.take i).map aI ++ List.replicate (ns.length + 1 - i + (gc - (ns.length + 1))) .any) i ([x].map aI)) (i + 1) ((ns.drop i).map aI) = (ns.take i ++ x :: ns.drop i).map aI ++ List.replicate (gc - (ns.length + 1)) .any := by
          rw [xg (by simp; omega), xg (by simp; omega), List.drop_replicate, List.drop_replicate]
          have q : ns.length + 1 - i + (gc - (ns.length + 1)) - ([x].map aI).length - ((ns.drop i).map aI).length = gc - (ns.length + 1) := by simp; omega
          rw [q]
          simp
        rw [e1] at k3
        have := h w.heap.size gc (List.replicate (gc - (ns.length + 1)) .any) (.inl f1) (by omega) (by rw [hl']; simp; omega) g2
        rw [hl'] at this
        exact ⟨_, _, _, this, .s _, k3, ((((f3.trans (gd1.chg _)).trans k2).trans (gd2.chg _)).trans k4)⟩
end
end Go.V
namespace Go.V
theorem zu (a g : Store) (b : Nat) (x : AObj) : (a.un g).setObj b x = a.un (g.setObj b x) := by
 unfold Store.un Store.setObj
 congr
 funext i
 by_cases h : i = b
 ·subst h; simp
 ·simp [nbeq h]
theorem w7 (a : Store) : a.un Store.empty = a := by
 unfold Store.un Store.empty
 rfl
theorem zhn (a : Store) : Disj a Store.empty := fun b _ h => h.elim (fun h => h rfl) (fun h => h rfl)
theorem ka {a g : Store} {b : Nat} (h : Fresh (a.un g) b) : Fresh a b /\ Fresh g b := by
 rw [fresh_iff, un_has] at h
 rw [fresh_iff, fresh_iff]
 exact ⟨fun h1 => h (.inl h1), fun h1 => h (.inr h1)⟩
theorem has_setObj_iff {g : Store} {b i : Nat} {x : AObj} : (g.setObj b x).has i ↔ i = b \/ g.has i := by
 unfold Store.has
 by_cases h : i = b
 ·subst h; simp [zb]
 ·simp [h, nbeq h, Store.setObj]
theorem j1 {a g : Store} {b : Nat} {x : AObj} (h : Disj a g) (hb : Fresh a b) : Disj a (g.setObj b x) := by
 intro i hi hg
 rcases has_setObj_iff.1 hg with rfl | hg
 ·exact (fresh_iff.1 hb) hi
 ·exact h i hi hg
theorem xc {a g : Store} {b : Nat} {x y : AObj} (h : Disj a g) (hb : g.obj b = some y) : Disj a (g.setObj b x) := by
 intro i hi hg
 rcases has_setObj_iff.1 hg with rfl | hg
 ·exact h i hi (za1 hb)
 ·exact h i hi hg
/-- In which cell. -/
def zj (p : Vc) : Int × Int := (nrm p.1 / 131072, nrm p.2 / 131072)
abbrev Ent := Int × Vc
def entA (e : Ent) : AV × AV := (int e.1, .agg (vecC e.2))
structure Grp where
 x : Int
 y : Int
 ns : List Int
 b : Nat
 cap : Nat
 L : List AV
def Grp.key (g : Grp) : Int × Int := (g.x, g.y)
def entG (g : Grp) : AV × AV := (.agg [int g.x, int g.y], .s (.slice (some ⟨g.b, 0, none⟩) g.ns.length g.cap))
def Grp.fits (g : Grp) : Prop := g.ns.length <= g.cap /\ g.cap <= g.ns.length + g.L.length /\ g.cap <= 9223372036854775807
/-- The cells in a store: the struct 'p', two maps, a slice for each cell. -/
structure CellsAt (a : Store) (p ma mi : Nat) (l : List Ent) (bs1 : List Nat) (c1 : Nat) (G : List Grp) (bs2 : List Nat) (c2 : Nat) : Prop where
 hp : a.obj p = some (.cells [.s (.map (some ma)), .s (.map (some mi))])
 ha : a.obj ma = some (.map (l.map entA) bs1 c1)
 hi : a.obj mi = some (.map (G.map entG) bs2 c2)
 ne : ma ≠ mi
 hg : ∀ g ∈ G, a.obj g.b = some (.cells (g.ns.map aI ++ g.L)) /\ g.fits /\ g.b ≠ p
 nd : (G.map (·.b)).Nodup
structure Inv (l : List Ent) (G : List Grp) : Prop where
 n1 : (l.map (·.1)).Nodup
 n2 : (G.map (·.key)).Nodup
 s : ∀ g ∈ G, g.ns.Pairwise (· < ·) /\ g.ns ≠ []
 m1 : ∀ g ∈ G, ∀ id, id ∈ g.ns ↔ ∃ e ∈ l, e.1 = id /\ zj e.2 = g.key
 m2 : ∀ e ∈ l, ∃ g ∈ G, g.key = zj e.2
def CellsOf (a : Store) (p : Nat) (l : List Ent) : Prop := ∃ ma mi bs1 c1 G bs2 c2, CellsAt a p ma mi l bs1 c1 G bs2 c2 /\ Inv l G
/-- A sorted list, cut at a number. -/
theorem zb7 (x : Int) : ∀ {ns : List Int}, ns.Pairwise (· < ·) -> ns.take (ns.countP (· < x)) = ns.filter (· < x) /\ ns.drop (ns.countP (· < x)) = ns.filter (x <= ·) := by
 intro ns
 induction ns with
 | nil => intro _; simp
 | cons a ns ih =>
  intro h
  obtain ⟨h1, h2⟩ := List.pairwise_cons.1 h
  obtain ⟨i1, i2⟩ := ih h2
  by_cases ha : a < x
  ·have hna : ¬ x <= a := by omega
   rw [List.countP_cons_of_pos (by simpa using ha)]
   refine ⟨?_, ?_⟩
   ·rw [List.take_succ_cons, i1, List.filter_cons_of_pos (by simpa using ha)]
   ·rw [List.drop_succ_cons, i2, List.filter_cons_of_neg (by simpa using hna)]
  ·have hall : ∀ y ∈ ns, ¬ y < x := fun y hy => by have := h1 y hy; omega
   have h0 : (a :: ns).countP (· < x) = 0 := by
    rw [List.countP_eq_zero]
    intro y hy
    rcases List.mem_cons.1 hy with rfl | hy
    ·simpa using ha
    ·simpa using hall y hy
   rw [h0]
   refine ⟨?_, ?_⟩
   ·rw [List.take_zero]
    symm
    rw [List.filter_eq_nil_iff]
    intro y hy
    rcases List.mem_cons.1 hy with rfl | hy
    ·simpa using ha
    ·simpa using hall y hy
   ·rw [List.drop_zero]
    symm
    rw [List.filter_eq_self]
    intro y hy
    rcases List.mem_cons.1 hy with rfl | hy
    ·simp; omega
    ·have := hall y hy; simp; omega
theorem zor (x : Int) (ns : List Int) : ns.countP (· < x) <= ns.length := List.countP_le_length
theorem zg9 {ns : List Int} (h : ns.Pairwise (· < ·)) {x : Int} (hx : x ∉ ns) :
  (ns.take (ns.countP (· < x)) ++ x :: ns.drop (ns.countP (· < x))).Pairwise (· < ·) /\ ∀ y, y ∈ ns.take (ns.countP (· < x)) ++ x :: ns.drop (ns.countP (· < x)) ↔ y = x \/ y ∈ ns := by
 obtain ⟨h1, h2⟩ := zb7 x h
 rw [h1, h2]
 refine ⟨?_, fun y => ?_⟩
 ·rw [List.pairwise_append, List.pairwise_cons]
  refine ⟨h.filter _, ⟨fun y hy => ?_, h.filter _⟩, fun a ha b hb => ?_⟩
  ·have h3 := List.mem_filter.1 hy
   have h4 : x <= y := by simpa using h3.2
   have h5 : y ≠ x := fun e => hx (e ▸ h3.1)
   omega
  ·have h3 := (List.mem_filter.1 ha).2
   have h3 : a < x := by simpa using h3
   rcases List.mem_cons.1 hb with rfl | hb
   ·exact h3
   ·have h4 : x <= b := by simpa using (List.mem_filter.1 hb).2
    omega
 ·simp only [List.mem_append, List.mem_cons, List.mem_filter, decide_eq_true_eq]
  constructor
  ·rintro (h3 | h3 | h3)
   ·exact .inr h3.1
   ·exact .inl h3
   ·exact .inr h3.1
  ·rintro (h3 | h3)
   ·exact .inr (.inl h3)
   ·by_cases h4 : y < x
    ·exact .inl ⟨h3, h4⟩
    ·exact .inr (.inr ⟨h3, by omega⟩)
theorem zhq {ns : List Int} (h : ns.Pairwise (· < ·)) {x : Int} (hx : x ∈ ns) :
  ns.countP (· < x) + 1 <= ns.length /\ (ns.take (ns.countP (· < x)) ++ ns.drop (ns.countP (· < x) + 1)).Pairwise (· < ·) /\ ∀ y, y ∈ ns.take (ns.countP (· < x)) ++ ns.drop (ns.countP (· < x) + 1) ↔ y ≠ x /\ y ∈ ns := by
 obtain ⟨h1, h2⟩ := zb7 x h
 have hsub : (ns.take (ns.countP (· < x)) ++ ns.drop (ns.countP (· < x) + 1)).Sublist ns := by
  conv => rhs; rw [<- List.take_append_drop (ns.countP (· < x)) ns]
  refine List.Sublist.append (List.Sublist.refl _) ?_
  rw [<- List.drop_drop]
  exact List.drop_sublist _ _
 have h3 : ns.filter (x <= ·) = x :: ns.filter (x < ·) := by
  clear h1 h2 hsub
  induction ns with
  | nil => cases hx
  | cons a ns ih =>
   obtain ⟨k1, k2⟩ := List.pairwise_cons.1 h
   rcases List.mem_cons.1 hx with rfl | hx
   ·rw [List.filter_cons_of_pos (by simp), List.filter_cons_of_neg (by simp)]
    congr 1
    apply List.filter_congr
    intro y hy
    have := k1 y hy
    simp; omega
   ·have := k1 x hx
    rw [List.filter_cons_of_neg (by simp; omega), List.filter_cons_of_neg (by simp; omega)]
    exact ih k2 hx
 have h4 : ns.drop (ns.countP (· < x) + 1) = ns.filter (x < ·) := by
  rw [<- List.drop_drop, h2, h3]; rfl
 refine ⟨?_, h.sublist hsub, fun y => ?_⟩
 ·have h5 : (ns.drop (ns.countP (· < x))).length = (ns.filter (x <= ·)).length := by rw [h2]
  rw [h3, List.length_drop, List.length_cons] at h5
  omega
 ·rw [h1, h4]
  simp only [List.mem_append, List.mem_filter, decide_eq_true_eq]
  constructor
  ·rintro (h5 | h5)
   ·exact ⟨by omega, h5.1⟩
   ·exact ⟨by omega, h5.1⟩
  ·rintro ⟨h5, h6⟩
   by_cases h7 : y < x
   ·exact .inl ⟨h6, h7⟩
   ·exact .inr ⟨h6, by omega⟩
theorem yp {α β : Type} {f : α -> β} : ∀ {G : List α} {i j : Nat} {a b : α}, (G.map f).Nodup -> G[i]? = some a -> G[j]? = some b -> f a = f b -> i = j := by
 intro G i j a b hn hi hj h
 have hi' : (G.map f)[i]? = some (f a) := by simp [hi]
 have hj' : (G.map f)[j]? = some (f b) := by simp [hj]
 have li := (List.getElem?_eq_some_iff.1 hi').1
 exact (List.getElem?_inj li hn).1 (by rw [hi', hj', h])
theorem yd {α β : Type} {f : α -> β} {G : List α} {j : Nat} {g g' g1 : α} (hn : (G.map f).Nodup) (hj : G[j]? = some g) : g1 ∈ G.set j g' ↔ g1 = g' \/ (g1 ∈ G /\ f g1 ≠ f g) := by
 have hlt := (List.getElem?_eq_some_iff.1 hj).1
 constructor
 ·intro h
  obtain ⟨i, hi⟩ := List.mem_iff_getElem?.1 h
  by_cases hij : j = i
  ·subst hij
   rw [List.getElem?_set_self hlt] at hi
   cases hi
   exact .inl rfl
  ·rw [List.getElem?_set_ne hij] at hi
   exact .inr ⟨List.mem_of_getElem? hi, fun he => hij (yp hn hi hj he).symm⟩
 ·rintro (rfl | ⟨h1, h2⟩)
  ·exact List.mem_iff_getElem?.2 ⟨j, List.getElem?_set_self hlt⟩
  ·obtain ⟨i, hi⟩ := List.mem_iff_getElem?.1 h1
   have hij : j ≠ i := fun e => by subst e; rw [hj] at hi; cases hi; exact h2 rfl
   exact List.mem_iff_getElem?.2 ⟨i, by rw [List.getElem?_set_ne hij]; exact hi⟩
theorem qx {α β : Type} {f : α -> β} {G : List α} {j : Nat} {g g1 : α} (hn : (G.map f).Nodup) (hj : G[j]? = some g) : g1 ∈ G.eraseIdx j ↔ (g1 ∈ G /\ f g1 ≠ f g) := by
 constructor
 ·intro h
  obtain ⟨i, hi⟩ := List.mem_iff_getElem?.1 h
  rw [List.getElem?_eraseIdx] at hi
  split at hi
  ·rename_i hij
   exact ⟨List.mem_of_getElem? hi, fun he => by have := yp hn hi hj he; omega⟩
  ·rename_i hij
   exact ⟨List.mem_of_getElem? hi, fun he => by have := yp hn hi hj he; omega⟩
 ·rintro ⟨h1, h2⟩
  obtain ⟨i, hi⟩ := List.mem_iff_getElem?.1 h1
  have hij : i ≠ j := fun e => by subst e; rw [hj] at hi; cases hi; exact h2 rfl
  refine List.mem_iff_getElem?.2 ?_
  by_cases hlt : i < j
  ·exact ⟨i, by rw [List.getElem?_eraseIdx, if_pos hlt]; exact hi⟩
  ·refine ⟨i - 1, ?_⟩
   rw [List.getElem?_eraseIdx, if_neg (by omega), show i - 1 + 1 = i by omega]
   exact hi
theorem jr {α β : Type} (f : α -> β) {G : List α} {j : Nat} {g g' : α} (hj : G[j]? = some g) (h : f g' = f g) : (G.set j g').map f = G.map f := by
 rw [List.map_set, h]
 apply List.ext_getElem?
 intro i
 by_cases hij : j = i
 ·subst hij
  have hlt := (List.getElem?_eq_some_iff.1 hj).1
  rw [List.getElem?_set_self (by simpa using hlt), List.getElem?_map, hj]; rfl
 ·rw [List.getElem?_set_ne hij]
theorem ztq {G : List Grp} (hn : (G.map (·.key)).Nodup) {g g1 : Grp} (h : g ∈ G) (h1 : g1 ∈ G) (hk : g1.key = g.key) : g1 = g := by
 obtain ⟨i, hi⟩ := List.mem_iff_getElem?.1 h
 obtain ⟨j, hj⟩ := List.mem_iff_getElem?.1 h1
 have := yp (f := Grp.key) hn hj hi hk
 subst this
 rw [hi] at hj
 cases hj; rfl
theorem zjm {l : List Ent} (hn : (l.map (·.1)).Nodup) {e e1 : Ent} (h : e ∈ l) (h1 : e1 ∈ l) (hk : e1.1 = e.1) : e1 = e := by
 obtain ⟨i, hi⟩ := List.mem_iff_getElem?.1 h
 obtain ⟨j, hj⟩ := List.mem_iff_getElem?.1 h1
 have := yp (f := fun (e : Ent) => e.1) hn hj hi hk
 subst this
 rw [hi] at hj
 cases hj; rfl
/-- All but one. -/
def yc (l : List Ent) (id : Int) : List Ent := l.filter fun e => e.1 != id
theorem mem_dropId {l : List Ent} {id : Int} {e : Ent} : e ∈ yc l id ↔ e ∈ l /\ e.1 ≠ id := by simp [yc]
theorem wn {l : List Ent} {id : Int} (h : (l.map (·.1)).Nodup) : ((yc l id).map (·.1)).Nodup := h.sublist ((List.filter_sublist).map _)
theorem zsp {l : List Ent} {G : List Grp} (h : Inv l G) {e : Ent} (he : e ∈ l) {j : Nat} {g : Grp} (hj : G[j]? = some g) (hk : g.key = zj e.2) {ns' : List Int} (hs : ns'.Pairwise (· < ·)) (hm : ∀ y, y ∈ ns' ↔ y ≠ e.1 /\ y ∈ g.ns) :
  (ns' = [] -> Inv (yc l e.1) (G.eraseIdx j)) /\ (ns' ≠ [] -> ∀ g' : Grp, g'.key = g.key -> g'.ns = ns' -> Inv (yc l e.1) (G.set j g')) := by
 have hgm := List.mem_of_getElem? hj
 have key : ∀ g1 ∈ G, g1.key ≠ g.key -> ∀ id, id ∈ g1.ns ↔ ∃ e1 ∈ yc l e.1, e1.1 = id /\ zj e1.2 = g1.key := by
  intro g1 h1 h2 id
  rw [h.m1 g1 h1 id]
  constructor
  ·rintro ⟨e1, h3, h4, h5⟩
   refine ⟨e1, mem_dropId.2 ⟨h3, fun h6 => h2 ?_⟩, h4, h5⟩
   rw [<- h5, zjm h.n1 he h3 h6, hk]
  ·rintro ⟨e1, h3, h4, h5⟩
   exact ⟨e1, (mem_dropId.1 h3).1, h4, h5⟩
 refine ⟨fun hn => ?_, fun hn g' hk' hns => ?_⟩
 ·refine ⟨wn h.n1, h.n2.sublist ((List.eraseIdx_sublist ..).map _), fun g1 h1 => ?_, fun g1 h1 => ?_, fun e1 h1 => ?_⟩
  ·exact h.s g1 ((qx (f := Grp.key) h.n2 hj).1 h1).1
  ·obtain ⟨h2, h3⟩ := (qx (f := Grp.key) h.n2 hj).1 h1
   exact key g1 h2 h3
  ·obtain ⟨h2, h3⟩ := mem_dropId.1 h1
   obtain ⟨g1, h4, h5⟩ := h.m2 e1 h2
   refine ⟨g1, (qx (f := Grp.key) h.n2 hj).2 ⟨h4, fun h6 => ?_⟩, h5⟩
   have h7 : e1.1 ∈ g.ns := (h.m1 g hgm e1.1).2 ⟨e1, h2, rfl, by rw [<- h5, h6]⟩
   have := (hm e1.1).2 ⟨h3, h7⟩
   rw [hn] at this
   cases this
 ·refine ⟨wn h.n1, by rw [jr Grp.key hj hk']; exact h.n2, fun g1 h1 => ?_, fun g1 h1 => ?_, fun e1 h1 => ?_⟩
  ·rcases (yd (f := Grp.key) h.n2 hj).1 h1 with rfl | ⟨h2, _⟩
   ·rw [hns]; exact ⟨hs, hn⟩
   ·exact h.s g1 h2
  ·rcases (yd (f := Grp.key) h.n2 hj).1 h1 with rfl | ⟨h2, h3⟩
   ·intro id
    rw [hns, hm, h.m1 g hgm, hk']
    constructor
    ·rintro ⟨h4, e1, h5, h6, h7⟩
     exact ⟨e1, mem_dropId.2 ⟨h5, by rw [h6]; exact h4⟩, h6, h7⟩
    ·rintro ⟨e1, h5, h6, h7⟩
     obtain ⟨h8, h9⟩ := mem_dropId.1 h5
     exact ⟨by rw [<- h6]; exact h9, e1, h8, h6, h7⟩
   ·exact key g1 h2 h3
  ·obtain ⟨h2, h3⟩ := mem_dropId.1 h1
   obtain ⟨g1, h4, h5⟩ := h.m2 e1 h2
   by_cases h6 : g1.key = g.key
   ·exact ⟨g', (yd (f := Grp.key) h.n2 hj).2 (.inl rfl), by rw [hk', <- h6, h5]⟩
   ·exact ⟨g1, (yd (f := Grp.key) h.n2 hj).2 (.inr ⟨h4, h6⟩), h5⟩
theorem zsq {l : List Ent} {G : List Grp} (h : Inv l G) {e : Ent} (he : ∀ e1 ∈ l, e1.1 ≠ e.1) :
  (∀ j g g', G[j]? = some g -> g.key = zj e.2 -> g'.key = g.key -> g'.ns.Pairwise (· < ·) -> (∀ y, y ∈ g'.ns ↔ y = e.1 \/ y ∈ g.ns) -> Inv (l ++ [e]) (G.set j g')) ∧
  ((∀ g ∈ G, g.key ≠ zj e.2) -> ∀ g', g'.key = zj e.2 -> g'.ns = [e.1] -> Inv (l ++ [e]) (G ++ [g'])) := by
 have n1 : ((l ++ [e]).map (·.1)).Nodup := by
  rw [List.map_append, List.nodup_append]
  refine ⟨h.n1, by simp, fun a ha b hb => ?_⟩
  obtain ⟨e1, h1, rfl⟩ := List.mem_map.1 ha
  simp at hb
  subst hb
  exact he e1 h1
 have key : ∀ g1 ∈ G, g1.key ≠ zj e.2 -> ∀ id, id ∈ g1.ns ↔ ∃ e1 ∈ l ++ [e], e1.1 = id /\ zj e1.2 = g1.key := by
  intro g1 h1 h2 id
  rw [h.m1 g1 h1 id]
  constructor
  ·rintro ⟨e1, h3, h4, h5⟩
   exact ⟨e1, by simp [h3], h4, h5⟩
  ·rintro ⟨e1, h3, h4, h5⟩
   rcases List.mem_append.1 h3 with h3 | h3
   ·exact ⟨e1, h3, h4, h5⟩
   ·simp at h3
    subst h3
    exact absurd h5.symm h2
 refine ⟨fun j g g' hj hk hk' hs hm => ?_, fun hno g' hk' hns => ?_⟩
 ·have hgm := List.mem_of_getElem? hj
  refine ⟨n1, by rw [jr Grp.key hj hk']; exact h.n2, fun g1 h1 => ?_, fun g1 h1 => ?_, fun e1 h1 => ?_⟩
  ·rcases (yd (f := Grp.key) h.n2 hj).1 h1 with rfl | ⟨h2, _⟩
   ·refine ⟨hs, fun hn => ?_⟩
    have := (hm e.1).2 (.inl rfl)
    rw [hn] at this; cases this
   ·exact h.s g1 h2
  ·rcases (yd (f := Grp.key) h.n2 hj).1 h1 with rfl | ⟨h2, h3⟩
   ·intro id
    rw [hm, h.m1 g hgm, hk']
    constructor
    ·rintro (rfl | ⟨e1, h5, h6, h7⟩)
     ·exact ⟨e, by simp, rfl, hk.symm⟩
     ·exact ⟨e1, by simp [h5], h6, h7⟩
    ·rintro ⟨e1, h5, h6, h7⟩
     rcases List.mem_append.1 h5 with h5 | h5
     ·exact .inr ⟨e1, h5, h6, h7⟩
     ·simp at h5
      subst h5
      exact .inl h6.symm
   ·exact key g1 h2 (by rw [<- hk]; exact h3)
  ·rcases List.mem_append.1 h1 with h1 | h1
   ·obtain ⟨g1, h4, h5⟩ := h.m2 e1 h1
    by_cases h6 : g1.key = g.key
    ·exact ⟨g', (yd (f := Grp.key) h.n2 hj).2 (.inl rfl), by rw [hk', <- h6, h5]⟩
    ·exact ⟨g1, (yd (f := Grp.key) h.n2 hj).2 (.inr ⟨h4, h6⟩), h5⟩
   ·simp at h1
    subst h1
    exact ⟨g', (yd (f := Grp.key) h.n2 hj).2 (.inl rfl), by rw [hk', hk]⟩
 ·refine ⟨n1, ?_, fun g1 h1 => ?_, fun g1 h1 => ?_, fun e1 h1 => ?_⟩
  ·rw [List.map_append, List.nodup_append]
   refine ⟨h.n2, by simp, fun a ha b hb => ?_⟩
   obtain ⟨g1, h1, rfl⟩ := List.mem_map.1 ha
   simp at hb
   subst hb
   rw [hk']
   exact hno g1 h1
  ·rcases List.mem_append.1 h1 with h1 | h1
   ·exact h.s g1 h1
   ·simp at h1
    subst h1
    rw [hns]
    exact ⟨by simp, by simp⟩
  ·rcases List.mem_append.1 h1 with h1 | h1
   ·exact key g1 h1 (hno g1 h1)
   ·simp at h1
    subst h1
    intro id
    rw [hns, hk']
    constructor
    ·intro h2
     simp at h2
     exact ⟨e, by simp, h2.symm, rfl⟩
    ·rintro ⟨e1, h2, h3, h4⟩
     rcases List.mem_append.1 h2 with h2 | h2
     ·obtain ⟨g2, h5, h6⟩ := h.m2 e1 h2
      exact absurd (h6.trans h4) (hno g2 h5)
     ·simp at h2
      subst h2
      simp [h3]
  ·rcases List.mem_append.1 h1 with h1 | h1
   ·obtain ⟨g1, h4, h5⟩ := h.m2 e1 h1
    exact ⟨g1, by simp [h4], h5⟩
   ·simp at h1
    subst h1
    exact ⟨g', by simp, hk'⟩
end Go.V
namespace Go.V
def qA (id : Int) (e : AV × AV) : Bool := match e.1 with | .s (.int _ n) => id == n | _ => false
def qG (x y : Int) (e : AV × AV) : Bool := match e.1 with | .agg [.s (.int _ a), .s (.int _ b)] => (x == a && (y == b && true)) | _ => false
def atId (id : Int) (e : Ent) : Bool := id == e.1
def zba (k : Int × Int) (g : Grp) : Bool := (k.1 == g.x && (k.2 == g.y && true))
theorem atKey_iff {k : Int × Int} {g : Grp} : zba k g = true ↔ g.key = k := by
 obtain ⟨x, y⟩ := k
 unfold zba Grp.key
 simp
 constructor
 ·rintro ⟨h1, h2⟩; exact ⟨h1.symm, h2.symm⟩
 ·rintro ⟨h1, h2⟩; exact ⟨h1.symm, h2.symm⟩
theorem ztx (l : List Ent) (id : Int) : (l.map entA).find? (qA id) = (l.find? (atId id)).map entA := by
 rw [List.find?_map]; rfl
theorem zae (l : List Ent) (id : Int) : (l.map entA).findIdx? (qA id) = l.findIdx? (atId id) := by
 rw [List.findIdx?_map]; rfl
theorem zj1 (G : List Grp) (k : Int × Int) : (G.map entG).find? (qG k.1 k.2) = (G.find? (zba k)).map entG := by
 rw [List.find?_map]; rfl
theorem zad (G : List Grp) (k : Int × Int) : (G.map entG).findIdx? (qG k.1 k.2) = G.findIdx? (zba k) := by
 rw [List.findIdx?_map]; rfl
theorem vg {α : Type} {q : α -> Bool} {l : List α} {e : α} (h : l.find? q = some e) : e ∈ l /\ q e = true := ⟨List.mem_of_find?_eq_some h, List.find?_some h⟩
theorem za5 {α : Type} {q : α -> Bool} {l : List α} {i : Nat} (h : l.findIdx? q = some i) : ∃ e, l[i]? = some e /\ q e = true /\ l.find? q = some e := by
 have h1 := List.findIdx?_eq_some_iff_getElem.1 h
 obtain ⟨hlt, hq, _⟩ := h1
 exact ⟨l[i], List.getElem?_eq_getElem hlt, hq, za4 h (List.getElem?_eq_getElem hlt)⟩
theorem zcz {α : Type} {q : α -> Bool} {l : List α} {e : α} (h : l.find? q = some e) : ∃ i, l.findIdx? q = some i /\ l[i]? = some e := by
 cases hi : l.findIdx? q with
 | none => rw [wk hi] at h; cases h
 | some i =>
  obtain ⟨e', h1, _, h3⟩ := za5 hi
  rw [h] at h3
  cases h3
  exact ⟨i, rfl, h1⟩
theorem zc2 {l : List Ent} (hn : (l.map (·.1)).Nodup) {i : Nat} {e : Ent} (hi : l[i]? = some e) : l.eraseIdx i = yc l e.1 := by
 induction l generalizing i with
 | nil => simp at hi
 | cons a l ih =>
  rw [List.map_cons, List.nodup_cons] at hn
  cases i with
  | zero =>
   simp at hi
   subst hi
   rw [List.eraseIdx_cons_zero]
   unfold yc
   rw [List.filter_cons_of_neg (by simp)]
   symm
   rw [List.filter_eq_self]
   intro e he
   simp
   intro h
   exact hn.1 (List.mem_map.2 ⟨e, he, h⟩)
  | succ i =>
   have hi : l[i]? = some e := by simpa using hi
   rw [List.eraseIdx_cons_succ, ih hn.2 hi]
   unfold yc
   rw [List.filter_cons_of_pos]
   simp
   intro h
   exact hn.1 (List.mem_map.2 ⟨e, List.mem_of_getElem? hi, h.symm⟩)
theorem zfr {l : List Ent} {id : Int} (h : l.find? (atId id) = none) : yc l id = l := by
 unfold yc
 rw [List.filter_eq_self]
 intro e he
 have := List.find?_eq_none.1 h e he
 simp [atId] at this
 simp
 exact fun h => this h.symm
section
variable {a : Store} {p ma mi : Nat} {l : List Ent} {bs1 : List Nat} {c1 : Nat} {G : List Grp} {bs2 : List Nat} {c2 : Nat}
theorem CellsAt.p_ne (h : CellsAt a p ma mi l bs1 c1 G bs2 c2) : ma ≠ p /\ mi ≠ p := by
 refine ⟨fun e => ?_, fun e => ?_⟩
 ·have := h.ha; rw [e, h.hp] at this; cases this
 ·have := h.hi; rw [e, h.hp] at this; cases this
theorem CellsAt.g_ne (h : CellsAt a p ma mi l bs1 c1 G bs2 c2) {g : Grp} (hg : g ∈ G) : g.b ≠ ma /\ g.b ≠ mi /\ g.b ≠ p := by
 obtain ⟨h1, h2, h3⟩ := h.hg g hg
 refine ⟨fun e => ?_, fun e => ?_, h3⟩
 ·have := h.ha; rw [<- e, h1] at this; cases this
 ·have := h.hi; rw [<- e, h1] at this; cases this
/-- An object that is none of them is laid. -/
theorem CellsAt.other (h : CellsAt a p ma mi l bs1 c1 G bs2 c2) {b : Nat} (x : AObj) (hp : b ≠ p) (hma : b ≠ ma) (hmi : b ≠ mi) (hg : ∀ g ∈ G, b ≠ g.b) : CellsAt (a.setObj b x) p ma mi l bs1 c1 G bs2 c2 :=
 ⟨by rw [zc (Ne.symm hp)]; exact h.hp, by rw [zc (Ne.symm hma)]; exact h.ha, by rw [zc (Ne.symm hmi)]; exact h.hi, h.ne,
  fun g hg' => by rw [zc (Ne.symm (hg g hg'))]; exact h.hg g hg', h.nd⟩
theorem CellsAt.fresh (h : CellsAt a p ma mi l bs1 c1 G bs2 c2) {b : Nat} (x : AObj) (hb : Fresh a b) : CellsAt (a.setObj b x) p ma mi l bs1 c1 G bs2 c2 :=
 h.other x (hb.ne_obj h.hp) (hb.ne_obj h.ha) (hb.ne_obj h.hi) fun g hg => hb.ne_obj (h.hg g hg).1
theorem CellsAt.setA (h : CellsAt a p ma mi l bs1 c1 G bs2 c2) (l' : List Ent) (bs : List Nat) (c : Nat) : CellsAt (a.setObj ma (.map (l'.map entA) bs c)) p ma mi l' bs c G bs2 c2 :=
 ⟨by rw [zc (Ne.symm h.p_ne.1)]; exact h.hp, zb _ _ _, by rw [zc (Ne.symm h.ne)]; exact h.hi, h.ne,
  fun g hg => by rw [zc (h.g_ne hg).1]; exact h.hg g hg, h.nd⟩
theorem CellsAt.setI (h : CellsAt a p ma mi l bs1 c1 G bs2 c2) {G' : List Grp} (bs : List Nat) (c : Nat) (hg : ∀ g ∈ G', a.obj g.b = some (.cells (g.ns.map aI ++ g.L)) /\ g.fits /\ g.b ≠ p) (nd : (G'.map (·.b)).Nodup) :
  CellsAt (a.setObj mi (.map (G'.map entG) bs c)) p ma mi l bs1 c1 G' bs c :=
 ⟨by rw [zc (Ne.symm h.p_ne.2)]; exact h.hp, by rw [zc h.ne]; exact h.ha, zb _ _ _, h.ne,
  fun g hg' => by
   obtain ⟨h1, h2, h3⟩ := hg g hg'
   have : g.b ≠ mi := fun e => by have := h.hi; rw [<- e, h1] at this; cases this
   rw [zc this]
   exact ⟨h1, h2, h3⟩, nd⟩
/-- The slice of one cell is turned, and its entry: before, what stands in the store. -/
structure CellsMid (a : Store) (p ma mi : Nat) (l : List Ent) (bs1 : List Nat) (c1 : Nat) (G : List Grp) (bs2 : List Nat) (c2 : Nat) (b : Nat) : Prop where
 hp : a.obj p = some (.cells [.s (.map (some ma)), .s (.map (some mi))])
 ha : a.obj ma = some (.map (l.map entA) bs1 c1)
 hi : a.obj mi = some (.map (G.map entG) bs2 c2)
 ne : ma ≠ mi
 hg : ∀ g ∈ G, g.b ≠ b -> a.obj g.b = some (.cells (g.ns.map aI ++ g.L)) /\ g.fits /\ g.b ≠ p
 nd : (G.map (·.b)).Nodup
theorem CellsAt.mid (h : CellsAt a p ma mi l bs1 c1 G bs2 c2) {b : Nat} (x : AObj) (hp : b ≠ p) (hma : b ≠ ma) (hmi : b ≠ mi) : CellsMid (a.setObj b x) p ma mi l bs1 c1 G bs2 c2 b :=
 ⟨by rw [zc (Ne.symm hp)]; exact h.hp, by rw [zc (Ne.symm hma)]; exact h.ha, by rw [zc (Ne.symm hmi)]; exact h.hi, h.ne,
  fun g hg' hne => by rw [zc hne]; exact h.hg g hg', h.nd⟩
theorem CellsMid.setI {b : Nat} (h : CellsMid a p ma mi l bs1 c1 G bs2 c2 b) {G' : List Grp} (bs : List Nat) (c : Nat) (hg : ∀ g ∈ G', (g ∈ G /\ g.b ≠ b) \/ (a.obj g.b = some (.cells (g.ns.map aI ++ g.L)) /\ g.fits /\ g.b ≠ p)) (nd : (G'.map (·.b)).Nodup) :
  CellsAt (a.setObj mi (.map (G'.map entG) bs c)) p ma mi l bs1 c1 G' bs c := by
 have hpi : mi ≠ p := fun e => by have := h.hi; rw [e, h.hp] at this; cases this
 refine ⟨by rw [zc (Ne.symm hpi)]; exact h.hp, by rw [zc h.ne]; exact h.ha, zb _ _ _, h.ne, fun g hg' => ?_, nd⟩
 have key : a.obj g.b = some (.cells (g.ns.map aI ++ g.L)) /\ g.fits /\ g.b ≠ p := by
  rcases hg g hg' with ⟨h1, h2⟩ | h1
  ·exact h.hg g h1 h2
  ·exact h1
 obtain ⟨h1, h2, h3⟩ := key
 have : g.b ≠ mi := fun e => by have := h.hi; rw [<- e, h1] at this; cases this
 rw [zc this]
 exact ⟨h1, h2, h3⟩
end
/-- One more in a cell. -/
theorem zi0 {a : Store} {p ma mi : Nat} {l : List Ent} {bs1 : List Nat} {c1 : Nat} {G : List Grp} {bs2 : List Nat} {c2 : Nat} (ha : CellsAt a p ma mi l bs1 c1 G bs2 c2) (hi : Inv l G) {id : Int} {pos : Vc} (hno : ∀ e ∈ l, e.1 ≠ id) :
  ∃ cur ns, vd false (.s (.slice none 0 0)) ((G.find? (zba (zj pos))).map entG) = cur /\ Ints a cur ns /\ ns.Pairwise (· < ·) /\ (ns = [] \/ ∃ g ∈ G, ns = g.ns) /\ (∀ b cap, cur = .s (.slice (some ⟨b, 0, none⟩) ns.length cap) -> a.obj b ≠ none) ∧
   ∀ vb lit b cap L, Fresh a vb -> (Fresh (a.setObj vb lit) b \/ ∃ c0, cur = .s (.slice (some ⟨b, 0, none⟩) ns.length c0)) ->
    (ns.take (ns.countP (· < id)) ++ id :: ns.drop (ns.countP (· < id))).length <= cap -> cap <= (ns.take (ns.countP (· < id)) ++ id :: ns.drop (ns.countP (· < id))).length + L.length -> cap <= 9223372036854775807 ->
    ((a.setObj vb lit).setObj b (.cells ((ns.take (ns.countP (· < id)) ++ id :: ns.drop (ns.countP (· < id))).map aI ++ L))).obj mi = some (.map (G.map entG) bs2 c2) ∧
    ((a.setObj vb lit).setObj b (.cells ((ns.take (ns.countP (· < id)) ++ id :: ns.drop (ns.countP (· < id))).map aI ++ L))).obj p = some (.cells [.s (.map (some ma)), .s (.map (some mi))]) ∧
    ∃ G' bs2' c2', qp (G.map entG) bs2 c2 (qG (zj pos).1 (zj pos).2) (.agg [int (zj pos).1, int (zj pos).2]) (.s (.slice (some ⟨b, 0, none⟩) (ns.take (ns.countP (· < id)) ++ id :: ns.drop (ns.countP (· < id))).length cap)) = .map (G'.map entG) bs2' c2' ∧
     CellsAt (((a.setObj vb lit).setObj b (.cells ((ns.take (ns.countP (· < id)) ++ id :: ns.drop (ns.countP (· < id))).map aI ++ L))).setObj mi (.map (G'.map entG) bs2' c2')) p ma mi l bs1 c1 G' bs2' c2' /\ Inv (l ++ [(id, pos)]) G' := by
 obtain ⟨w1, w2⟩ := zsq (e := (id, pos)) hi hno
 cases hf : G.find? (zba (zj pos)) with
 | none =>
  refine ⟨_, [], rfl, .inl ⟨rfl, rfl⟩, List.Pairwise.nil, .inl rfl, fun b cap h => ?_, fun vb lit b cap L hvb hb h1 h2 h3 => ?_⟩
  ·simp [vd] at h
  have hb : Fresh (a.setObj vb lit) b := by
   rcases hb with hb | ⟨c0, hb⟩
   ·exact hb
   ·simp [vd] at hb
  simp only [List.countP_nil, List.take_nil, List.drop_nil, List.nil_append] at *
  have a1 := ha.fresh lit hvb
  have a2 := a1.fresh (.cells ([id].map aI ++ L)) hb
  refine ⟨a2.hi, a2.hp, G ++ [⟨(zj pos).1, (zj pos).2, [id], b, cap, L⟩], bs2 ++ [c2], c2 + 1, ?_, ?_, ?_⟩
  ·unfold qp
   have : G.findIdx? (zba (zj pos)) = none := by
    cases hx : G.findIdx? (zba (zj pos)) with
    | none => rfl
    | some i => obtain ⟨e, _, _, h⟩ := za5 hx; rw [hf] at h; cases h
   rw [zad, this, List.map_append]
   rfl
  ·refine a2.setI _ _ (fun g hg => ?_) ?_
   ·rcases List.mem_append.1 hg with hg | hg
    ·exact a2.hg g hg
    ·simp at hg
     subst hg
     exact ⟨zb _ _ _, ⟨h1, h2, h3⟩, hb.ne_obj a1.hp⟩
   ·rw [List.map_append, List.nodup_append]
    refine ⟨ha.nd, by simp, fun x hx y hy => ?_⟩
    obtain ⟨g, hg, rfl⟩ := List.mem_map.1 hx
    simp at hy
    subst hy
    exact Ne.symm (hb.ne_obj (a1.hg g hg).1)
  ·refine w2 (fun g hg hk => ?_) _ rfl rfl
   have := List.find?_eq_none.1 hf g hg
   exact this (atKey_iff.2 hk)
 | some g =>
  obtain ⟨hg, hk⟩ := vg hf
  have hk := atKey_iff.1 hk
  obtain ⟨j, hj1, hj2⟩ := zcz hf
  obtain ⟨k1, k2, k3⟩ := ha.hg g hg
  obtain ⟨s1, s2⟩ := hi.s g hg
  have hnin : id ∉ g.ns := fun h => by
   obtain ⟨e, he, h1, _⟩ := (hi.m1 g hg id).1 h
   exact hno e he h1
  obtain ⟨i1, i2⟩ := zg9 s1 hnin
  refine ⟨_, g.ns, rfl, .inr ⟨g.b, g.cap, g.L, rfl, k1, k2⟩, s1, .inr ⟨g, hg, rfl⟩, fun b cap h => ?_, fun vb lit b cap L hvb hb h1 h2 h3 => ?_⟩
  ·simp [vd, entG] at h
   rw [<- h.1, k1]; simp
  generalize g.ns.take (g.ns.countP (· < id)) ++ id :: g.ns.drop (g.ns.countP (· < id)) = ins at *
  have a1 := ha.fresh lit hvb
  have hbne : b ≠ p /\ b ≠ ma /\ b ≠ mi /\ ∀ g1 ∈ G, g1 ≠ g -> g1.b ≠ b := by
   rcases hb with hb | ⟨c0, hb⟩
   ·exact ⟨hb.ne_obj a1.hp, hb.ne_obj a1.ha, hb.ne_obj a1.hi, fun g1 hg1 _ => Ne.symm (hb.ne_obj (a1.hg g1 hg1).1)⟩
   ·have : g.b = b := by simp [vd, entG] at hb; exact hb.1
    subst this
    obtain ⟨n1, n2, n3⟩ := ha.g_ne hg
    refine ⟨n3, n1, n2, fun g1 hg1 hne he => hne ?_⟩
    obtain ⟨i, hi1⟩ := List.mem_iff_getElem?.1 hg1
    have := yp (f := fun g : Grp => g.b) ha.nd hi1 hj2 he
    subst this
    rw [hj2] at hi1
    cases hi1; rfl
  obtain ⟨n3, n1, n2, n4⟩ := hbne
  have mid := a1.mid (.cells (ins.map aI ++ L)) n3 n1 n2
  let g2 : Grp := ⟨g.x, g.y, ins, b, cap, L⟩
  have hmem : ∀ g1, g1 ∈ G.set j g2 -> g1 = g2 \/ (g1 ∈ G /\ g1 ≠ g) := fun g1 h => by
   rcases (yd (f := Grp.key) hi.n2 hj2).1 h with h | ⟨h, h'⟩
   ·exact .inl h
   ·exact .inr ⟨h, fun e => h' (by rw [e])⟩
  refine ⟨mid.hi, mid.hp, G.set j g2, bs2, c2, ?_, ?_, w1 j g g2 hj2 hk rfl i1 i2⟩
  ·unfold qp
   rw [zad, hj1, List.map_set]
   simp only
   congr 2
   show _ = (AV.agg [int g.x, int g.y], _)
   rw [<- hk]; rfl
  ·refine mid.setI _ _ (fun g1 h1' => ?_) ?_
   ·rcases hmem g1 h1' with rfl | ⟨q1, q2⟩
    ·exact .inr ⟨zb _ _ _, ⟨h1, h2, h3⟩, n3⟩
    ·exact .inl ⟨q1, n4 g1 q1 q2⟩
   ·rw [List.map_set]
    have hlt := (List.getElem?_eq_some_iff.1 hj2).1
    unfold List.Nodup
    rw [List.pairwise_iff_getElem]
    intro i1 i2 hl1' hl2 hlt12 he
    replace he := congrArg some he
    rw [<- List.getElem?_eq_getElem, <- List.getElem?_eq_getElem] at he
    rw [List.getElem?_set, List.getElem?_set] at he
    simp only [List.length_map, List.length_set] at hl2 he
    have nd := ha.nd
    by_cases e1 : j = i1
    ·subst e1
     rw [if_pos rfl, if_pos hlt, if_neg (by omega), List.getElem?_map, List.getElem?_eq_getElem hl2] at he
     simp at he
     refine n4 G[i2] (List.getElem_mem hl2) (fun e => ?_) he.symm
     have := yp (f := Grp.key) hi.n2 (List.getElem?_eq_getElem hl2) hj2 (by rw [e])
     omega
    ·by_cases e2 : j = i2
     ·subst e2
      have hl1 : i1 < G.length := by omega
      rw [if_neg e1, if_pos rfl, if_pos hlt, List.getElem?_map, List.getElem?_eq_getElem hl1] at he
      simp at he
      refine n4 G[i1] (List.getElem_mem hl1) (fun e => ?_) he
      have := yp (f := Grp.key) hi.n2 (List.getElem?_eq_getElem hl1) hj2 (by rw [e])
      omega
     ·have hl1 : i1 < G.length := by omega
      rw [if_neg e1, if_neg e2, List.getElem?_map, List.getElem?_map, List.getElem?_eq_getElem hl1, List.getElem?_eq_getElem hl2] at he
      simp at he
      have := yp (f := fun g : Grp => g.b) nd (List.getElem?_eq_getElem hl1) (List.getElem?_eq_getElem hl2) he
      omega
theorem Ints.fresh {st : Store} {v : AV} {ns : List Int} (h : Ints st v ns) {b : Nat} (x : AObj) (hb : Fresh st b) : Ints (st.setObj b x) v ns := by
 rcases h with h | ⟨b1, cap, L, h1, h2, h3⟩
 ·exact .inl h
 ·exact .inr ⟨b1, cap, L, h1, by rw [zc (Ne.symm (hb.ne_obj h2))]; exact h2, h3⟩
end Go.V
namespace Go.V
/-- An append of one number to numbers over an object. -/
theorem zsy {P : Program} {c : Cfg} {e : TypeId} {ie : TI} (hie : c.I e = some ie) (hsz : ie.size = 1) (hby : ie.bytes = 8) {st : Store} {v : AV} {ns : List Int} (hv : Ints st v ns) (x : Int) (hlen : ns.length <= 1000000000000) {K : AV -> Store -> Prop}
  (h : ∀ b cap L, (Fresh st b \/ ∃ c0, v = .s (.slice (some ⟨b, 0, none⟩) ns.length c0)) -> (ns ++ [x]).length <= cap -> cap <= (ns ++ [x]).length + L.length -> cap <= 9223372036854775807 ->
   K (.s (.slice (some ⟨b, 0, none⟩) (ns ++ [x]).length cap)) (st.setObj b (.cells ((ns ++ [x]).map aI ++ L)))) : appendK P c st e (.av v) (.av (.lst 1 [[aI x]] none)) K := by
 have hrows : yy ie.size (.av (.lst 1 [[aI x]] none)) = some [[aI x]] := by simp [yy, hsz]
 refine ⟨.inr ⟨v, _, rfl, rfl, ?_⟩⟩
 have hl : (ns ++ [x]).length = ns.length + 1 := by simp
 rcases hv with ⟨rfl, rfl⟩ | ⟨b, cap, L, rfl, ho, h1, h2, h3⟩
 ·refine zgk hie hrows ⟨by rw [hby]; simp, by simp⟩ (by simp) (fun b' cap' hb hc hc2 => ?_)
  exact h b' cap' _ (.inl hb) (by simpa using hc) (by simp [hsz]; omega) hc2
 ·refine zgj hie (cap := cap) ho (by rw [hsz]; simp; omega) h1 hrows ⟨by rw [hby]; simp; omega, by simp; omega⟩ (fun hc => ?_) (fun hc b' cap' hb hc1 hc2 => ?_)
  ·have hc : ns.length + 1 <= cap := hc
   have e1 : zt (ns.map aI ++ L) (ns.length * ie.size) ([[aI x]] : List (List AV)).flatten = (ns ++ [x]).map aI ++ L.drop 1 := by
    rw [hsz, Nat.mul_one, xg (by simp)]
    simp
   have e0 : ns.map (fun n => AV.s (.int .i64 n)) ++ L = ns.map aI ++ L := rfl
   have := h b cap (L.drop 1) (.inr ⟨cap, rfl⟩) (by omega) (by simp; omega) h3
   rw [hl] at this
   rw [<- e1] at this
   exact this
  ·have hc1 : ns.length + 1 <= cap' := hc1
   have e1 : (ns.map aI ++ L).take (ns.length * ie.size) ++ ([[aI x]] : List (List AV)).flatten ++ List.replicate ((cap' - (ns.length + 1)) * ie.size) .any = (ns ++ [x]).map aI ++ List.replicate (cap' - (ns.length + 1)) .any := by
    rw [hsz, Nat.mul_one, Nat.mul_one, List.take_append_of_le_length (by simp), List.take_of_length_le (by simp)]
    simp
   have := h b' cap' (List.replicate (cap' - (ns.length + 1)) .any) (.inl hb) (by omega) (by simp; omega) hc2
   rw [hl, <- e1] at this
   exact this
/-- What Near holds beside the cells. -/
structure NearAt (N : Store) (b3 b4 b5 b6 p : Nat) (q : Vc) (r : Int) (v : AV) (acc : List Int) : Prop where
 h3 : N.obj b3 = some (.cells [.s (.pointer (some ⟨p, 0, none⟩))])
 h4 : N.obj b4 = some (.cells (vecC q))
 h5 : N.obj b5 = some (.cells [int r])
 h6 : N.obj b6 = some (.cells [v])
 hv : Ints N v acc
 n36 : b3 ≠ b6
 n46 : b4 ≠ b6
 n56 : b5 ≠ b6
 nv : ∀ b n cap, v = .s (.slice (some ⟨b, 0, none⟩) n cap) -> b ≠ b3 /\ b ≠ b4 /\ b ≠ b5 /\ b ≠ b6
theorem NearAt.app {N : Store} {b3 b4 b5 b6 p : Nat} {q : Vc} {r : Int} {v : AV} {acc : List Int} (h : NearAt N b3 b4 b5 b6 p q r v acc) {b cap : Nat} {L : List AV} {x : Int}
  (hb : Fresh N b \/ ∃ c0, v = .s (.slice (some ⟨b, 0, none⟩) acc.length c0)) (h1 : (acc ++ [x]).length <= cap) (h2 : cap <= (acc ++ [x]).length + L.length) (h3 : cap <= 9223372036854775807) :
  NearAt ((N.setObj b (.cells ((acc ++ [x]).map aI ++ L))).setObj b6 (.cells [.s (.slice (some ⟨b, 0, none⟩) (acc ++ [x]).length cap)])) b3 b4 b5 b6 p q r (.s (.slice (some ⟨b, 0, none⟩) (acc ++ [x]).length cap)) (acc ++ [x]) := by
 have hne : b ≠ b3 /\ b ≠ b4 /\ b ≠ b5 /\ b ≠ b6 := by
  rcases hb with hb | ⟨c0, hb⟩
  ·exact ⟨hb.ne_obj h.h3, hb.ne_obj h.h4, hb.ne_obj h.h5, hb.ne_obj h.h6⟩
  ·exact h.nv b _ _ hb
 obtain ⟨n3, n4, n5, n6⟩ := hne
 refine ⟨?_, ?_, ?_, zb _ _ _, .inr ⟨b, cap, L, rfl, ?_, h1, h2, h3⟩, h.n36, h.n46, h.n56, fun b' n c e => ?_⟩
 ·rw [zc h.n36, zc (Ne.symm n3)]; exact h.h3
 ·rw [zc h.n46, zc (Ne.symm n4)]; exact h.h4
 ·rw [zc h.n56, zc (Ne.symm n5)]; exact h.h5
 ·rw [zc n6, zb]; rfl
 ·simp at e
  obtain ⟨rfl, _⟩ := e
  exact ⟨n3, n4, n5, n6⟩
theorem Ints.un {a g : Store} {v : AV} {ns : List Int} (h : Ints g v ns) : Ints (a.un g) v ns := by
 rcases h with h | ⟨b1, cap, L, h1, h2, h3⟩
 ·exact .inl h
 ·exact .inr ⟨b1, cap, L, h1, un_r h2, h3⟩
end Go.V
namespace Go.V
section
variable {P : Program} {c : Cfg} {w : World} {st : Store} {Oth M : Nat -> Nat -> Prop}
/-- A map's stamps, as every world has them. -/
structure Stamps (es : List (AV × AV)) (bs : List Nat) (clk : Nat) : Prop where
  len : es.length = bs.length
  lt : ∀ t ∈ bs, t < clk
  inc : bs.Pairwise (· < ·)
/-- What holds of a map in every world may be used. -/
theorem zf4 {o : Oper} {args : List AV} {m clk : Nat} {es : List (AV × AV)} {bs : List Nat} (hm : st.obj m = some (.map es bs clk)) {R : AV -> Store -> Prop} (h : Stamps es bs clk -> AEff P c o args st R) : AEff P c o args st R := by
  refine ⟨fun Oth M w ρ hI sto hr => ?_⟩
  obtain ⟨⟨ms, g1, g2, g3, g4, g5, g6⟩, hM⟩ := sto.obj m _ hm
  exact (h ⟨by rw [g4]; simpa using g2, g5, g6⟩).out Oth M w ρ hI sto hr
theorem zj0 {t : Nat} {me : MapEntry} : ∀ {L : List MapEntry} {i : Nat}, (L.map (·.born)).Pairwise (· < ·) -> L[i]? = some me -> me.born = t -> L.find? (fun e => e.born == t) = some me := by
  intro L
  induction L with
  | nil => intro i _ h; simp at h
  | cons a L ih =>
    intro i hinc hti hbt
    rw [List.map_cons, List.pairwise_cons] at hinc
    cases i with
    | zero =>
      simp at hti
      subst hti
      rw [List.find?_cons_of_pos (by simp [hbt])]
    | succ i =>
      have hti : L[i]? = some me := by simpa using hti
      have h1 := hinc.1 me.born (List.mem_map_of_mem (List.mem_of_getElem? hti))
      rw [List.find?_cons_of_neg (by simp; omega)]
      exact ih hinc.2 hti hbt
theorem zh5 {o : Oper} {x : Operand} (ho : o.op = .entry x) {b m clk since : Nat} {es : List (AV × AV)} {bs seen : List Nat} {i t : Nat} {e : AV × AV} (hb : st.obj b = some (.iter m since (seen ++ [t]) clk)) (hm : st.obj m = some (.map es bs clk))
    (he : es[i]? = some e) (hbi : bs[i]? = some t) {R : AV -> Store -> Prop} (h : R (.tup [e.1, e.2]) st) : AEff P c o [.s (.pointer (some ⟨b, 0, none⟩))] st R := by
  refine ⟨fun Oth M w ρ hI sto hr => ?_⟩
  rw [ho] at hr
  have hr : Reads w (fun b o => M b o \/ Oth b o) [.s (.pointer (some ⟨b, 0, none⟩))] [ρ x] := by simpa [Op.operands] using hr
  obtain ⟨u, hx0, hx⟩ := zgb hr
  simp only [List.cons.injEq, and_true] at hx0
  rw [<- hx0] at hx
  have hx := VRel.eq_s hx
  obtain ⟨⟨ms, g1, g2, g3, g4, g5, g6⟩, hM⟩ := sto.obj m _ hm
  obtain ⟨hit, hMb⟩ := sto.obj b _ hb
  have hit : w.heap[b]? = some (.mapIter (some m) since (seen ++ [t]).toArray clk) := hit
  have hgo : (getObj b).run P w = .ok (.mapIter (some m) since (seen ++ [t]).toArray clk) w := by simp [getObj, Sem.run, hit]
  have hlt : i < ms.size := by rw [<- g2]; exact (List.getElem?_eq_some_iff.1 he).1
  have hmi : ms[i]? = some ms[i] := Array.getElem?_eq_getElem hlt
  have hbt : ms[i].born = t := by
    rw [g4, List.getElem?_map, Array.getElem?_toList, hmi] at hbi
    simpa using hbi
  have hfind : ms.find? (fun e => e.born == t) = some ms[i] := by
    rw [<- Array.find?_toList]
    exact zj0 (by rw [<- g4]; exact g6) (by rw [Array.getElem?_toList]; exact hmi) hbt
  have hback : (seen ++ [t]).toArray.back? = some t := by simp
  have hrun : (execOp ρ o).run P w = .ok (.value (.tuple #[ms[i].key, ms[i].val])) w := by
    simp only [execOp, ho, Instr.entry, hx, Sem.run_bind, hgo, Result.andThen_ok, hback, yh g1, bne_self_eq_false, Bool.false_eq_true, if_false, hfind, Sem.run_pure]
  rw [hrun]
  have hrel := g3 i e ms[i] he hmi
  exact ⟨_, st, M, h, zz (Reads.cons hrel.1 (Reads.cons hrel.2 Reads.nil)), sto, Chg.refl _ _⟩
end
end Go.V
namespace Go.V
theorem zgf {x r : Int} (hx : 0 <= x) (hr : 0 < r) (h : x * x < r * r) : x < r := by
 by_cases h1 : x < r
 ·exact h1
 ·have h2 : r <= x := by omega
  have h3 : r * r <= x * x := Int.mul_le_mul h2 h2 (by omega) hx
  omega
theorem zj9 {a b r : Int} (ha : yu a) (hb : yu b) (hr : 0 < r) (hr2 : r <= 9223372036854775807) (h : asz (fsub a b) < r) : fsub a r <= nrm b /\ nrm b <= fadd a r := by
 have h1 := wv ha
 have h2 := wv hb
 have h3 := xl (n := -nrm b) (by omega)
 have h4 := xl (n := r) (by omega)
 have h5 := xl (n := -r) (by omega)
 have h6 := zb4 a b
 have h7 := xl (n := fsub a b) (by omega)
 unfold asz at h
 rw [h7] at h
 unfold fsub fadd at *
 rw [h3] at h
 rw [h4, h5]
 unfold vi at *
 generalize nrm a = x at *
 generalize nrm b = y at *
 refine ⟨?_, ?_⟩ <;> (repeat' split) <;> (repeat' split at h) <;> omega
/-- Who is near stands in a cell between. -/
theorem zi8 {q p : Vc} {r : Int} (hq : q.ok) (hp : p.ok) (hr : 0 < r) (hr2 : r <= 9223372036854775807) (h : near q p r = true) :
  ((zj (fsub q.1 r, fsub q.2 r)).1 <= (zj p).1 /\ (zj p).1 <= (zj (fadd q.1 r, fadd q.2 r)).1) /\ ((zj (fsub q.1 r, fsub q.2 r)).2 <= (zj p).2 /\ (zj p).2 <= (zj (fadd q.1 r, fadd q.2 r)).2) := by
 unfold near at h
 have h := (of_decide_eq_true h).2
 have e1 := zhy (jx q.1 p.1)
 have e2 := zhy (jx q.2 p.2)
 have m1 : 0 <= asz (fsub q.1 p.1) * asz (fsub q.1 p.1) := Int.mul_nonneg e1.1 e1.1
 have m2 : 0 <= asz (fsub q.2 p.2) * asz (fsub q.2 p.2) := Int.mul_nonneg e2.1 e2.1
 have h' : asz (fsub q.1 p.1) * asz (fsub q.1 p.1) + asz (fsub q.2 p.2) * asz (fsub q.2 p.2) < r * r := h
 have d1 := zj9 hq.1 hp.1 hr hr2 (zgf e1.1 hr (by omega))
 have d2 := zj9 hq.2 hp.2 hr hr2 (zgf e2.1 hr (by omega))
 have n1 := xl (zb4 q.1 r).1
 have n2 := xl (zb4 q.2 r).1
 have n3 := xl (zed q.1 r).1
 have n4 := xl (zed q.2 r).1
 unfold zj
 simp only [n1, n2, n3, n4]
 omega
theorem zsh {q : Vc} {r : Int} (hq : q.ok) (hr : 0 < r) (hr2 : r <= 9223372036854775807) :
  (zj (fsub q.1 r, fsub q.2 r)).1 <= (zj (fadd q.1 r, fadd q.2 r)).1 /\ (zj (fsub q.1 r, fsub q.2 r)).2 <= (zj (fadd q.1 r, fadd q.2 r)).2 := by
 have key : ∀ a : Int, yu a -> fsub a r <= fadd a r := by
  intro a ha
  have h1 := wv ha
  have h4 := xl (n := r) (by omega)
  have h5 := xl (n := -r) (by omega)
  unfold fsub fadd
  rw [h4, h5]
  unfold vi
  generalize nrm a = x at *
  (repeat' split) <;> omega
 have k1 := key q.1 hq.1
 have k2 := key q.2 hq.2
 have n1 := xl (zb4 q.1 r).1
 have n2 := xl (zb4 q.2 r).1
 have n3 := xl (zed q.1 r).1
 have n4 := xl (zed q.2 r).1
 unfold zj
 simp only [n1, n2, n3, n4]
 omega
theorem zkd {p : Vc} (h : p.ok) : (-70368744177664 <= (zj p).1 /\ (zj p).1 <= 70368744177664) /\ (-70368744177664 <= (zj p).2 /\ (zj p).2 <= 70368744177664) := by
 have h1 := wv h.1
 have h2 := wv h.2
 unfold zj
 simp only
 omega
/-- Those near in the cells that are done. -/
def NearIn (l : List Ent) (q : Vc) (r : Int) (D : Ent -> Prop) (acc : List Int) : Prop := acc.Nodup /\ ∀ id, id ∈ acc ↔ ∃ e ∈ l, e.1 = id /\ near q e.2 r = true /\ D e
theorem NearIn.congr {l : List Ent} {q : Vc} {r : Int} {D D' : Ent -> Prop} {acc : List Int} (h : NearIn l q r D acc) (hD : ∀ e ∈ l, near q e.2 r = true -> (D e ↔ D' e)) : NearIn l q r D' acc := by
 refine ⟨h.1, fun id => ?_⟩
 rw [h.2 id]
 constructor
 ·rintro ⟨e, h1, h2, h3, h4⟩; exact ⟨e, h1, h2, h3, (hD e h1 h3).1 h4⟩
 ·rintro ⟨e, h1, h2, h3, h4⟩; exact ⟨e, h1, h2, h3, (hD e h1 h3).2 h4⟩
theorem NearIn.len {l : List Ent} {q : Vc} {r : Int} {D : Ent -> Prop} {acc : List Int} (h : NearIn l q r D acc) : acc.length <= l.length := by
 have := List.Nodup.length_le_of_subset (l₂ := l.map (·.1)) h.1 (fun id hid => by
  obtain ⟨e, h1, h2, _⟩ := (h.2 id).1 hid
  exact List.mem_map.2 ⟨e, h1, h2⟩)
 simpa using this
/-- One more is looked at. -/
theorem NearIn.step {l : List Ent} (hn : (l.map (·.1)).Nodup) {q : Vc} {r : Int} {D : Ent -> Prop} {acc : List Int} (h : NearIn l q r D acc) {e : Ent} (he : e ∈ l) (hD : ¬ D e) : NearIn l q r (fun e' => D e' \/ e' = e) (if near q e.2 r then acc ++ [e.1] else acc) := by
 cases hnr : near q e.2 r with
 | false =>
  refine h.congr fun e' he' hn' => ⟨.inl, fun hh => hh.elim id fun hh => ?_⟩
  rw [hh, hnr] at hn'; cases hn'
 | true =>
  refine ⟨?_, fun id => ?_⟩
  ·rw [if_pos rfl, List.nodup_append]
   refine ⟨h.1, by simp, fun a ha b hb => ?_⟩
   simp at hb
   subst hb
   intro hab
   subst hab
   obtain ⟨e', h1, h2, _, h4⟩ := (h.2 _).1 ha
   rw [zjm hn he h1 h2] at h4
   exact hD h4
  ·rw [if_pos rfl, List.mem_append, h.2 id]
   constructor
   ·rintro (⟨e', h1, h2, h3, h4⟩ | h1)
    ·exact ⟨e', h1, h2, h3, .inl h4⟩
    ·simp at h1; exact ⟨e, he, h1.symm, hnr, .inr rfl⟩
   ·rintro ⟨e', h1, h2, h3, h4 | h4⟩
    ·exact .inl ⟨e', h1, h2, h3, h4⟩
    ·subst h4; exact .inr (by simp [h2])
theorem zhc {l : List Ent} {G : List Grp} (h : Inv l G) : G.length <= l.length := by
 have h1 : (G.map fun g => g.ns.headD 0).Nodup := by
  unfold List.Nodup
  rw [List.pairwise_map]
  have n2 := h.n2
  unfold List.Nodup at n2
  rw [List.pairwise_map] at n2
  have key : ∀ g ∈ G, g.ns.headD 0 ∈ g.ns := fun g hg => by
   have := (h.s g hg).2
   cases hns : g.ns with
   | nil => exact absurd hns this
   | cons a t => simp
  rw [List.pairwise_iff_getElem] at n2 ⊢
  intro i j hi hj hij he
  obtain ⟨e1, q1, q2, q3⟩ := (h.m1 G[i] (List.getElem_mem hi) _).1 (key _ (List.getElem_mem hi))
  obtain ⟨e2, q4, q5, q6⟩ := (h.m1 G[j] (List.getElem_mem hj) _).1 (key _ (List.getElem_mem hj))
  refine n2 i j hi hj hij ?_
  rw [<- q3, <- q6, zjm h.n1 q4 q1 (by rw [q2, q5, he])]
 have := List.Nodup.length_le_of_subset (l₂ := l.map (·.1)) h1 (fun id hid => by
  obtain ⟨g, hg, rfl⟩ := List.mem_map.1 hid
  have := (h.s g hg).2
  cases hns : g.ns with
  | nil => exact absurd hns this
  | cons a t =>
   obtain ⟨e, q1, q2, _⟩ := (h.m1 g hg a).1 (by rw [hns]; simp)
   exact List.mem_map.2 ⟨e, q1, by simpa using q2⟩)
 simpa using this
theorem zdw {xs : List Int} (h : xs.Nodup) : (xs.mergeSort fun x y => decide (x <= y)).Pairwise (· < ·) /\ ∀ n, n ∈ (xs.mergeSort fun x y => decide (x <= y)) ↔ n ∈ xs := by
 have h1 := List.pairwise_mergeSort (le := fun x y : Int => decide (x <= y)) (fun a b c h1 h2 => by simp at *; omega) (fun a b => by simp; omega) xs
 have h2 : (xs.mergeSort fun x y => decide (x <= y)).Nodup := (List.mergeSort_perm xs _).nodup_iff.2 h
 refine ⟨?_, fun n => List.mem_mergeSort⟩
 have h3 := h1.and h2
 exact h3.imp fun ⟨h4, h5⟩ => by simp at h4; omega
/-- The numbers of those near. -/
def zet (l : List Ent) (q : Vc) (r : Int) (ns : List Int) : Prop := ns.Pairwise (· < ·) /\ ∀ id, id ∈ ns ↔ ∃ e ∈ l, e.1 = id /\ near q e.2 r = true
theorem zbs {a g : Store} {b : Nat} {x : AObj} (h : ¬ g.has b) : (a.un g).setObj b x = (a.setObj b x).un g := by
 obtain ⟨h1, h2⟩ := zcp h
 unfold Store.un Store.setObj
 congr
 funext i
 by_cases hi : i = b
 ·subst hi; simp [h1]
 ·simp [nbeq hi]
theorem zj8 {a g : Store} {b : Nat} {x : AObj} (h : Disj a g) (hb : ¬ g.has b) : Disj (a.setObj b x) g := by
 intro i hi hg
 rcases has_setObj_iff.1 hi with rfl | hi
 ·exact hb hg
 ·exact h i hi hg
theorem zhm {a g : Store} {b : Nat} {x y : AObj} (h : Disj (a.setObj b x) g) : Disj (a.setObj b y) g /\ ¬ g.has b := by
 have h1 : ¬ g.has b := h b (has_setObj_iff.2 (.inl rfl))
 refine ⟨fun i hi hg => ?_, h1⟩
 rcases has_setObj_iff.1 hi with rfl | hi
 ·exact h1 hg
 ·exact h i (has_setObj_iff.2 (.inr hi)) hg
theorem zec {l : List Ent} (hn : (l.map (·.1)).Nodup) {e : Ent} (he : e ∈ l) : l.find? (atId e.1) = some e := by
 cases hf : l.find? (atId e.1) with
 | none =>
  have := List.find?_eq_none.1 hf e he
  simp [atId] at this
 | some e' =>
  obtain ⟨h1, h2⟩ := vg hf
  have : e'.1 = e.1 := (by simpa [atId] using h2 : e.1 = e'.1).symm
  rw [zjm hn he h1 this]
end Go.V
namespace Go.V
def idxI : Option Nat -> Int | some i => (i : Int) | none => -1
theorem zom (a : Store) : Store.empty.un a = a := by
 unfold Store.un Store.empty
 congr <;> funext i
 ·cases a.obj i <;> rfl
 ·cases a.tok i <;> rfl
theorem disj_un {a b c : Store} : Disj (a.un b) c ↔ Disj a c /\ Disj b c :=
 ⟨fun h => ⟨fun i h1 => h i (un_has.2 (.inl h1)), fun i h1 => h i (un_has.2 (.inr h1))⟩, fun ⟨h1, h2⟩ i h => (un_has.1 h).elim (h1 i) (h2 i)⟩
theorem zpd {a g : Store} : (a.un g).Le g := ⟨fun b y h => ⟨y, un_r h, AObj.le_refl y⟩, fun b x h => zk0 h⟩
/-- From a store that says more. -/
theorem AWp.leS {P : Program} {c : Cfg} {code : Code} {Q : Exit -> Fr -> Store -> Prop} {A : Fr} {st st' : Store} (hle : st.Le st') (h : AWp P c code Q A st') : AWp P c code Q A st := by
 refine ⟨fun Oth M a w ⟨β, s⟩ => h.out Oth M a w ⟨β, { tsz := s.tsz, dfr := s.dfr, tm := s.tm, bx := s.bx, inj := s.inj, sep := fun k b hk hb => s.sep k b hk ?_, sto := s.sto.weakenLe hle }⟩⟩
 rcases hb with hb | hb
 ·cases hx : st'.obj b with
  | none => exact absurd hx hb
  | some y =>
   obtain ⟨x, h1, _⟩ := hle.obj b y hx
   exact .inl (by rw [h1]; simp)
 ·cases hx : st'.tok b with
  | none => exact absurd hx hb
  | some y => exact .inr (by rw [hle.tok b y hx]; simp)
/-- A list reads on. -/
theorem y7 {st : Store} {x : AV} {Oth M : Nat -> Nat -> Prop} {w : World} {v : Value} (h : VRel w (fun b o => M b o \/ Oth b o) x v) : VRel w (fun b o => (M b o \/ Oth b o) /\ st.obj b = none) x v :=
 h.mono fun _ _ h => h.1
end Go.V
namespace Go.V
/-- A building, a unit, a world. -/
structure Bld where
 id : Int
 owner : Int
 x : Int
 y : Int
 w : Int
 h : Int
 deriving DecidableEq
structure Unt where
 id : Int
 owner : Int
 kind : Int
 pos : Vc
 goal : Int
 next : Int
 stuck : Int
 inn : Int
 state : Int
 deriving DecidableEq
structure Wld where
 tick : Int
 players : Int
 next : Int
 G : Gnd
 B : List Bld
 U : List Unt
 deriving DecidableEq
def bldC (b : Bld) : List AV := [int b.id, int b.owner, int b.x, int b.y, int b.w, int b.h]
def untC (u : Unt) : List AV := [int u.id, int u.owner, int u.kind, int u.pos.1, int u.pos.2, int u.goal, int u.next, int u.stuck, int u.inn, int u.state]
def wldC (w : Wld) : List AV := [int w.tick, int w.players, int w.next, int w.G.W, int w.G.H, byts w.G.T, lst 6 bldC w.B, lst 10 untC w.U]
def Wld.fits (w : Wld) : Prop := w.G.fits /\ w.B.length <= 1000000000000 /\ w.U.length <= 1000000000000
/-- Kinds. -/
def kRad (k : Int) : Int := if k = 0 then 24576 else if k = 2 then 81920 else 32768
def zo6 (k : Int) : Int := if k = 0 then 16384 else if k = 1 then 24576 else if k = 2 then 8192 else 16384
def kCls (k : Int) : Int := if k = 0 then 0 else if k = 1 then 1 else if k = 2 then 0 else 2
def zog (k : Int) : Int := if k = 2 then 1 else 0
def kg (k : Int) : Int := if k = 0 then 0 else if k = 1 then 0 else if k = 2 then 0 else 4
def zsn (k : Int) : List AV := [int (kRad k), int (zo6 k), int (kCls k), int (zog k), int (kg k)]
def zcu (k : Int) : Prop := 0 <= k /\ k <= 3
def zi2 (c : Int) (t : Nat) : Int := ((if c = 0 then [2, 1, 3, 5, 0, 0] else if c = 1 then [2, 1, 6, 0, 0, 0] else [2, 1, 0, 3, 2, 0]) : List Int).getD t 0
/-- Buildings. -/
def bldP (b : Bld) : Prop := (1 <= b.id /\ b.id <= 1099511627776) /\ (1 <= b.owner /\ b.owner <= 8) /\ (1 <= b.w /\ b.w <= 4) /\ (1 <= b.h /\ b.h <= 4)
def onP (g : Gnd) (b : Bld) : Prop := (0 <= b.x /\ b.x + b.w <= g.W) /\ (0 <= b.y /\ b.y + b.h <= g.H)
def hasP (g : Gnd) (b : Bld) (t : Nat) : Prop := (b.x <= (t : Int) % g.W /\ (t : Int) % g.W < b.x + b.w) /\ (b.y <= (t : Int) / g.W /\ (t : Int) / g.W < b.y + b.h)
instance (g : Gnd) (b : Bld) (t : Nat) : Decidable (hasP g b t) := inferInstanceAs (Decidable (_ /\ _))
def zeb (g : Gnd) (b : Bld) : Prop := ∀ t, t < g.T.length -> hasP g b t -> (g.T.getD t 0).toNat <= 1
def zcq (a b : Bld) : Prop := (a.x < b.x + b.w /\ b.x < a.x + a.w) /\ (a.y < b.y + b.h /\ b.y < a.y + a.h)
def zf9 (l : List Bld) : Prop := ∀ j, (h : j < l.length) -> 0 < j -> (l[j - 1]'(by omega)).id < l[j].id
def xh (l : List Unt) : Prop := ∀ j, (h : j < l.length) -> 0 < j -> (l[j - 1]'(by omega)).id < l[j].id
def zgl (l : List Bld) : Prop := ∀ j, (h : j < l.length) -> ∀ i, (hi : i < j) -> ¬ zcq l[j] (l[i]'(by omega))
def zhu (g : Gnd) (l : List Bld) : Prop := l.length <= 256 /\ zf9 l /\ (∀ b ∈ l, bldP b /\ onP g b /\ zeb g b) /\ zgl l
def covB (g : Gnd) (l : List Bld) (t : Nat) : Bool := l.any fun b => decide (hasP g b t)
def jf (g : Gnd) (l : List Bld) (c : Int) (t : Nat) : Bool := !covB g l t && decide (0 < zi2 c (g.T.getD t 0).toNat)
/-- Discs. -/
def tx (g : Gnd) (t : Nat) : Int := (t : Int) % g.W * 65536
def ty (g : Gnd) (t : Nat) : Int := (t : Int) / g.W * 65536
def off (x lo : Int) : Int := if x < lo then lo - x else if x > lo + 65536 then x - (lo + 65536) else 0
def hitP (g : Gnd) (t : Nat) (p : Vc) (r : Int) : Prop := off p.1 (tx g t) * off p.1 (tx g t) + off p.2 (ty g t) * off p.2 (ty g t) < r * r
instance (g : Gnd) (t : Nat) (p : Vc) (r : Int) : Decidable (hitP g t p r) := inferInstanceAs (Decidable (_ < _))
def zd8 (g : Gnd) (l : List Bld) (c : Int) (p : Vc) (r : Int) : Prop :=
 ((r <= p.1 /\ p.1 + r <= g.W * 65536) /\ (r <= p.2 /\ p.2 + r <= g.H * 65536)) /\ ∀ t, t < g.T.length -> jf g l c t = false -> ¬ hitP g t p r
def zbb (p : Vc) (r : Int) (q : Vc) (s : Int) : Bool := !near p q (r + s)
def xn (w : Wld) (id k : Int) (p : Vc) : Prop :=
 zd8 w.G w.B (kCls k) p (kRad k) /\ ∀ u ∈ w.U, u.inn = 0 -> u.id ≠ id -> zbb p (kRad k) u.pos (kRad u.kind) = true
/-- Worlds. -/
def ze4 (g : Gnd) (t : Int) : Prop := t = -1 \/ (0 <= t /\ t < g.W * g.H)
def untP (w : Wld) (u : Unt) : Prop :=
 ((1 <= u.id /\ u.id < w.next) /\ (1 <= u.owner /\ u.owner <= w.players) /\ zcu u.kind) /\ (ze4 w.G u.goal /\ ze4 w.G u.next /\ (0 <= u.stuck /\ u.stuck < 8)) ∧
 ((0 <= u.state /\ u.state <= 4) /\ (u.state = 1 ↔ u.goal ≠ -1)) /\ (u.goal = -1 -> u.next = -1 /\ u.stuck = 0)
def zjo (w : Wld) : Prop :=
 ((0 <= w.tick /\ w.tick <= 1099511627776) /\ (1 <= w.players /\ w.players <= 8) /\ (1 <= w.next /\ w.next <= 1099511627776)) ∧
 (gndP w.G /\ zhu w.G w.B /\ w.U.length <= 4096) /\ ∀ b ∈ w.B, b.owner <= w.players /\ b.id < w.next
def zaj (w : Wld) : Prop := xh w.U /\ ∀ u ∈ w.U, untP w u /\ ∀ b ∈ w.B, b.id ≠ u.id
def inOf (l : List Unt) (id : Int) : List Int := (l.filter fun u => u.inn == id).map (·.id)
def zbj (w : Wld) (u : Unt) : Prop :=
 ∃ x ∈ w.U, x.id = u.inn /\ (x.inn = 0 /\ x.owner = u.owner) /\ ((inOf w.U u.inn).length : Int) <= kg x.kind /\ kg u.kind = 0 /\ u.pos = (0, 0) /\ u.goal = -1 /\ u.state = 0
def mayP (w : Wld) : Prop := (zjo w /\ zaj w) /\ (∀ u ∈ w.U, u.inn = 0 -> xn w u.id u.kind u.pos) /\ ∀ u ∈ w.U, u.inn ≠ 0 -> zbj w u
theorem beqD (a b : Int) : (a == b) = decide (a = b) := by rw [Bool.eq_iff_iff]; simp
theorem ym {g : Gnd} (h : gndP g) : 1 <= g.W * g.H /\ g.W * g.H <= 16384 /\ (g.T.length : Int) = g.W * g.H := by
 obtain ⟨⟨h1, h2⟩, ⟨h3, h4⟩, h5, _⟩ := h
 have : 1 * 1 <= g.W * g.H := Int.mul_le_mul h1 h3 (by decide) (by omega)
 have : g.W * g.H <= 128 * 128 := Int.mul_le_mul h2 h4 (by omega) (by decide)
 omega
end Go.V
namespace Go.V
theorem zgq {a b : Vc} (h1 : -2305843009213693952 <= a.1 /\ a.1 <= 2305843009213693952) (h2 : -2305843009213693952 <= a.2 /\ a.2 <= 2305843009213693952) (h3 : -2305843009213693952 <= b.1 /\ b.1 <= 2305843009213693952) (h4 : -2305843009213693952 <= b.2 /\ b.2 <= 2305843009213693952) :
  vsub a b = (a.1 - b.1, a.2 - b.2) := by
 have n : ∀ x : Int, -4611686018427387904 <= x /\ x <= 4611686018427387904 -> nrm x = x := fun x hx => by unfold nrm; rw [if_neg (by omega)]
 have c : ∀ x : Int, -4611686018427387904 <= x /\ x <= 4611686018427387904 -> vi x = x := fun x hx => by unfold vi; rw [if_neg (by omega), if_neg (by omega)]
 unfold vsub fsub fadd
 rw [n a.1 (by omega), n b.1 (by omega), n a.2 (by omega), n b.2 (by omega), n (-b.1) (by omega), n (-b.2) (by omega), c _ (by omega), c _ (by omega)]
 rfl
theorem zo9 {x : Int} (h : -4611686018427387904 <= x /\ x <= 4611686018427387904) : asz x * asz x = x * x := by
 have n : nrm x = x := by unfold nrm; rw [if_neg (by omega)]
 unfold asz
 rw [n]
 split
 ·rw [Int.neg_mul_neg]
 ·rfl
theorem zg5 {a b : Vc} {r : Int} (h1 : -2305843009213693952 <= a.1 /\ a.1 <= 2305843009213693952) (h2 : -2305843009213693952 <= a.2 /\ a.2 <= 2305843009213693952) (h3 : -2305843009213693952 <= b.1 /\ b.1 <= 2305843009213693952) (h4 : -2305843009213693952 <= b.2 /\ b.2 <= 2305843009213693952) (hr : 0 < r) :
  near a b r = decide ((a.1 - b.1) * (a.1 - b.1) + (a.2 - b.2) * (a.2 - b.2) < r * r) := by
 unfold near sqr
 rw [zgq h1 h2 h3 h4, zo9 (by dsimp only; omega), zo9 (by dsimp only; omega)]
 rw [Bool.eq_iff_iff, decide_eq_true_iff, decide_eq_true_iff]
 exact ⟨fun h => h.2, fun h => ⟨hr, h⟩⟩
theorem zdj {g : Gnd} (hg : gndP g) {t : Nat} (ht : (t : Int) < g.W * g.H) : (0 <= (t : Int) % g.W /\ (t : Int) % g.W < g.W) /\ (0 <= (t : Int) / g.W /\ (t : Int) / g.W < g.H) := by
 obtain ⟨⟨h1, h2⟩, ⟨h3, h4⟩, _⟩ := hg
 have h5 := Int.emod_nonneg (t : Int) (show g.W ≠ 0 by omega)
 have h6 := Int.emod_lt_of_pos (t : Int) (show 0 < g.W by omega)
 have h7 : 0 <= (t : Int) / g.W := Int.ediv_nonneg (by omega) (by omega)
 have h8 : (t : Int) / g.W < g.H := Int.ediv_lt_of_lt_mul (by omega) (by rw [Int.mul_comm]; exact ht)
 exact ⟨⟨h5, h6⟩, h7, h8⟩
theorem tquo {t : Nat} {w : Int} (hw : 1 <= w) : (t : Int).tdiv w = (t : Int) / w := Int.tdiv_eq_ediv_of_nonneg (by omega)
theorem trem {t : Nat} {w : Int} (hw : 1 <= w) : (t : Int).tmod w = (t : Int) % w := Int.tmod_eq_emod_of_nonneg (by omega)
theorem txty {g : Gnd} (hg : gndP g) {t : Nat} (ht : (t : Int) < g.W * g.H) : (0 <= tx g t /\ tx g t <= 8323072) /\ (0 <= ty g t /\ ty g t <= 8323072) := by
 have := zdj hg ht
 obtain ⟨⟨h1, h2⟩, ⟨h3, h4⟩, _⟩ := hg
 unfold tx ty
 omega
def kl (x lo : Int) : Int := min2 (max2 x lo) (lo + 65536)
theorem zja (a b : Int) : min2 a b = min a b := by unfold min2; by_cases h : b < a <;> simp [h] <;> omega
theorem zjb (a b : Int) : max2 a b = max a b := by unfold max2; by_cases h : b > a <;> simp [h] <;> omega
theorem zem (x lo : Int) : kl x lo = min (max x lo) (lo + 65536) := by unfold kl; rw [zja, zjb]
theorem zb9 (x lo : Int) : (x - kl x lo) * (x - kl x lo) = off x lo * off x lo := by
 rw [zem]
 unfold off
 by_cases h1 : x < lo
 ·rw [if_pos h1, show min (max x lo) (lo + 65536) = lo by omega]
  rw [<- Int.neg_mul_neg (x - lo), Int.neg_sub]
 ·rw [if_neg h1]
  by_cases h2 : x > lo + 65536
  ·rw [if_pos h2, show min (max x lo) (lo + 65536) = lo + 65536 by omega]
  ·rw [if_neg h2, show min (max x lo) (lo + 65536) = x by omega]
   simp
theorem zaf {x lo : Int} (h : 0 <= lo /\ lo <= 8323072) : 0 <= kl x lo /\ kl x lo <= 8388608 := by rw [zem]; omega
theorem zod {g : Gnd} (hg : gndP g) {t : Nat} (ht : (t : Int) < g.W * g.H) {p : Vc} (hp : jd p.1 p.2) {r : Int} (hr : 0 < r) :
  near p (kl p.1 (tx g t), kl p.2 (ty g t)) r = decide (hitP g t p r) := by
 have hb := txty hg ht
 have h1 := zaf (x := p.1) hb.1
 have h2 := zaf (x := p.2) hb.2
 obtain ⟨h3, h4⟩ := hp
 rw [zg5 (by omega) (by omega) (by dsimp only; omega) (by dsimp only; omega) hr]
 dsimp only
 rw [zb9, zb9]
 rfl
theorem zti {a r : Int} (ha : 0 <= a) (hr : 0 < r) (h : a * a < r * r) : a < r := by
 apply Decidable.byContradiction
 intro hn
 have : r * r <= a * a := Int.mul_le_mul (by omega) (by omega) (by omega) ha
 omega
end Go.V
namespace Go.V
def Store.delObj (st : Store) (b : Nat) : Store := { st with obj := fun i => bif Nat.beq i b then none else st.obj i }
theorem yk {st : Store} {b b' : Nat} {x : AObj} (h : (st.delObj b).obj b' = some x) : b' ≠ b /\ st.obj b' = some x := by
  have h : (bif Nat.beq b' b then none else st.obj b') = some x := h
  cases hb : Nat.beq b' b with
  | true => rw [hb] at h; cases h
  | false =>
    rw [hb] at h
    exact ⟨fun e => (by rw [e, Nat.beq_refl] at hb; cases hb), h⟩
/-- An object that is done with is a plain list. -/
theorem AWp.freeze {P : Program} {c : Cfg} {code : Code} {Q : Exit -> Fr -> Store -> Prop} {A : Fr} {st : Store} {d b n cap k : Nat} {rows : List (List AV)} {pad : List AV}
    (hA : A.t d = .av (.s (.slice (some ⟨b, 0, none⟩) n cap))) (ho : st.obj b = some (.cells (rows.flatten ++ pad))) (ht : st.tok b = none) (hn : rows.length = n) (hcap : n <= cap)
    (hk : ∀ row ∈ rows, row.length = k) (hall : ∀ row ∈ rows, ∀ x ∈ row, ∃ v, x = AV.s v /\ zv v = true)
    (h : AWp P c code Q (A.put d (.av (.lst k rows none))) (st.delObj b)) : AWp P c code Q A st := by
  refine ⟨fun Oth M a w ⟨β, sim⟩ => ?_⟩
  have hs : ∀ b' o, ((M b' o /\ b' ≠ b) \/ Oth b' o) -> (M b' o \/ Oth b' o) := fun _ _ h => h.imp (·.1) id
  have sim' : SimB c.n Oth β (A.put d (.av (.lst k rows none))) (st.delObj b) (fun b' o => M b' o /\ b' ≠ b) a w := by
    refine { tsz := sim.tsz, dfr := sim.dfr.sub fun _ _ h => h.1, tm := fun i => ?_, bx := fun j l hj => ⟨(sim.bx j l hj).1.mono hs, fun o => ⟨(sim.bx j l hj).2 o, ?_⟩⟩, inj := sim.inj, sep := fun j b' hj hb' => ?_, sto := ?_ }
    · by_cases hi : i = d
      · subst hi
        have e : (A.put i (.av (.lst k rows none))).t i = .av (.lst k rows none) := by
          show (bif Nat.beq i i then _ else A.t i) = _
          rw [Nat.beq_refl]; rfl
        rw [e]
        have h1 := sim.tm i
        rw [hA] at h1
        have h1 : VRel w (fun b o => M b o \/ Oth b o) (.s (.slice (some ⟨b, 0, none⟩) n cap)) (a.tmps.getD i undef) := h1
        generalize a.tmps.getD i undef = v at h1
        cases h1
        obtain ⟨⟨cs, e0, fr, hb0, huf, hlen, hrel⟩, hM⟩ := sim.sto.obj b _ ho
        subst hn
        have at1 : ∀ (i : Nat) (row : List AV) (j : Nat) (x : AV), rows[i]? = some row -> row[j]? = some x -> ∃ v, x = .s v /\ zv v = true /\ cs[i * k + j]? = some v := by
          intro i row j x hi hj
          obtain ⟨v, rfl, hv⟩ := hall row (List.mem_of_getElem? hi) x (List.mem_of_getElem? hj)
          have h5 := y9 hk hi hj
          have hlt := (List.getElem?_eq_some_iff.1 h5).1
          have h6 : (rows.flatten ++ pad)[i * k + j]? = some (.s v) := by rw [List.getElem?_append_left hlt]; exact h5
          have hlt2 : i * k + j < cs.size := by rw [<- hlen, List.length_append]; omega
          have h7 := hrel _ _ cs[i * k + j] h6 (by simp [hlt2])
          have : cs[i * k + j] = v := by generalize cs[i * k + j] = y at h7; cases h7; rfl
          exact ⟨v, rfl, hv, by rw [<- this]; simp [hlt2]⟩
        refine VRel.lst rows none b 0 cap k (fun p => cs.getD p undef) hcap (fun i row hi => hk row (List.mem_of_getElem? hi)) (fun _ h => by cases h) (fun i row j x hi hj => ?_) (fun i row j x hi hj => ?_) (fun i row j x hi hj => ?_)
        · obtain ⟨v, rfl, hv, h5⟩ := at1 i row j x hi hj
          refine ⟨?_, ?_⟩
          · rw [Nat.zero_add]
            simp only [World.cell?, hb0]
            rw [Array.getD_eq_getD_getElem?, h5]
            simp [h5]
          · rintro (⟨_, h⟩ | h)
            · exact h rfl
            · exact sim.sto.dis _ _ h (hM _)
        · obtain ⟨v, rfl, hv, h5⟩ := at1 i row j x hi hj
          rw [Array.getD_eq_getD_getElem?, h5]; exact hv
        · obtain ⟨v, rfl, hv, h5⟩ := at1 i row j x hi hj
          rw [Array.getD_eq_getD_getElem?, h5]; exact .s _
      · have e : (A.put d (.av (.lst k rows none))).t i = A.t i := by
          show (bif Nat.beq i d then _ else A.t i) = _
          have : Nat.beq i d = false := by
            cases hb : Nat.beq i d with
            | false => rfl
            | true => exact absurd ((z8 _ _).1 hb) hi
          rw [this]; rfl
        rw [e]
        have h1 := sim.tm i
        generalize A.t i = x at h1
        cases x with
        | any => trivial
        | und => exact h1
        | av x => exact VRel.mono hs h1
        | bx k off => exact h1
    · exact sim.sep j b (fun e => by rw [show A.bx j = some l from hj] at e; cases e) (.inl (by rw [ho]; simp))
    · refine sim.sep j b' hj ?_
      rcases hb' with hb' | hb'
      · cases hx : (st.delObj b).obj b' with
        | none => exact absurd hx hb'
        | some y => exact .inl (by rw [(yk hx).2]; simp)
      · exact .inr hb'
    · exact { obj := fun b' y hy => ⟨(sim.sto.obj b' y (yk hy).2).1.mono hs, fun o => ⟨(sim.sto.obj b' y (yk hy).2).2 o, (yk hy).1⟩⟩
              tok := fun b' top htk => by
                obtain ⟨c, e, fr, h1, h2, h3, h4⟩ := sim.sto.tok b' top htk
                exact ⟨c, e, fr, h1, h2, h3, fun o ho => ⟨h4 o ho, fun e => by subst e; rw [show st.tok b' = some top from htk] at ht; cases ht⟩⟩
              mlt := fun b' o hm => sim.sto.mlt b' o hm.1, olt := sim.sto.olt, dis := fun b' o ho hm => sim.sto.dis b' o ho hm.1 }
  refine Code.wpF_mono ?_ (h.out Oth _ a w ⟨β, sim'⟩)
  rintro e a' w' ⟨A', st', M', h1, h2, h3⟩
  exact ⟨A', st', M', h1, h2, { size := h3.size, keep := fun b' o hb hm => h3.keep b' o hb fun h => hm h.1, blk := fun b' hb hm => h3.blk b' hb fun o h => hm o h.1, shp := h3.shp, sub := fun b' o hm hb => (h3.sub b' o hm hb).1, tape := h3.tape, os := h3.os, output := h3.output }⟩
end Go.V
namespace Go.V
theorem za7 {st : Store} {b : Nat} {x : AObj} (h : st.obj b = none) : (st.setObj b x).delObj b = st := by
 unfold Store.setObj Store.delObj
 congr 1
 funext i
 by_cases hi : i = b
 ·subst hi; simp [h]
 ·simp [nbeq hi]
/-- The tiles of a building. -/
def qh (W : Int) (b : Bld) (y k : Nat) : List Int := (List.range k).map fun (x : Nat) => b.x + (x : Int) + W * (b.y + (y : Int))
def qk (W : Int) (b : Bld) (k : Nat) : List Int := (List.range k).flatMap fun y => qh W b y b.w.toNat
def qu (W : Int) (b : Bld) : List Int := qk W b b.h.toNat
theorem zdk (W : Int) (b : Bld) (y k : Nat) : qh W b y (k + 1) = qh W b y k ++ [b.x + (k : Int) + W * (b.y + (y : Int))] := by
 unfold qh; rw [List.range_succ]; simp
theorem jm (W : Int) (b : Bld) (k : Nat) : qk W b (k + 1) = qk W b k ++ qh W b k b.w.toNat := by
 unfold qk; rw [List.range_succ]; simp
theorem zam (W : Int) (b : Bld) (y k : Nat) : (qh W b y k).length = k := by unfold qh; simp
theorem ko (W : Int) (b : Bld) (k : Nat) : (qk W b k).length = k * b.w.toNat := by
 induction k with
 | zero => simp [qk]
 | succ k ih => rw [jm, List.length_append, ih, zam, Nat.succ_mul]
theorem zbv (W : Int) {b : Bld} (hb : bldP b) : (qu W b).length <= 16 := by
 unfold qu
 rw [ko]
 unfold bldP at hb
 have : b.h.toNat * b.w.toNat <= 4 * 4 := Nat.mul_le_mul (by omega) (by omega)
 omega
theorem xr {g : Gnd} (hg : gndP g) {x y : Int} (hx : 0 <= x /\ x < g.W) (hy : 0 <= y /\ y < g.H) :
  0 <= x + g.W * y /\ x + g.W * y < g.W * g.H /\ (x + g.W * y) % g.W = x /\ (x + g.W * y) / g.W = y := by
 obtain ⟨⟨h1, h2⟩, ⟨h3, h4⟩, _⟩ := hg
 have a1 : 0 <= g.W * y := Int.mul_nonneg (by omega) hy.1
 have a2 : g.W * y <= g.W * (g.H - 1) := Int.mul_le_mul_of_nonneg_left (by omega) (by omega)
 have a3 : g.W * (g.H - 1) = g.W * g.H - g.W := by rw [Int.mul_sub, Int.mul_one]
 refine ⟨by omega, by omega, ?_, ?_⟩
 ·rw [Int.add_mul_emod_self_left]; exact Int.emod_eq_of_lt hx.1 hx.2
 ·rw [Int.add_mul_ediv_left _ _ (by omega), Int.ediv_eq_zero_of_lt hx.1 hx.2]; omega
theorem qc {g : Gnd} (hg : gndP g) {b : Bld} (hb : bldP b) (ho : onP g b) (t : Int) : t ∈ qu g.W b ↔ ∃ n : Nat, t = (n : Int) /\ (n : Int) < g.W * g.H /\ hasP g b n := by
 have hb' := hb
 have ho' := ho
 unfold bldP at hb'
 unfold onP at ho'
 unfold qu qk qh
 rw [List.mem_flatMap]
 constructor
 ·rintro ⟨y, hy, hx⟩
  obtain ⟨x, hx2, rfl⟩ := List.mem_map.1 hx
  have hy := List.mem_range.1 hy
  have hx := List.mem_range.1 hx2
  obtain ⟨q1, q2, q3, q4⟩ := xr hg (x := b.x + x) (y := b.y + y) (by omega) (by omega)
  refine ⟨(b.x + (x : Int) + g.W * (b.y + (y : Int))).toNat, by omega, by omega, ?_⟩
  unfold hasP
  rw [show (((b.x + (x : Int) + g.W * (b.y + (y : Int))).toNat : Nat) : Int) = b.x + (x : Int) + g.W * (b.y + (y : Int)) by omega, q3, q4]
  omega
 ·rintro ⟨n, rfl, hn, hh⟩
  unfold hasP at hh
  refine ⟨((n : Int) / g.W - b.y).toNat, List.mem_range.2 (by omega), List.mem_map.2 ⟨((n : Int) % g.W - b.x).toNat, List.mem_range.2 (by omega), ?_⟩⟩
  have := Int.emod_add_mul_ediv (n : Int) g.W
  rw [show (((n : Int) % g.W - b.x).toNat : Int) = (n : Int) % g.W - b.x by omega, show (((n : Int) / g.W - b.y).toNat : Int) = (n : Int) / g.W - b.y by omega]
  rw [show b.x + ((n : Int) % g.W - b.x) = (n : Int) % g.W by omega, show b.y + ((n : Int) / g.W - b.y) = (n : Int) / g.W by omega]
  exact this
/-- Cells of yes and no. -/
def bl (n : Nat) (f : Nat -> Bool) : List AV := (List.range n).map fun t => bool (f t)
theorem j4 (n : Nat) (f : Nat -> Bool) : (bl n f).length = n := by simp [bl]
theorem ws {n : Nat} {f : Nat -> Bool} {t : Nat} (h : t < n) : (bl n f)[t]? = some (bool (f t)) := by simp [bl, h]
theorem zkg (n : Nat) : List.replicate n (AV.s (.bool false)) = bl n fun _ => false := by
 unfold bl
 rw [List.map_const', List.length_range]
 rfl
theorem zgh {n : Nat} {f : Nat -> Bool} {t : Nat} (h : t < n) (g : Nat -> Bool) (hg : ∀ s, s ≠ t -> g s = f s) : zt (bl n f) t [bool (g t)] = bl n g := by
 unfold zt
 apply List.ext_getElem?
 intro s
 by_cases h1 : s < t
 ·rw [List.append_assoc, List.getElem?_append_left (by rw [List.length_take, j4]; omega), List.getElem?_take_of_lt h1, ws (by omega), ws (by omega), hg s (by omega)]
 ·by_cases h2 : s = t
  ·subst h2
   rw [List.append_assoc, List.getElem?_append_right (by rw [List.length_take, j4]; omega), List.length_take, j4, show s - min s n = 0 by omega, ws h]
   rfl
  ·rw [List.getElem?_append_right (by rw [List.length_append, List.length_take, j4]; simp; omega), List.length_append, List.length_take, j4, List.getElem?_drop]
   by_cases h3 : s < n
   ·have e : t + [bool (g t)].length + (s - (min t n + [bool (g t)].length)) = s := by simp; omega
    rw [e, ws h3, ws h3, hg s h2]
   ·rw [List.getElem?_eq_none (by rw [j4]; simp; omega), List.getElem?_eq_none (by rw [j4]; omega)]
/-- Which tiles the first buildings have, and of the next one the first tiles. -/
def covF (g : Gnd) (l : List Bld) (i : Nat) (ts : List Int) (k : Nat) (t : Nat) : Bool := covB g (l.take i) t || (ts.take k).contains (t : Int)
theorem zeg (g : Gnd) (l : List Bld) (i : Nat) (ts : List Int) (t : Nat) : covF g l i ts 0 t = covB g (l.take i) t := by simp [covF]
theorem zeh {g : Gnd} {l : List Bld} {i : Nat} {ts : List Int} {k n : Nat} (hk : k < ts.length) (hn : ts[k] = (n : Int)) :
  covF g l i ts (k + 1) n = true /\ ∀ s, s ≠ n -> covF g l i ts (k + 1) s = covF g l i ts k s := by
 unfold covF
 rw [List.take_succ_eq_append_getElem hk, hn]
 refine ⟨by simp, fun s hs => ?_⟩
 rw [List.contains_append]
 have : [((n : Nat) : Int)].contains (s : Int) = false := by simp; omega
 rw [this, Bool.or_false]
theorem zei {g : Gnd} (hg : gndP g) {l : List Bld} {i : Nat} (hi : i < l.length) (hb : bldP l[i] /\ onP g l[i]) {t : Nat} (ht : t < g.T.length) :
  covF g l i (qu g.W l[i]) (qu g.W l[i]).length t = covB g (l.take (i + 1)) t := by
 have ha := ym hg
 unfold covF covB
 rw [List.take_length, List.take_succ_eq_append_getElem hi, List.any_append]
 congr 1
 rw [Bool.eq_iff_iff, List.contains_iff_mem, qc hg hb.1 hb.2]
 simp only [List.any_cons, List.any_nil, Bool.or_false, decide_eq_true_eq]
 constructor
 ·rintro ⟨n, h1, _, h2⟩
  have : n = t := by omega
  subst this; exact h2
 ·intro h
  exact ⟨t, rfl, by omega, h⟩
def zbq (b : Bool) : List AV := [bool b]
def blL (n : Nat) (f : Nat -> Bool) : List Bool := (List.range n).map f
theorem zkh (n : Nat) (f : Nat -> Bool) : (blL n f).length = n := by simp [blL]
theorem zsv (n : Nat) (f : Nat -> Bool) : (rws zbq (blL n f)).flatten = bl n f := by
 unfold rws blL bl zbq
 induction List.range n with
 | nil => rfl
 | cons a l ih => simp at ih ⊢; exact ih
theorem zsw {n : Nat} {f : Nat -> Bool} {t : Nat} (h : t < n) : (rws zbq (blL n f))[t]? = some (zbq (f t)) := by
 unfold rws blL
 simp [h]
end Go.V
namespace Go.V
theorem zbh (W : Int) (b : Bld) (y k : Nat) : (qh W b y k).Pairwise (· < ·) := by
 unfold qh
 rw [List.pairwise_map]
 exact (List.pairwise_lt_range (n := k)).imp fun h => by omega
theorem zbg {W : Int} {b : Bld} (hW : 1 <= W) (hx : 0 <= b.x /\ b.x + b.w <= W) (hw : 1 <= b.w) (k : Nat) : (qk W b k).Pairwise (· < ·) /\ ∀ t ∈ qk W b k, t < W * (b.y + (k : Int)) := by
 induction k with
 | zero => exact ⟨List.Pairwise.nil, fun t ht => (by simp [qk] at ht)⟩
 | succ k ih =>
  rw [jm]
  have hrow : ∀ t ∈ qh W b k b.w.toNat, W * (b.y + (k : Int)) <= t /\ t < W * (b.y + (k : Int)) + W := by
   intro t ht
   obtain ⟨x, hx2, rfl⟩ := List.mem_map.1 ht
   have := List.mem_range.1 hx2
   omega
  have e : W * (b.y + ((k + 1 : Nat) : Int)) = W * (b.y + (k : Int)) + W := by
   rw [show b.y + ((k + 1 : Nat) : Int) = (b.y + (k : Int)) + 1 by omega, Int.mul_add, Int.mul_one]
  refine ⟨List.pairwise_append.2 ⟨ih.1, zbh _ _ _ _, fun a ha c hc => ?_⟩, fun t ht => ?_⟩
  ·have h1 := ih.2 a ha
   have h2 := hrow c hc
   omega
  ·rw [e]
   rcases List.mem_append.1 ht with ht | ht
   ·have := ih.2 t ht; omega
   ·have := hrow t ht; omega
theorem zcm {g : Gnd} (hg : gndP g) {b : Bld} (hb : bldP b /\ onP g b) : (qu g.W b).Pairwise (· < ·) := by
 unfold bldP onP at hb
 exact (zbg hg.1.1 hb.2.1 (by omega) _).1
theorem zdv {l : List Int} (h : l.Pairwise (· < ·)) {k : Nat} (hk : k < l.length) : l[k] ∉ l.take k := by
 intro hm
 obtain ⟨j, hj, e⟩ := List.getElem_of_mem hm
 rw [List.length_take] at hj
 rw [List.getElem_take] at e
 have := List.pairwise_iff_getElem.1 h j k (by omega) hk (by omega)
 omega
theorem zge {g : Gnd} (hg : gndP g) {a b : Bld} (ha : bldP a /\ onP g a) (hb : bldP b /\ onP g b) : zcq a b ↔ ∃ t : Nat, (t : Int) < g.W * g.H /\ hasP g a t /\ hasP g b t := by
 unfold bldP onP at ha hb
 unfold zcq
 constructor
 ·intro h
  obtain ⟨q1, q2, q3, q4⟩ := xr hg (x := max a.x b.x) (y := max a.y b.y) (by omega) (by omega)
  refine ⟨(max a.x b.x + g.W * max a.y b.y).toNat, by omega, ?_⟩
  unfold hasP
  rw [show (((max a.x b.x + g.W * max a.y b.y).toNat : Nat) : Int) = max a.x b.x + g.W * max a.y b.y by omega, q3, q4]
  omega
 ·rintro ⟨t, _, h1, h2⟩
  unfold hasP at h1 h2
  omega
theorem covB_iff {g : Gnd} {l : List Bld} {t : Nat} : covB g l t = true ↔ ∃ b ∈ l, hasP g b t := by
 unfold covB
 rw [List.any_eq_true]
 simp
/-- The buildings up to one may be. -/
def zst (g : Gnd) (l : List Bld) (i : Nat) : Prop := ∀ j, (h : j < l.length) -> j < i -> (bldP l[j] /\ onP g l[j] /\ zeb g l[j]) /\ ∀ k, (hk : k < j) -> ¬ zcq l[j] (l[k]'(by omega))
theorem zke {g : Gnd} {l : List Bld} (h : zst g l l.length) : (∀ b ∈ l, bldP b /\ onP g b /\ zeb g b) /\ zgl l := by
 refine ⟨fun b hb => ?_, fun j hj k hk => (h j hj hj).2 k hk⟩
 obtain ⟨j, hj, rfl⟩ := List.getElem_of_mem hb
 exact (h j hj hj).1
theorem zoq {g : Gnd} (hg : gndP g) {l : List Bld} {i : Nat} (hi : i < l.length) (hb : bldP l[i] /\ onP g l[i]) (hup : zst g l i) :
  (∃ t ∈ qu g.W l[i], covB g (l.take i) t.toNat = true) ↔ ∃ k, ∃ hk : k < i, zcq l[i] (l[k]'(by omega)) := by
 constructor
 ·rintro ⟨t, ht, hc⟩
  obtain ⟨n, rfl, hn, hh⟩ := (qc hg hb.1 hb.2 t).1 ht
  rw [Int.toNat_natCast] at hc
  obtain ⟨b, hb2, hh2⟩ := covB_iff.1 hc
  obtain ⟨k, hk, rfl⟩ := List.getElem_of_mem hb2
  rw [List.length_take] at hk
  rw [List.getElem_take] at hh2
  have := (hup k (by omega) (by omega)).1
  exact ⟨k, by omega, (zge hg hb ⟨this.1, this.2.1⟩).2 ⟨n, hn, hh, hh2⟩⟩
 ·rintro ⟨k, hk, hm⟩
  have := (hup k (by omega) (by omega)).1
  obtain ⟨n, hn, h1, h2⟩ := (zge hg hb ⟨this.1, this.2.1⟩).1 hm
  refine ⟨(n : Int), (qc hg hb.1 hb.2 _).2 ⟨n, rfl, hn, h1⟩, ?_⟩
  rw [Int.toNat_natCast]
  refine covB_iff.2 ⟨l[k], ?_, h2⟩
  have : (l.take i)[k]'(by rw [List.length_take]; omega) = l[k] := List.getElem_take
  rw [<- this]
  exact List.getElem_mem _
end Go.V
namespace Go.V
end Go.V
namespace Go.V
theorem zoh {g : Gnd} {t : Nat} {p : Vc} {r : Int} (hr : 0 < r) (h : hitP g t p r) :
  (tx g t < p.1 + r /\ p.1 - r < tx g t + 65536) /\ (ty g t < p.2 + r /\ p.2 - r < ty g t + 65536) := by
 unfold hitP at h
 have n : ∀ x lo : Int, 0 <= off x lo := fun x lo => by unfold off; split <;> (try split) <;> omega
 have a := zti (n p.1 (tx g t)) hr (by have := Int.mul_nonneg (n p.2 (ty g t)) (n p.2 (ty g t)); omega)
 have b := zti (n p.2 (ty g t)) hr (by have := Int.mul_nonneg (n p.1 (tx g t)) (n p.1 (tx g t)); omega)
 unfold off at a b
 refine ⟨?_, ?_⟩
 ·generalize tx g t = X at a
  split at a
  ·omega
  ·split at a <;> omega
 ·generalize ty g t = Y at b
  split at b
  ·omega
  ·split at b <;> omega
section
variable {P : Program} {c : Cfg}
theorem y8 {ops : Array Oper} {o : Oper} {A : Fr} {go skip : Fr -> Prop} (hg : o.guard = none) (h : go A) : wh ops o A go skip := by
 unfold wh; rw [hg]; exact h
theorem qj {o : Oper} {t : TypeId} {a x : Operand} {K : Fr -> Store -> Prop} {A : Fr} {st : Store} {i : TI} {v : AV} (ho : o.op = .store t a x) (hd : o.dst = none) (hi : c.I t = some i) (hx : A.ev x = .av v) (h : zao i A st (A.ev a) v K) : vcOp P c o K A st := by
 unfold vcOp
 rw [ho]
 show zbf P c o K A st
 unfold zbf
 rw [ho]
 simp only [hd, Option.isNone_none, cond_true, hx]
 exact za i hi h
end
theorem zo5 {A : Int} {m : Nat} (h : (m : Int) < A) : A.toNat - (m + 1) < A.toNat - m := by omega
theorem za8 (a : Int) (m : Nat) : a + ((m + 1 : Nat) : Int) = a + (m : Int) + 1 := by omega
theorem w9 {A x : Int} {m : Nat} (h : x + (m : Int) < A) : ((m + 1 : Nat) : Int) <= A - x := by omega
/-- Of rows below 'y', and of row 'y' up to 'x', none that is closed meets the disc. -/
def vy (g : Gnd) (l : List Bld) (c : Int) (p : Vc) (r y : Int) : Prop := ∀ t, t < g.T.length -> (t : Int) / g.W < y -> jf g l c t = false -> ¬ hitP g t p r
def vh (g : Gnd) (l : List Bld) (c : Int) (p : Vc) (r y x : Int) : Prop := ∀ t, t < g.T.length -> (t : Int) / g.W = y -> (t : Int) % g.W < x -> jf g l c t = false -> ¬ hitP g t p r
theorem zfx {g : Gnd} {l : List Bld} {c : Int} {p : Vc} {r : Int} (hr : 0 < r) (hp : 0 <= p.2 - r) : vy g l c p r ((p.2 - r) / 65536) := by
 intro t _ hy _ hh
 have := (zoh hr hh).2
 unfold ty at this
 generalize (t : Int) / g.W = Y at *
 omega
theorem zek {g : Gnd} {l : List Bld} {c : Int} {p : Vc} {r y : Int} (hr : 0 < r) (hp : 0 <= p.1 - r) : vh g l c p r y ((p.1 - r) / 65536) := by
 intro t _ _ hx _ hh
 have := (zoh hr hh).1
 unfold tx at this
 generalize (t : Int) % g.W = X at *
 omega
theorem zel {g : Gnd} (hg : gndP g) {l : List Bld} {c : Int} {p : Vc} {r y x : Int} (hr : 0 < r) (hp : 0 <= p.1 + r) (hx : ¬ (x <= (p.1 + r) / 65536) \/ ¬ (x < g.W)) (hu : vy g l c p r y) (h : vh g l c p r y x) : vy g l c p r (y + 1) := by
 intro t ht hy ho hh
 by_cases e : (t : Int) / g.W = y
 ·by_cases e2 : (t : Int) % g.W < x
  ·exact h t ht e e2 ho hh
  ·have h1 := (zoh hr hh).1
   have h2 := (zdj hg (t := t) (by have := (ym hg).2.2; omega)).1
   unfold tx at h1
   generalize (t : Int) % g.W = X at *
   omega
 ·exact hu t ht (by omega) ho hh
theorem zfy {g : Gnd} (hg : gndP g) {l : List Bld} {c : Int} {p : Vc} {r y : Int} (hr : 0 < r) (hp : 0 <= p.2 + r) (hy : ¬ (y <= (p.2 + r) / 65536) \/ ¬ (y < g.H)) (hu : vy g l c p r y) : ∀ t, t < g.T.length -> jf g l c t = false -> ¬ hitP g t p r := by
 intro t ht ho hh
 by_cases e : (t : Int) / g.W < y
 ·exact hu t ht e ho hh
 ·have h1 := (zoh hr hh).2
  have h2 := (zdj hg (t := t) (by have := (ym hg).2.2; omega)).2
  unfold ty at h1
  generalize (t : Int) / g.W = Y at *
  omega
theorem zc4 {g : Gnd} (hg : gndP g) {l : List Bld} {c : Int} {p : Vc} {r y x : Int} (hx : 0 <= x /\ x < g.W) (hy : 0 <= y /\ y < g.H) (h : vh g l c p r y x) (hn : jf g l c (x + g.W * y).toNat = false -> ¬ hitP g (x + g.W * y).toNat p r) : vh g l c p r y (x + 1) := by
 intro t ht e1 e2 ho
 by_cases e : (t : Int) % g.W < x
 ·exact h t ht e1 e ho
 ·have e3 : (t : Int) % g.W = x := by omega
  have q := Int.emod_add_mul_ediv (t : Int) g.W
  rw [e1, e3] at q
  have : (x + g.W * y).toNat = t := by rw [q]; omega
  rw [this] at hn
  exact hn ho
end Go.V
namespace Go.V
theorem zjp {F N S : Store} (hd : Disj F N) : ((F.un N).un S).Has (F.un S) := by
 refine ⟨fun b y h => ?_, fun b x h => ?_⟩
 ·rcases zo2 h with h1 | ⟨h1, h2⟩
  ·exact un_r h1
  ·have h3 : (F.un N).obj b = some y := un_l hd h2
   show (match S.obj b with | some y => some y | none => (F.un N).obj b) = some y
   rw [h1]; exact h3
 ·rcases zo1 h with h1 | ⟨h1, h2⟩
  ·exact zk0 h1
  ·have h3 : (F.un N).tok b = some x := zs6 hd h2
   show (match S.tok b with | some y => some y | none => (F.un N).tok b) = some x
   rw [h1]; exact h3
theorem x4 {l : List Unt} (hr : xh l) {a b : Nat} (hab : a < b) (hb : b < l.length) : (l[a]'(by omega)).id < l[b].id := by
 induction b with
 | zero => omega
 | succ b ih =>
  have h3 := hr (b + 1) hb (by omega)
  simp only [Nat.add_sub_cancel] at h3
  by_cases e : a = b
  ·subst e; exact h3
  ·have := ih (by omega) (by omega)
   omega
theorem xw {l : List Unt} (hr : xh l) {u v : Unt} (hu : u ∈ l) (hv : v ∈ l) (h : u.id = v.id) : u = v := by
 obtain ⟨a, ha, rfl⟩ := List.getElem_of_mem hu
 obtain ⟨b, hb, rfl⟩ := List.getElem_of_mem hv
 rcases Nat.lt_trichotomy a b with q | q | q
 ·have := x4 hr q hb; omega
 ·subst q; rfl
 ·have := x4 hr q ha; omega
def zco (w : Wld) (L : List Ent) : Prop := ∀ e, e ∈ L ↔ ∃ u ∈ w.U, u.inn = 0 /\ e = (u.id, u.pos)
theorem zg4 {w : Wld} {L : List Ent} (h : zco w L) (hn : ∀ u ∈ w.U, u.pos.ok) : ∀ e ∈ L, e.2.ok := fun e he => by
 obtain ⟨u, hu, _, rfl⟩ := (h e).1 he
 exact hn u hu
/-- The units that are near. -/
def zsj (w : Wld) (p : Vc) (r : Int) (us : List Unt) : Prop := ∀ u, u ∈ us ↔ (u ∈ w.U /\ u.inn = 0) /\ near p u.pos r = true
theorem zoe {w : Wld} {L : List Ent} (hr : xh w.U) (hL : zco w L) {p : Vc} {r : Int} {ns : List Int} (hn : zet L p r ns) {us : List Unt} (h1 : us.map (·.id) = ns) (h2 : ∀ u ∈ us, u ∈ w.U /\ u.inn = 0) : zsj w p r us := by
 intro u
 constructor
 ·intro hu
  refine ⟨h2 u hu, ?_⟩
  have : u.id ∈ ns := by rw [<- h1]; exact List.mem_map.2 ⟨u, hu, rfl⟩
  obtain ⟨e, he, h3, h4⟩ := (hn.2 _).1 this
  obtain ⟨v, hv, _, rfl⟩ := (hL e).1 he
  rw [xw hr (h2 u hu).1 hv h3.symm]
  exact h4
 ·rintro ⟨⟨h3, h4⟩, h5⟩
  have : u.id ∈ ns := (hn.2 _).2 ⟨(u.id, u.pos), (hL _).2 ⟨u, h3, h4, rfl⟩, rfl, h5⟩
  rw [<- h1] at this
  obtain ⟨v, hv, h6⟩ := List.mem_map.1 this
  rw [xw hr h3 (h2 v hv).1 h6.symm]
  exact hv
theorem zjh (k : Int) : 0 < kRad k /\ kRad k <= 81920 := by unfold kRad; split <;> (try split) <;> omega
theorem ztr (k : Int) : kCls k = 0 \/ kCls k = 1 \/ kCls k = 2 := by unfold kCls; split <;> (try split) <;> (try split) <;> omega
theorem zi9 {a b : Vc} {r r' : Int} (h : r <= r') (hn : near a b r = true) : near a b r' = true := by
 unfold near at *
 rw [decide_eq_true_iff] at *
 have : r * r <= r' * r' := Int.mul_le_mul h h (by omega) (by omega)
 omega
theorem zkb {w : Wld} {id k : Int} {q : Vc} {us : List Unt} (hf : zd8 w.G w.B (kCls k) q (kRad k)) (hus : zsj w q (kRad k + 81920) us) :
  xn w id k q ↔ ∀ u ∈ us, u.id ≠ id -> zbb q (kRad k) u.pos (kRad u.kind) = true := by
 constructor
 ·intro h u hu hne
  have := (hus u).1 hu
  exact h.2 u this.1.1 this.1.2 hne
 ·intro h
  refine ⟨hf, fun u hu h0 hne => ?_⟩
  unfold zbb
  cases hc : near q u.pos (kRad k + kRad u.kind) with
  | false => rfl
  | true =>
   have h1 := zi9 (r' := kRad k + 81920) (by have := zjh u.kind; omega) hc
   have := h u ((hus u).2 ⟨⟨hu, h0⟩, h1⟩) hne
   unfold zbb at this
   rw [hc] at this
   exact this
end Go.V
