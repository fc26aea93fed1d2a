/- Ground of laws of thronglaw24: contracts and plain lemmas; no condition beyond the row's own. -/
import Derived.Shelf.Sort.Plain
import Derived.Shelf.Slices.SearchI
import Derived.Shelf.Slices.Empties
import Derived.Shelf.Slices.Delete
import Derived.Shelf.Slices.In.SortNone
import Derived.Shelf.Spec.SlicesInsertGrow
import Derived.Shelf.Spec.BitsCarry
import Derived.Test.YtieceacpbjcddaaGreatKD
set_option linter.unusedSimpArgs false
set_option linter.unusedVariables false
set_option linter.defProp false
namespace Go.V
open Go.Proofs Go.Shelf Go.Sort Go.RowKit
section
variable {P : Program} {ρ : Ren} {w : World} {st : Store} {Oth M : Nat -> Nat -> Prop}
def vI (n : Int) : Value := .int .i64 n
def aI (n : Int) : AV := .s (.int .i64 n)
theorem Am (T : Nat -> Nat -> Prop) (ns : List Int) : Reads w T (ns.map aI) (ns.map vI) := by
  have := Reads.map_s (w := w) (T := T) (ns.map vI)
  rwa [List.map_map] at this
/-- A row that is put is a row that is stored. -/
theorem Rr {w : World} {b q : Nat} {c : Array Value} {e : TypeId} {fr : Nat × Nat} (hb : w.heap[b]? = some (.cells c e fr)) (ns : List Int) (hl : ns.length <= c.size) :
    Wrote w b 0 (ns.map vI) (putRow (Value.int .i64) (Sort.ahead w q) b 0 ns.toArray) where
  size := by simp
  other b' hne := by simp_all[putRow,mapBlock,Array.getElem?_modify,Ne.symm]
  blk c' e' fr' h := by
    rw [hb] at h
    cases h
    refine ⟨putCells (Value.int .i64) 0 ns.toArray c, ?_, ?_, by simp [putCells]⟩
    · simp_all[putRow,mapBlock,Array.getElem?_modify,onCells]
    · apply List.ext_getElem?
      intro i
      simp only [putCells, Array.getElem?_toList, List.take_zero, List.nil_append, Nat.zero_add, List.length_map, Array.getElem?_mapIdx]
      by_cases hi : i < ns.length
      · grind[vI]
      grind
  tape := rfl
  os := rfl
  output := rfl
theorem zsq (w : World) (os : Array Obj) : Grow w (Sort.grow w os) where
  size := by simp
  blk b hb := by grind[Sort.grow]
  tape := rfl
  os := rfl
  output := rfl
/-- The numbers that an object holds in front. -/
theorem Gf {T : Nat -> Nat -> Prop} {b : Nat} {ns : List Int} {L : List AV} (h : CellsRel w T (ns.map aI ++ L) b) :
    ∃ c e fr, w.heap[b]? = some (.cells c e fr) /\ fr.2 = fr.1 /\ ns.length + L.length = c.size /\ ∀ j, j < ns.length -> c[j]? = some (vI (ns.getD j 0)) := by
  obtain ⟨c, e, fr, h1, h2, h3, h4⟩ := h
  refine ⟨c, e, fr, h1, h2, by grind, fun j hj => ?_⟩
  have hlt : j < c.size := by grind
  have h5 := h4 j (aI ns[j]) c[j] (by grind) (by simp)
  rw [Array.getElem?_eq_getElem hlt, VRel.eq_s h5]
  simp [hj, vI]
theorem df {T : Nat -> Nat -> Prop} {b : Nat} {ns : List Int} {L : List AV} (h : CellsRel w T (ns.map aI ++ L) b) : Holds (Value.int .i64) w b 0 ns.toArray := by
  obtain ⟨c, e, fr, h1, h2, h3, h4⟩ := Gf h
  intro j hj
  simp_all[World.cell?,vI,World.frozen?]
theorem Vh {xs l L : List AV} (h : xs.length = l.length) : z7 (l ++ L) 0 xs = xs ++ L := by simp_all[z7]
theorem Fv {A B xs : List AV} {o : Nat} (h : A.length = o) : z7 (A ++ B) o xs = A ++ xs ++ B.drop xs.length := by grind[z7,List.take_left,List.drop_append]
theorem iq {x : AV} {vs : Array Value} {T : Nat -> Nat -> Prop} (h : Reads w T [x] vs.toList) : ∃ v, vs = #[v] /\ VRel w T x v := by grind[Ho]
theorem zw6 {x y : AV} {vs : Array Value} {T : Nat -> Nat -> Prop} (h : Reads w T [x, y] vs.toList) : ∃ u v, vs = #[u, v] /\ VRel w T x u /\ VRel w T y v := by grind[Hn]
theorem Rj {x y z : AV} {vs : Array Value} {T : Nat -> Nat -> Prop} (h : Reads w T [x, y, z] vs.toList) : ∃ u v t, vs = #[u, v, t] /\ VRel w T x u /\ VRel w T y v /\ VRel w T z t := by grind[Wh]
theorem H1 {v : AV} {ns : List Int} (h : Ints st v ns) : (v = .s (.slice none 0 0) /\ ns = []) \/ ∃ b cap L, v = .s (.slice (some ⟨b, 0, none⟩) ns.length cap) /\ st.obj b = some (.cells (ns.map aI ++ L)) /\ ns.length <= cap /\ cap <= ns.length + L.length /\ cap <= 9223372036854775807 := h
/-- slices.Sort. -/
theorem zkn (Ly : Lays.n189 P ρ) {fn : Func} {code : Code} (hf : P.funcs[ρ.f 189]? = some fn) (hb : fn.body = some code) (hname : (fn.name == "runtime.NumGoroutine") = false) {b cap : Nat} {ns : List Int} {L : List AV} (ho : st.obj b = some (.cells (ns.map aI ++ L)))
    (hlen : ns.length < 4611686018427387904) {R : AV -> Store -> Prop} (h : R (.tup []) (st.setObj b (.cells ((ns.mergeSort fun x y => decide (x <= y)).map aI ++ L)))) :
    ACalls P (ρ.f 189) [.s (.slice (some ⟨b, 0, none⟩) ns.length cap)] st R := by
  refine ACalls.of_calls hf hb hname fun Oth M w vs sto hr => ?_
  obtain ⟨v, rfl, hv⟩ := iq hr
  cases hv
  have hobj := (sto.obj b _ ho).1
  obtain ⟨c, e, fr, h1, h2, h3, h4⟩ := Gf hobj
  refine Calls.mono (Any.slices_Sort_int Ly b 0 cap ns w (df hobj) (Dx h1) hlen) fun e' w' ⟨he, n, os, hw'⟩ => ⟨_, he, ?_⟩
  subst hw'
  have hsl : (ns.mergeSort fun x y => decide (x <= y)).length = ns.length := List.length_mergeSort ns
  have hw := Rr (q := n) h1 (ns.mergeSort fun x y => decide (x <= y)) (by omega)
  obtain ⟨k1, k2⟩ := Ai sto ho (Am _ _) hw
  have hg := zsq (putRow (Value.int .i64) (Sort.ahead w n) b 0 (ns.mergeSort fun x y => decide (x <= y)).toArray) os
  refine ⟨.tup [], _, M, h, k9 Reads.nil, ?_, k2.trans (hg.chg M)⟩
  rw [Vh (by simp)] at k1
  exact k1.grow hg
theorem zkm (Ly : Lays.n189 P ρ) {fn : Func} {code : Code} (hf : P.funcs[ρ.f 189]? = some fn) (hb : fn.body = some code) (hname : (fn.name == "runtime.NumGoroutine") = false) {R : AV -> Store -> Prop} (h : R (.tup []) st) :
    ACalls P (ρ.f 189) [.s (.slice none 0 0)] st R := by
  refine ACalls.of_calls hf hb hname fun Oth M w vs sto hr => ?_
  obtain ⟨v, rfl, hv⟩ := iq hr
  cases hv
  refine Calls.mono (Any.slices_Sort_int_none Ly none 0 w) fun e' w' ⟨he, hw'⟩ => ⟨_, he, ?_⟩
  subst hw'
  exact ⟨.tup [], st, M, h, k9 Reads.nil, sto, Chg.refl _ _⟩
/-- slices.BinarySearch. -/
theorem zk2 (Ly : Lays2.n25 P ρ) {fn : Func} {code : Code} (hf : P.funcs[ρ.f 25]? = some fn) (hb : fn.body = some code) (hname : (fn.name == "runtime.NumGoroutine") = false) {v : AV} {ns : List Int} (hv : Ints st v ns) (x : Int)
    (hlen : ns.length < 4611686018427387904) (hs : ns.Pairwise (· <= ·)) {R : AV -> Store -> Prop} (h : R (.tup [aI (ns.countP (· < x) : Nat), .s (.bool (ns.contains x))]) st) :
    ACalls P (ρ.f 25) [v, aI x] st R := by
  refine ACalls.of_calls hf hb hname fun Oth M w vs sto hr => ?_
  obtain ⟨u, t, rfl, hu, ht⟩ := zw6 hr
  cases ht
  rcases H1 hv with ⟨rfl, rfl⟩ | ⟨b, cap, L, rfl, ho, hc1, hc2⟩
  · cases hu
    refine Calls.mono (Any.slices_BinarySearch_int_empty Ly none 0 x w) fun e' w' ⟨he, hw'⟩ => ⟨_, he, ?_⟩
    subst hw'
    refine ⟨_, st, M, h, k9 (Reads.cons (.s _) (Reads.cons (.s _) Reads.nil)), sto, Chg.refl _ _⟩
  · cases hu
    have hobj := (sto.obj b _ ho).1
    obtain ⟨c, e, fr, h1, h2, h3, h4⟩ := Gf hobj
    refine Calls.mono (Any.slices_BinarySearch_int Ly b 0 ns.length cap ns x w (Nat.le_refl _) hlen (fun j hj => ?_) (by grind)) fun e' w' ⟨he, q, hw'⟩ => ⟨_, he, ?_⟩
    · rw [Nat.zero_add]
      simp only [World.cell?, h1]
      exact h4 j hj
    · subst hw'
      rw [List.take_length]
      have hg : Grow w (w.drewN q) := ⟨Nat.le_refl _, fun _ _ => rfl, rfl, rfl, rfl⟩
      exact ⟨_, st, M, h, k9 (Reads.cons (.s _) (Reads.cons (.s _) Reads.nil)), sto.grow hg, hg.chg M⟩
/-- slices.Delete. -/
theorem zvg (Ly : Lays2.n23 P ρ) {fn : Func} {code : Code} (hf : P.funcs[ρ.f 23]? = some fn) (hb : fn.body = some code) (hname : (fn.name == "runtime.NumGoroutine") = false) {b cap i j : Nat} {ns : List Int} {L : List AV} (ho : st.obj b = some (.cells (ns.map aI ++ L)))
    (hc1 : ns.length <= cap) (hc2 : cap <= 9223372036854775807) (hij : i <= j) (hj : j <= ns.length) {R : AV -> Store -> Prop}
    (h : R (.s (.slice (some ⟨b, 0, none⟩) (ns.take i ++ ns.drop j).length cap)) (st.setObj b (.cells ((ns.take i ++ ns.drop j).map aI ++ (List.replicate (j - i) (aI 0) ++ L))))) :
    ACalls P (ρ.f 23) [.s (.slice (some ⟨b, 0, none⟩) ns.length cap), aI i, aI j] st R := by
  refine ACalls.of_calls hf hb hname fun Oth M w vs sto hr => ?_
  obtain ⟨u, v, t, rfl, hu, hv, ht⟩ := Rj hr
  cases hu; cases hv; cases ht
  have hobj := (sto.obj b _ ho).1
  obtain ⟨c, e, fr, h1, h2, h3, h4⟩ := Gf hobj
  have hl2 : (ns.take i ++ ns.drop j ++ List.replicate (j - i) 0).length = ns.length := by grind
  have hl1 : (ns.take i ++ ns.drop j).length = ns.length - (j - i) := by grind
  refine Calls.mono (Any.slices_Delete_int Ly b 0 cap i j ns w (df hobj) hc1 hc2 hij hj) fun e' w' ⟨he, q, hw'⟩ => ⟨_, he, ?_⟩
  subst hw'
  have hw := Rr (q := q) h1 (ns.take i ++ ns.drop j ++ List.replicate (j - i) 0) (by omega)
  obtain ⟨k1, k2⟩ := Ai sto ho (Am _ _) hw
  rw [<- hl1]
  refine ⟨_, _, M, h, .s _, ?_, k2⟩
  grind[Vh,List.map_replicate]
/-- math/bits.Add64. -/
theorem zxy (Ly : Lays7.n25 P ρ) (x y c : Nat) (hc : c <= 1) {R : AV -> Store -> Prop}
    (h : R (.tup [.s (.int .u64 ((x + y + c) % 18446744073709551616 : Nat)), .s (.int .u64 ((x + y + c) / 18446744073709551616 : Nat))]) st) :
    ACalls P (ρ.f 25) [.s (.int .u64 x), .s (.int .u64 y), .s (.int .u64 c)] st R := by
  refine ACalls.of_value fun Oth M w vs sto hr => ?_
  obtain ⟨u, v, t, rfl, hu, hv, ht⟩ := Rj hr
  cases hu; cases hv; cases ht
  exact ⟨_, w, Any7.bits_Add64 Ly x y c hc w, _, st, M, h, k9 (Reads.cons (.s _) (Reads.cons (.s _) Reads.nil)), sto, Chg.refl _ _⟩
theorem G7 {b : Nat} : ∀ (vs : List Value) (o : Nat) (w : World) (c : Array Value) (e : TypeId) (fr : Nat × Nat), w.heap[b]? = some (.cells c e fr) -> o + vs.length <= c.size -> Wrote w b o vs (w.setCells b o vs) := by
  intro vs
  induction vs with
  | nil => intro o w c e fr h _; exact ⟨rfl, fun _ _ => rfl, fun c e fr h => ⟨c, h, by simp, rfl⟩, rfl, rfl, rfl⟩
  | cons v vs ih =>
    intro o w c e fr h hl
    simp only [List.length_cons] at hl
    have h1 : (w.setCell ⟨b, o, none⟩ v).heap[b]? = some (.cells (c.setIfInBounds o v) e fr) := by
      rw [K4, if_pos rfl, h]; rfl
    have k := ih (o + 1) (w.setCell ⟨b, o, none⟩ v) _ e fr h1 (by grind)
    refine ⟨by rw [World.setCells, k.size]; simp, fun b' hb => by rw [World.setCells, k.other b' hb, K4, if_neg hb], fun c1 e1 fr1 hc1 => ?_, by rw [World.setCells, k.tape]; rfl, by rw [World.setCells, k.os]; rfl, by rw [World.setCells, k.output]; rfl⟩
    rw [h] at hc1
    cases hc1
    obtain ⟨c', g1, g2, g3⟩ := k.blk _ _ _ h1
    refine ⟨c', g1, ?_, by grind⟩
    rw [g2, Array.toList_setIfInBounds]
    have hlt : o < c.toList.length := by grind
    have hA : (c.toList.take o).length = o := by grind
    rw [List.set_eq_take_append_cons_drop, if_pos hlt]
    have t1 : (c.toList.take o ++ v :: c.toList.drop (o + 1)).take (o + 1) = c.toList.take o ++ [v] := by grind
    have t2 : (c.toList.take o ++ v :: c.toList.drop (o + 1)).drop (o + 1 + vs.length) = c.toList.drop (o + (vs.length + 1)) := by
      rw [List.drop_append, hA, show o + 1 + vs.length - o = vs.length + 1 by omega, List.drop_of_length_le (by omega), List.nil_append, List.drop_succ_cons, List.drop_drop]
      grind
    grind
/-- slices.Insert of one number. -/
theorem zr3 (Ly : Lays2.n21 P ρ) {fn : Func} {code : Code} (hf : P.funcs[ρ.f 21]? = some fn) (hb : fn.body = some code) (hname : (fn.name == "runtime.NumGoroutine") = false) {v : AV} {ns : List Int} (hv : Ints st v ns) {vb : Nat} (x : Int) (i : Nat) (hi : i <= ns.length)
    (hvb : st.obj vb = some (.cells [aI x])) (hne : ∀ b cap, v = .s (.slice (some ⟨b, 0, none⟩) ns.length cap) -> b ≠ vb) (hlen : (ns.length + 1) * 8 <= 140737488355328) {R : AV -> Store -> Prop}
    (h : ∀ b cap L, (Fresh st b \/ ∃ c0, v = .s (.slice (some ⟨b, 0, none⟩) ns.length c0)) -> (ns.take i ++ x :: ns.drop i).length <= cap -> cap <= (ns.take i ++ x :: ns.drop i).length + L.length -> cap <= 9223372036854775807 ->
      R (.s (.slice (some ⟨b, 0, none⟩) (ns.take i ++ x :: ns.drop i).length cap)) (st.setObj b (.cells ((ns.take i ++ x :: ns.drop i).map aI ++ L)))) :
    ACalls P (ρ.f 21) [v, aI i, .s (.slice (some ⟨vb, 0, none⟩) 1 1)] st R := by
  refine ACalls.of_calls hf hb hname fun Oth M w vs sto hr => ?_
  obtain ⟨u, t, s, rfl, hu, ht, hs⟩ := Rj hr
  cases ht; cases hs
  have hvo := (sto.obj vb _ hvb).1
  obtain ⟨cv, ev, frv, v1, v2, v3, v4⟩ := Gf (ns := [x]) (L := []) (show CellsRel w _ ([x].map aI ++ []) vb from hvo)
  have hvs : ∀ j v, ([vI x] : List Value)[j]? = some v -> w.cell? ⟨vb, 0 + j, none⟩ = some v := by grind[World.cell?]
  have h1v : ∀ v ∈ ([vI x] : List Value), v.oneCell' = true := by intro v hv; simp at hv; subst hv; rfl
  have hl' : (ns.take i ++ x :: ns.drop i).length = ns.length + 1 := by grind
  have hcut : ∀ (w : World) (need old : Nat) (e : TypeId), need <= 140737488355328 -> need <= grownCap w need old e /\ grownCap w need old e <= 9223372036854775807 := by
    intro w need old e hn
    unfold grownCap
    simp only [Question.cut]
    have := Nat.mod_lt (w.tape w.drawn (.appendCap need old e)) (show 0 < 2 ^ 63 - need by omega)
    omega
  rcases H1 hv with ⟨rfl, rfl⟩ | ⟨b, cap, L, rfl, ho, hc1, hc2, hc3⟩
  · cases hu
    simp only [List.length_nil, Nat.le_zero] at hi
    subst hi
    refine Calls.mono (Any2.slices_Insert_int_end_grow Ly none 0 0 vb 0 1 1 [] [vI x] w (by omega) (Nat.le_refl _) (by omega) (by omega) rfl rfl (fun _ => rfl) (fun a ha => by cases ha) hvs h1v) fun e' w' ⟨he, hw'⟩ => ⟨_, he, ?_⟩
    obtain ⟨g1, g2⟩ := hcut w (0 + 1) 0 (ρ.t 3) (by omega)
    generalize grownCap w (0 + 1) 0 (ρ.t 3) = gc at *
    subst hw'
    have gd : Grow w w.drew := Grow.drew w
    obtain ⟨f1, f2, f3⟩ := Cq (sto.grow gd) ((([] : List Value) ++ [vI x]).toArray ++ Builtin.zeroCells (Value.int .i64 0).cells (gc - (0 + 1))) (ρ.t 3) (l := [x].map aI ++ List.replicate (gc - (0 + 1)) .any) (by
      rw [Array.toList_append]
      refine Reads.append (Am _ [x]) ⟨by simp [Builtin.zeroCells, Value.cells], fun i x y hx hy => ?_⟩
      rw [List.getElem?_replicate] at hx
      split at hx
      · cases hx; exact .any _
      grind)
    have := h w.heap.size gc (List.replicate (gc - (0 + 1)) .any) (.inl f1) (by grind) (by grind) g2
    exact ⟨_, _, _, this, .s _, f2, (gd.chg M).trans f3⟩
  · cases hu
    have hbv : b ≠ vb := hne b cap rfl
    have hobj := (sto.obj b _ ho).1
    obtain ⟨c, e, fr, h1, h2, h3, h4⟩ := Gf hobj
    have cell : ∀ j, j < c.size -> w.cell? ⟨b, 0 + j, none⟩ = c[j]? := fun j hj => by simp_all[World.cell?]
    have froz : ∀ o, w.frozen? ⟨b, o, none⟩ = false := fun o => by grind[World.frozen?]
    have hcs : ∀ j v, (ns.map vI)[j]? = some v -> w.cell? ⟨b, 0 + j, none⟩ = some v := by grind
    have h1c : ∀ v ∈ ns.map vI, v.oneCell' = true := by intro v hv; obtain ⟨n, _, rfl⟩ := List.mem_map.1 hv; rfl
    by_cases hroom : ns.length + 1 <= cap
    · obtain ⟨L0, hL⟩ : ∃ L0, L = L0 := ⟨_, rfl⟩
      by_cases hin : i = ns.length
      · subst hin
        refine Calls.mono (Any2.slices_Insert_int_end_room Ly b 0 ns.length cap vb 0 1 1 [vI x] w (by omega) hroom hc3 rfl (fun j hj => ?_) (fun j hj => froz _) hvs h1v) fun e' w' ⟨he, hw'⟩ => ⟨_, he, ?_⟩
        · grind
        · subst hw'
          rw [Nat.zero_add]
          have hw := G7 [vI x] ns.length w c e fr h1 (by grind)
          obtain ⟨k1, k2⟩ := Ai sto ho (Am _ [x]) hw
          rw [Fv (by simp)] at k1
          have e2 : (ns.take ns.length ++ x :: ns.drop ns.length).map aI = ns.map aI ++ [x].map aI := by simp
          have := h b cap (L.drop 1) (.inr ⟨cap, rfl⟩) (by omega) (by grind) hc3
          rw [hl', e2] at this
          exact ⟨_, _, M, this, .s _, k1, k2⟩
      · have hsz : ∀ j, j < ns.length + 1 -> (w.cell? ⟨b, 0 + j, none⟩).isSome = true := fun j hj => by grind
        refine Calls.mono (Any2.slices_Insert_int_shift Ly b 0 ns.length cap i vb 0 1 1 (ns.map vI) [vI x] w (by omega) (by omega) hroom hc3 (Ne.symm hbv) (by simp) rfl hcs hsz (fun j _ => froz _) hvs h1c h1v ev e cv.size c.size
          (by simp [World.shape?, v1]) (by simp [World.shape?, h1]) (by omega) ?_ ?_) fun e' w' ⟨he, hw'⟩ => ⟨_, he, ?_⟩
        · grind[World.frozen?]
        · grind[World.frozen?]
        · subst hw'
          rw [Nat.zero_add, Nat.zero_add, <- List.map_drop]
          have gd : Grow w w.drew := Grow.drew w
          have hw1 := G7 ((ns.drop i).map vI) (i + 1) w.drew c e fr h1 (by grind)
          obtain ⟨k1, k2⟩ := Ai (sto.grow gd) ho (Am _ _) hw1
          obtain ⟨c', m1, _, m2⟩ := hw1.blk c e fr h1
          have hw2 := G7 [vI x] i _ c' e fr m1 (by grind)
          obtain ⟨k3, k4⟩ := Ai k1 (zd _ _ _) (Am _ [x]) hw2
          rw [yx] at k3
          have e1 : z7 (z7 (ns.map aI ++ L) (i + 1) ((ns.drop i).map aI)) i ([x].map aI) = (ns.take i ++ x :: ns.drop i).map aI ++ L.drop 1 := by
            have hL1 : 1 <= L.length := by omega
            cases L with
            | nil => grind
            | cons y L =>
              have q1 : ns.map aI ++ y :: L = (ns.map aI ++ [y]).take (i + 1) ++ ((ns.map aI ++ [y]).drop (i + 1) ++ L) := by grind[List.take_append_drop]
              have q2 : ((ns.map aI ++ [y]).take (i + 1)).length = i + 1 := by grind
              grind[Fv,List.map_take,List.take_succ_eq_append_getElem]
          rw [e1] at k3
          have := h b cap (L.drop 1) (.inr ⟨cap, rfl⟩) (by omega) (by rw [hl']; simp; omega) hc3
          rw [hl'] at this
          exact ⟨_, _, M, this, .s _, k3, ((gd.chg M).trans k2).trans k4⟩
    · obtain ⟨g1, g2⟩ := hcut w (ns.length + 1) cap (ρ.t 3) (by omega)
      by_cases hin : i = ns.length
      · subst hin
        refine Calls.mono (Any2.slices_Insert_int_end_grow Ly (some ⟨b, 0, none⟩) ns.length cap vb 0 1 1 (ns.map vI) [vI x] w (by omega) hc1 (by omega) hlen (by simp) rfl (fun hh => by cases hh) (fun a ha j v hj => ?_) hvs h1v) fun e' w' ⟨he, hw'⟩ => ⟨_, he, ?_⟩
        · cases ha; rw [x8]; exact hcs j v hj
        · generalize grownCap w (ns.length + 1) cap (ρ.t 3) = gc at *
          subst hw'
          have gd : Grow w w.drew := Grow.drew w
          obtain ⟨f1, f2, f3⟩ := Cq (sto.grow gd) ((ns.map vI ++ [vI x]).toArray ++ Builtin.zeroCells (Value.int .i64 0).cells (gc - (ns.length + 1))) (ρ.t 3) (l := (ns ++ [x]).map aI ++ List.replicate (gc - (ns.length + 1)) .any) (by
            rw [Array.toList_append]
            refine Reads.append ?_ ⟨by simp [Builtin.zeroCells, Value.cells], fun i x y hx hy => ?_⟩
            · have := Am (w := w.drew) (fun b o => M b o \/ Oth b o) (ns ++ [x])
              rw [List.map_append (f := vI)] at this
              exact this
            · rw [List.getElem?_replicate] at hx
              split at hx
              · cases hx; exact .any _
              · cases hx)
          have e2 : ns.take ns.length ++ x :: ns.drop ns.length = ns ++ [x] := by simp
          rw [e2] at h
          have := h w.heap.size gc (List.replicate (gc - (ns.length + 1)) .any) (.inl f1) (by simpa using g1) (by simp; omega) g2
          rw [List.length_append] at this
          exact ⟨_, _, _, this, .s _, f2, (gd.chg M).trans f3⟩
      · refine Calls.mono (Any2.slices_Insert_int_grow Ly b 0 ns.length cap i vb 0 1 1 (ns.map vI) [vI x] w (by omega) (by omega) hc1 (by omega) hlen (by simp) rfl hcs hvs h1c h1v) fun e' w' ⟨he, hw'⟩ => ⟨_, he, ?_⟩
        generalize grownCap w (ns.length + 1) cap (ρ.t 3) = gc at *
        subst hw'
        rw [<- List.map_take, <- List.map_drop]
        obtain ⟨f1, f2, f3⟩ := Cq sto (((ns.take i).map vI).toArray ++ Builtin.zeroCells (Value.int .i64 0).cells (ns.length + 1 - i) ++ Builtin.zeroCells (Value.int .i64 0).cells (gc - (ns.length + 1))) (ρ.t 3) (l := (ns.take i).map aI ++ List.replicate (ns.length + 1 - i + (gc - (ns.length + 1))) .any) (by
          rw [Array.append_assoc, Array.toList_append]
          refine Reads.append (Am _ _) ⟨by simp [Builtin.zeroCells, Value.cells], fun i x y hx hy => ?_⟩
          rw [List.getElem?_replicate] at hx
          split at hx
          · cases hx; exact .any _
          · cases hx)
        generalize hArr : (((ns.take i).map vI).toArray ++ Builtin.zeroCells (Value.int .i64 0).cells (ns.length + 1 - i) ++ Builtin.zeroCells (Value.int .i64 0).cells (gc - (ns.length + 1))) = Arr at *
        have hAs : Arr.size = gc := by rw [<- hArr]; simp [Builtin.zeroCells, Value.cells]; omega
        have hb1 : (w.alloc (.cells Arr (ρ.t 3))).drew.heap[w.heap.size]? = some (.cells Arr (ρ.t 3) (0, 0)) := Gg w _
        have gd1 : Grow (w.alloc (.cells Arr (ρ.t 3))) (w.alloc (.cells Arr (ρ.t 3))).drew := Grow.drew _
        have hw1 := G7 [vI x] i _ _ _ _ hb1 (by simp; omega)
        obtain ⟨k1, k2⟩ := Ai (f2.grow gd1) (zd _ _ _) (Am _ [x]) hw1
        obtain ⟨c', m1, _, m2⟩ := hw1.blk _ _ _ hb1
        have gd2 : Grow ((w.alloc (.cells Arr (ρ.t 3))).drew.setCells w.heap.size i [vI x]) ((w.alloc (.cells Arr (ρ.t 3))).drew.setCells w.heap.size i [vI x]).drew := Grow.drew _
        have hw2 := G7 ((ns.drop i).map vI) (i + 1) ((w.alloc (.cells Arr (ρ.t 3))).drew.setCells w.heap.size i [vI x]).drew c' _ _ m1 (by simp; omega)
        obtain ⟨k3, k4⟩ := Ai (k1.grow gd2) (zd _ _ _) (Am _ _) hw2
        rw [yx, yx] at k3
        have e1 : z7 (z7 ((ns.take i).map aI ++ List.replicate (ns.length + 1 - i + (gc - (ns.length + 1))) .any) i ([x].map aI)) (i + 1) ((ns.drop i).map aI) = (ns.take i ++ x :: ns.drop i).map aI ++ List.replicate (gc - (ns.length + 1)) .any := by
          rw [Fv (by simp; omega), Fv (by simp; omega), List.drop_replicate, List.drop_replicate]
          have q : ns.length + 1 - i + (gc - (ns.length + 1)) - ([x].map aI).length - ((ns.drop i).map aI).length = gc - (ns.length + 1) := by simp; omega
          rw [q]
          simp
        rw [e1] at k3
        have := h w.heap.size gc (List.replicate (gc - (ns.length + 1)) .any) (.inl f1) (by omega) (by rw [hl']; simp; omega) g2
        rw [hl'] at this
        exact ⟨_, _, _, this, .s _, k3, ((((f3.trans (gd1.chg _)).trans k2).trans (gd2.chg _)).trans k4)⟩
end
theorem qk (a g : Store) (b : Nat) (x : AObj) : (a.un g).setObj b x = a.un (g.setObj b x) := by
 unfold Store.un Store.setObj
 grind
theorem Fj (a : Store) : a.un Store.empty = a := by rfl
theorem zu9 (a : Store) : zv a Store.empty := fun b _ h => h.elim (fun h => h rfl) (fun h => h rfl)
theorem Gk {a g : Store} {b : Nat} (h : Fresh (a.un g) b) : Fresh a b /\ Fresh g b := by grind[fresh_iff,un_has]
theorem has_setObj_iff {g : Store} {b i : Nat} {x : AObj} : (g.setObj b x).has i ↔ i = b \/ g.has i := by grind[Store.has,zd,yz,Store.setObj]
theorem Ia {a g : Store} {b : Nat} {x : AObj} (h : zv a g) (hb : Fresh a b) : zv a (g.setObj b x) := by
 intro i hi hg
 rcases has_setObj_iff.1 hg with rfl | hg
 ·exact (fresh_iff.1 hb) hi
 ·exact h i hi hg
theorem Gr {a g : Store} {b : Nat} {x y : AObj} (h : zv a g) (hb : g.obj b = some y) : zv a (g.setObj b x) := by
 intro i hi hg
 rcases has_setObj_iff.1 hg with rfl | hg
 ·exact h i hi (Bq hb)
 ·exact h i hi hg
/-- In which cell. -/
def zu (p : Vc) : Int × Int := (nrm p.1 / 131072, nrm p.2 / 131072)
abbrev Ent := Int × Vc
def jl (e : Ent) : AV × AV := (int e.1, .agg (zy e.2))
structure Grp where
 x : Int
 y : Int
 ns : List Int
 b : Nat
 cap : Nat
 L : List AV
def Grp.key (g : Grp) : Int × Int := (g.x, g.y)
def jk (g : Grp) : AV × AV := (.agg [int g.x, int g.y], .s (.slice (some ⟨g.b, 0, none⟩) g.ns.length g.cap))
def Grp.fits (g : Grp) : Prop := g.ns.length <= g.cap /\ g.cap <= g.ns.length + g.L.length /\ g.cap <= 9223372036854775807
/-- The cells in a store: the struct 'p', two maps, a slice for each cell. -/
structure CellsAt (a : Store) (p ma mi : Nat) (l : List Ent) (bs1 : List Nat) (c1 : Nat) (G : List Grp) (bs2 : List Nat) (c2 : Nat) : Prop where
 hp : a.obj p = some (.cells [.s (.map (some ma)), .s (.map (some mi))])
 ha : a.obj ma = some (.map (l.map jl) bs1 c1)
 hi : a.obj mi = some (.map (G.map jk) bs2 c2)
 ne : ma ≠ mi
 hg : ∀ g ∈ G, a.obj g.b = some (.cells (g.ns.map aI ++ g.L)) /\ g.fits /\ g.b ≠ p
 nd : (G.map (·.b)).Nodup
structure Inv (l : List Ent) (G : List Grp) : Prop where
 n1 : (l.map (·.1)).Nodup
 n2 : (G.map (·.key)).Nodup
 s : ∀ g ∈ G, g.ns.Pairwise (· < ·) /\ g.ns ≠ []
 m1 : ∀ g ∈ G, ∀ id, id ∈ g.ns ↔ ∃ e ∈ l, e.1 = id /\ zu e.2 = g.key
 m2 : ∀ e ∈ l, ∃ g ∈ G, g.key = zu e.2
def CellsOf (a : Store) (p : Nat) (l : List Ent) : Prop := ∃ ma mi bs1 c1 G bs2 c2, CellsAt a p ma mi l bs1 c1 G bs2 c2 /\ Inv l G
/-- A sorted list, cut at a number. -/
theorem fh (x : Int) : ∀ {ns : List Int}, ns.Pairwise (· < ·) -> ns.take (ns.countP (· < x)) = ns.filter (· < x) /\ ns.drop (ns.countP (· < x)) = ns.filter (x <= ·) := by
 intro ns
 induction ns with
 | nil => simp
 | cons a ns ih =>
  intro h
  obtain ⟨h1, h2⟩ := List.pairwise_cons.1 h
  grind
theorem zvq (x : Int) (ns : List Int) : ns.countP (· < x) <= ns.length := List.countP_le_length
theorem zr4 {ns : List Int} (h : ns.Pairwise (· < ·)) {x : Int} (hx : x ∉ ns) :
  (ns.take (ns.countP (· < x)) ++ x :: ns.drop (ns.countP (· < x))).Pairwise (· < ·) /\ ∀ y, y ∈ ns.take (ns.countP (· < x)) ++ x :: ns.drop (ns.countP (· < x)) ↔ y = x \/ y ∈ ns := by
 obtain ⟨h1, h2⟩ := fh x h
 rw [h1, h2]
 refine ⟨?_, fun y => ?_⟩
 ·rw [List.pairwise_append, List.pairwise_cons]
  refine ⟨h.filter _, ⟨fun y hy => ?_, h.filter _⟩, fun a ha b hb => ?_⟩
  ·have h3 := List.mem_filter.1 hy
   have h4 : x <= y := by simpa using h3.2
   have h5 : y ≠ x := fun e => hx (e ▸ h3.1)
   omega
  ·have h3 := (List.mem_filter.1 ha).2
   have h3 : a < x := by simpa using h3
   rcases List.mem_cons.1 hb with rfl | hb
   ·exact h3
   ·have h4 : x <= b := by simpa using (List.mem_filter.1 hb).2
    omega
 grind
theorem zvh {ns : List Int} (h : ns.Pairwise (· < ·)) {x : Int} (hx : x ∈ ns) :
  ns.countP (· < x) + 1 <= ns.length /\ (ns.take (ns.countP (· < x)) ++ ns.drop (ns.countP (· < x) + 1)).Pairwise (· < ·) /\ ∀ y, y ∈ ns.take (ns.countP (· < x)) ++ ns.drop (ns.countP (· < x) + 1) ↔ y ≠ x /\ y ∈ ns := by
 obtain ⟨h1, h2⟩ := fh x h
 have hsub : (ns.take (ns.countP (· < x)) ++ ns.drop (ns.countP (· < x) + 1)).Sublist ns := by grind[List.take_append_drop]
 have h3 : ns.filter (x <= ·) = x :: ns.filter (x < ·) := by
  clear h1 h2 hsub
  induction ns with
  | nil => cases hx
  | cons a ns ih =>
   obtain ⟨k1, k2⟩ := List.pairwise_cons.1 h
   rcases List.mem_cons.1 hx with rfl | hx
   ·grind[List.filter_congr]
   grind
 have h4 : ns.drop (ns.countP (· < x) + 1) = ns.filter (x < ·) := by
  rw [<- List.drop_drop, h2, h3]; rfl
 grind
theorem wy {α β : Type} {f : α -> β} : ∀ {G : List α} {i j : Nat} {a b : α}, (G.map f).Nodup -> G[i]? = some a -> G[j]? = some b -> f a = f b -> i = j := by
 intro G i j a b hn hi hj h
 have hi' : (G.map f)[i]? = some (f a) := by simp [hi]
 have hj' : (G.map f)[j]? = some (f b) := by simp [hj]
 grind[List.getElem?_inj]
theorem wz {α β : Type} {f : α -> β} {G : List α} {j : Nat} {g g' g1 : α} (hn : (G.map f).Nodup) (hj : G[j]? = some g) : g1 ∈ G.set j g' ↔ g1 = g' \/ (g1 ∈ G /\ f g1 ≠ f g) := by
 have hlt := (List.getElem?_eq_some_iff.1 hj).1
 constructor
 ·intro h
  obtain ⟨i, hi⟩ := List.mem_iff_getElem?.1 h
  by_cases hij : j = i
  ·grind
  grind[wy]
 ·rintro (rfl | ⟨h1, h2⟩)
  ·grind[List.getElem?_set_self]
  ·obtain ⟨i, hi⟩ := List.mem_iff_getElem?.1 h1
   have hij : j ≠ i := fun e => by grind
   exact List.mem_iff_getElem?.2 ⟨i, by grind⟩
theorem Kq {α β : Type} {f : α -> β} {G : List α} {j : Nat} {g g1 : α} (hn : (G.map f).Nodup) (hj : G[j]? = some g) : g1 ∈ G.eraseIdx j ↔ (g1 ∈ G /\ f g1 ≠ f g) := by
 constructor
 ·grind[List.mem_iff_getElem?,wy]
 ·rintro ⟨h1, h2⟩
  obtain ⟨i, hi⟩ := List.mem_iff_getElem?.1 h1
  have hij : i ≠ j := fun e => by grind
  refine List.mem_iff_getElem?.2 ?_
  by_cases hlt : i < j
  ·exact ⟨i, by grind⟩
  ·refine ⟨i - 1, ?_⟩
   grind
theorem Oz {α β : Type} (f : α -> β) {G : List α} {j : Nat} {g g' : α} (hj : G[j]? = some g) (h : f g' = f g) : (G.set j g').map f = G.map f := by
 rw [List.map_set, h]
 apply List.ext_getElem?
 grind
theorem zrs {G : List Grp} (hn : (G.map (·.key)).Nodup) {g g1 : Grp} (h : g ∈ G) (h1 : g1 ∈ G) (hk : g1.key = g.key) : g1 = g := by grind[List.mem_iff_getElem?,wy]
theorem H4 {l : List Ent} (hn : (l.map (·.1)).Nodup) {e e1 : Ent} (h : e ∈ l) (h1 : e1 ∈ l) (hk : e1.1 = e.1) : e1 = e := by
 obtain ⟨i, hi⟩ := List.mem_iff_getElem?.1 h
 obtain ⟨j, hj⟩ := List.mem_iff_getElem?.1 h1
 have := wy (f := fun (e : Ent) => e.1) hn hj hi hk
 grind
/-- All but one. -/
def yu (l : List Ent) (id : Int) : List Ent := l.filter fun e => e.1 != id
theorem mem_dropId {l : List Ent} {id : Int} {e : Ent} : e ∈ yu l id ↔ e ∈ l /\ e.1 ≠ id := by simp [yu]
theorem ez {l : List Ent} {id : Int} (h : (l.map (·.1)).Nodup) : ((yu l id).map (·.1)).Nodup := h.sublist ((List.filter_sublist).map _)
theorem zrx {l : List Ent} {G : List Grp} (h : Inv l G) {e : Ent} (he : e ∈ l) {j : Nat} {g : Grp} (hj : G[j]? = some g) (hk : g.key = zu e.2) {ns' : List Int} (hs : ns'.Pairwise (· < ·)) (hm : ∀ y, y ∈ ns' ↔ y ≠ e.1 /\ y ∈ g.ns) :
  (ns' = [] -> Inv (yu l e.1) (G.eraseIdx j)) /\ (ns' ≠ [] -> ∀ g' : Grp, g'.key = g.key -> g'.ns = ns' -> Inv (yu l e.1) (G.set j g')) := by
 have hgm := List.mem_of_getElem? hj
 have key : ∀ g1 ∈ G, g1.key ≠ g.key -> ∀ id, id ∈ g1.ns ↔ ∃ e1 ∈ yu l e.1, e1.1 = id /\ zu e1.2 = g1.key := by
  intro g1 h1 h2 id
  rw [h.m1 g1 h1 id]
  constructor
  ·rintro ⟨e1, h3, h4, h5⟩
   refine ⟨e1, mem_dropId.2 ⟨h3, fun h6 => h2 ?_⟩, h4, h5⟩
   rw [<- h5, H4 h.n1 he h3 h6, hk]
  grind[mem_dropId]
 refine ⟨fun hn => ?_, fun hn g' hk' hns => ?_⟩
 ·refine ⟨ez h.n1, h.n2.sublist ((List.eraseIdx_sublist ..).map _), fun g1 h1 => ?_, fun g1 h1 => ?_, fun e1 h1 => ?_⟩
  ·exact h.s g1 ((Kq (f := Grp.key) h.n2 hj).1 h1).1
  ·obtain ⟨h2, h3⟩ := (Kq (f := Grp.key) h.n2 hj).1 h1
   grind
  ·obtain ⟨h2, h3⟩ := mem_dropId.1 h1
   obtain ⟨g1, h4, h5⟩ := h.m2 e1 h2
   refine ⟨g1, (Kq (f := Grp.key) h.n2 hj).2 ⟨h4, fun h6 => ?_⟩, h5⟩
   have h7 : e1.1 ∈ g.ns := (h.m1 g hgm e1.1).2 ⟨e1, h2, rfl, by grind⟩
   grind
 ·refine ⟨ez h.n1, by rw [Oz Grp.key hj hk']; exact h.n2, fun g1 h1 => ?_, fun g1 h1 => ?_, fun e1 h1 => ?_⟩
  ·rcases (wz (f := Grp.key) h.n2 hj).1 h1 with rfl | ⟨h2, _⟩
   ·grind
   ·exact h.s g1 h2
  ·rcases (wz (f := Grp.key) h.n2 hj).1 h1 with rfl | ⟨h2, h3⟩
   ·intro id
    rw [hns, hm, h.m1 g hgm, hk']
    constructor
    ·rintro ⟨h4, e1, h5, h6, h7⟩
     grind[mem_dropId]
    grind[mem_dropId]
   grind
  ·obtain ⟨h2, h3⟩ := mem_dropId.1 h1
   obtain ⟨g1, h4, h5⟩ := h.m2 e1 h2
   by_cases h6 : g1.key = g.key
   ·exact ⟨g', (wz (f := Grp.key) h.n2 hj).2 (.inl rfl), by grind⟩
   ·exact ⟨g1, (wz (f := Grp.key) h.n2 hj).2 (.inr ⟨h4, h6⟩), h5⟩
theorem zry {l : List Ent} {G : List Grp} (h : Inv l G) {e : Ent} (he : ∀ e1 ∈ l, e1.1 ≠ e.1) :
  (∀ j g g', G[j]? = some g -> g.key = zu e.2 -> g'.key = g.key -> g'.ns.Pairwise (· < ·) -> (∀ y, y ∈ g'.ns ↔ y = e.1 \/ y ∈ g.ns) -> Inv (l ++ [e]) (G.set j g')) ∧
  ((∀ g ∈ G, g.key ≠ zu e.2) -> ∀ g', g'.key = zu e.2 -> g'.ns = [e.1] -> Inv (l ++ [e]) (G ++ [g'])) := by
 have n1 : ((l ++ [e]).map (·.1)).Nodup := by
  rw [List.map_append, List.nodup_append]
  refine ⟨h.n1, by simp, fun a ha b hb => ?_⟩
  grind
 have key : ∀ g1 ∈ G, g1.key ≠ zu e.2 -> ∀ id, id ∈ g1.ns ↔ ∃ e1 ∈ l ++ [e], e1.1 = id /\ zu e1.2 = g1.key := by
  intro g1 h1 h2 id
  rw [h.m1 g1 h1 id]
  constructor
  ·simp_all
  grind
 refine ⟨fun j g g' hj hk hk' hs hm => ?_, fun hno g' hk' hns => ?_⟩
 ·have hgm := List.mem_of_getElem? hj
  refine ⟨n1, by rw [Oz Grp.key hj hk']; exact h.n2, fun g1 h1 => ?_, fun g1 h1 => ?_, fun e1 h1 => ?_⟩
  ·rcases (wz (f := Grp.key) h.n2 hj).1 h1 with rfl | ⟨h2, _⟩
   ·grind
   ·exact h.s g1 h2
  ·rcases (wz (f := Grp.key) h.n2 hj).1 h1 with rfl | ⟨h2, h3⟩
   ·intro id
    rw [hm, h.m1 g hgm, hk']
    constructor
    ·rintro (rfl | ⟨e1, h5, h6, h7⟩)
     ·grind
     grind
    grind
   grind
  ·rcases List.mem_append.1 h1 with h1 | h1
   ·obtain ⟨g1, h4, h5⟩ := h.m2 e1 h1
    by_cases h6 : g1.key = g.key
    ·exact ⟨g', (wz (f := Grp.key) h.n2 hj).2 (.inl rfl), by grind⟩
    ·exact ⟨g1, (wz (f := Grp.key) h.n2 hj).2 (.inr ⟨h4, h6⟩), h5⟩
   ·simp at h1
    subst h1
    exact ⟨g', (wz (f := Grp.key) h.n2 hj).2 (.inl rfl), by grind⟩
 ·refine ⟨n1, ?_, fun g1 h1 => ?_, fun g1 h1 => ?_, fun e1 h1 => ?_⟩
  ·rw [List.map_append, List.nodup_append]
   refine ⟨h.n2, by simp, fun a ha b hb => ?_⟩
   grind
  ·rcases List.mem_append.1 h1 with h1 | h1
   ·exact h.s g1 h1
   grind
  ·rcases List.mem_append.1 h1 with h1 | h1
   ·grind
   ·simp at h1
    subst h1
    intro id
    rw [hns, hk']
    constructor
    ·grind
    ·rintro ⟨e1, h2, h3, h4⟩
     rcases List.mem_append.1 h2 with h2 | h2
     ·obtain ⟨g2, h5, h6⟩ := h.m2 e1 h2
      grind
     grind
  ·rcases List.mem_append.1 h1 with h1 | h1
   ·obtain ⟨g1, h4, h5⟩ := h.m2 e1 h1
    grind
   grind
def qA (id : Int) (e : AV × AV) : Bool := match e.1 with | .s (.int _ n) => id == n | _ => false
def qG (x y : Int) (e : AV × AV) : Bool := match e.1 with | .agg [.s (.int _ a), .s (.int _ b)] => (x == a && (y == b && true)) | _ => false
def jx (id : Int) (e : Ent) : Bool := id == e.1
def Bf (k : Int × Int) (g : Grp) : Bool := (k.1 == g.x && (k.2 == g.y && true))
theorem atKey_iff {k : Int × Int} {g : Grp} : Bf k g = true ↔ g.key = k := by grind[Bf,Grp.key]
theorem eh (l : List Ent) (id : Int) : (l.map jl).find? (qA id) = (l.find? (jx id)).map jl := by
 rw [List.find?_map]; rfl
theorem Lj (l : List Ent) (id : Int) : (l.map jl).findIdx? (qA id) = l.findIdx? (jx id) := by
 rw [List.findIdx?_map]; rfl
theorem H8 (G : List Grp) (k : Int × Int) : (G.map jk).find? (qG k.1 k.2) = (G.find? (Bf k)).map jk := by
 rw [List.find?_map]; rfl
theorem Li (G : List Grp) (k : Int × Int) : (G.map jk).findIdx? (qG k.1 k.2) = G.findIdx? (Bf k) := by
 rw [List.findIdx?_map]; rfl
theorem Lg {α : Type} {q : α -> Bool} {l : List α} {e : α} (h : l.find? q = some e) : e ∈ l /\ q e = true := ⟨List.mem_of_find?_eq_some h, List.find?_some h⟩
theorem zul {α : Type} {q : α -> Bool} {l : List α} {i : Nat} (h : l.findIdx? q = some i) : ∃ e, l[i]? = some e /\ q e = true /\ l.find? q = some e := by grind[List.findIdx?_eq_some_iff_getElem,ee]
theorem Pk {α : Type} {q : α -> Bool} {l : List α} {e : α} (h : l.find? q = some e) : ∃ i, l.findIdx? q = some i /\ l[i]? = some e := by
 cases hi : l.findIdx? q with
 | none => grind
 | some i =>
  obtain ⟨e', h1, _, h3⟩ := zul hi
  grind
theorem zus {l : List Ent} (hn : (l.map (·.1)).Nodup) {i : Nat} {e : Ent} (hi : l[i]? = some e) : l.eraseIdx i = yu l e.1 := by
 induction l generalizing i with
 | nil => rfl
 | cons a l ih =>
  rw [List.map_cons, List.nodup_cons] at hn
  grind[List.eraseIdx_cons_zero,yu,List.filter_eq_self]
theorem zuw {l : List Ent} {id : Int} (h : l.find? (jx id) = none) : yu l id = l := by grind[yu,List.filter_eq_self,jx]
section
variable {a : Store} {p ma mi : Nat} {l : List Ent} {bs1 : List Nat} {c1 : Nat} {G : List Grp} {bs2 : List Nat} {c2 : Nat}
theorem CellsAt.p_ne (h : CellsAt a p ma mi l bs1 c1 G bs2 c2) : ma ≠ p /\ mi ≠ p := by
 refine ⟨fun e => ?_, fun e => ?_⟩
 ·have := h.ha; rw [e, h.hp] at this; cases this
 ·have := h.hi; rw [e, h.hp] at this; cases this
theorem CellsAt.g_ne (h : CellsAt a p ma mi l bs1 c1 G bs2 c2) {g : Grp} (hg : g ∈ G) : g.b ≠ ma /\ g.b ≠ mi /\ g.b ≠ p := by
 obtain ⟨h1, h2, h3⟩ := h.hg g hg
 refine ⟨fun e => ?_, fun e => ?_, h3⟩
 ·have := h.ha; grind
 ·have := h.hi; grind
/-- An object that is none of them is laid. -/
theorem CellsAt.other (h : CellsAt a p ma mi l bs1 c1 G bs2 c2) {b : Nat} (x : AObj) (hp : b ≠ p) (hma : b ≠ ma) (hmi : b ≠ mi) (hg : ∀ g ∈ G, b ≠ g.b) : CellsAt (a.setObj b x) p ma mi l bs1 c1 G bs2 c2 :=
 ⟨by rw [zw (Ne.symm hp)]; exact h.hp, by rw [zw (Ne.symm hma)]; exact h.ha, by rw [zw (Ne.symm hmi)]; exact h.hi, h.ne,
  fun g hg' => by rw [zw (Ne.symm (hg g hg'))]; exact h.hg g hg', h.nd⟩
theorem CellsAt.fresh (h : CellsAt a p ma mi l bs1 c1 G bs2 c2) {b : Nat} (x : AObj) (hb : Fresh a b) : CellsAt (a.setObj b x) p ma mi l bs1 c1 G bs2 c2 :=
 h.other x (hb.ne_obj h.hp) (hb.ne_obj h.ha) (hb.ne_obj h.hi) fun g hg => hb.ne_obj (h.hg g hg).1
theorem CellsAt.setA (h : CellsAt a p ma mi l bs1 c1 G bs2 c2) (l' : List Ent) (bs : List Nat) (c : Nat) : CellsAt (a.setObj ma (.map (l'.map jl) bs c)) p ma mi l' bs c G bs2 c2 :=
 ⟨by rw [zw (Ne.symm h.p_ne.1)]; exact h.hp, zd _ _ _, by rw [zw (Ne.symm h.ne)]; exact h.hi, h.ne,
  fun g hg => by rw [zw (h.g_ne hg).1]; exact h.hg g hg, h.nd⟩
theorem CellsAt.setI (h : CellsAt a p ma mi l bs1 c1 G bs2 c2) {G' : List Grp} (bs : List Nat) (c : Nat) (hg : ∀ g ∈ G', a.obj g.b = some (.cells (g.ns.map aI ++ g.L)) /\ g.fits /\ g.b ≠ p) (nd : (G'.map (·.b)).Nodup) :
  CellsAt (a.setObj mi (.map (G'.map jk) bs c)) p ma mi l bs1 c1 G' bs c :=
 ⟨by rw [zw (Ne.symm h.p_ne.2)]; exact h.hp, by rw [zw h.ne]; exact h.ha, zd _ _ _, h.ne,
  fun g hg' => by
   obtain ⟨h1, h2, h3⟩ := hg g hg'
   have : g.b ≠ mi := fun e => by have := h.hi; grind
   grind[zw], nd⟩
/-- The slice of one cell is turned, and its entry: before, what stands in the store. -/
structure CellsMid (a : Store) (p ma mi : Nat) (l : List Ent) (bs1 : List Nat) (c1 : Nat) (G : List Grp) (bs2 : List Nat) (c2 : Nat) (b : Nat) : Prop where
 hp : a.obj p = some (.cells [.s (.map (some ma)), .s (.map (some mi))])
 ha : a.obj ma = some (.map (l.map jl) bs1 c1)
 hi : a.obj mi = some (.map (G.map jk) bs2 c2)
 ne : ma ≠ mi
 hg : ∀ g ∈ G, g.b ≠ b -> a.obj g.b = some (.cells (g.ns.map aI ++ g.L)) /\ g.fits /\ g.b ≠ p
 nd : (G.map (·.b)).Nodup
theorem CellsAt.mid (h : CellsAt a p ma mi l bs1 c1 G bs2 c2) {b : Nat} (x : AObj) (hp : b ≠ p) (hma : b ≠ ma) (hmi : b ≠ mi) : CellsMid (a.setObj b x) p ma mi l bs1 c1 G bs2 c2 b :=
 ⟨by rw [zw (Ne.symm hp)]; exact h.hp, by rw [zw (Ne.symm hma)]; exact h.ha, by rw [zw (Ne.symm hmi)]; exact h.hi, h.ne,
  fun g hg' hne => by rw [zw hne]; exact h.hg g hg', h.nd⟩
theorem CellsMid.setI {b : Nat} (h : CellsMid a p ma mi l bs1 c1 G bs2 c2 b) {G' : List Grp} (bs : List Nat) (c : Nat) (hg : ∀ g ∈ G', (g ∈ G /\ g.b ≠ b) \/ (a.obj g.b = some (.cells (g.ns.map aI ++ g.L)) /\ g.fits /\ g.b ≠ p)) (nd : (G'.map (·.b)).Nodup) :
  CellsAt (a.setObj mi (.map (G'.map jk) bs c)) p ma mi l bs1 c1 G' bs c := by
 have hpi : mi ≠ p := fun e => by have := h.hi; rw [e, h.hp] at this; cases this
 refine ⟨by rw [zw (Ne.symm hpi)]; exact h.hp, by rw [zw h.ne]; exact h.ha, zd _ _ _, h.ne, fun g hg' => ?_, nd⟩
 have key : a.obj g.b = some (.cells (g.ns.map aI ++ g.L)) /\ g.fits /\ g.b ≠ p := by grind[hg]
 obtain ⟨h1, h2, h3⟩ := key
 have : g.b ≠ mi := fun e => by have := h.hi; grind
 grind[zw]
end
/-- One more in a cell. -/
theorem zpe {a : Store} {p ma mi : Nat} {l : List Ent} {bs1 : List Nat} {c1 : Nat} {G : List Grp} {bs2 : List Nat} {c2 : Nat} (ha : CellsAt a p ma mi l bs1 c1 G bs2 c2) (hi : Inv l G) {id : Int} {pos : Vc} (hno : ∀ e ∈ l, e.1 ≠ id) :
  ∃ cur ns, Bl false (.s (.slice none 0 0)) ((G.find? (Bf (zu pos))).map jk) = cur /\ Ints a cur ns /\ ns.Pairwise (· < ·) /\ (ns = [] \/ ∃ g ∈ G, ns = g.ns) /\ (∀ b cap, cur = .s (.slice (some ⟨b, 0, none⟩) ns.length cap) -> a.obj b ≠ none) ∧
   ∀ vb lit b cap L, Fresh a vb -> (Fresh (a.setObj vb lit) b \/ ∃ c0, cur = .s (.slice (some ⟨b, 0, none⟩) ns.length c0)) ->
    (ns.take (ns.countP (· < id)) ++ id :: ns.drop (ns.countP (· < id))).length <= cap -> cap <= (ns.take (ns.countP (· < id)) ++ id :: ns.drop (ns.countP (· < id))).length + L.length -> cap <= 9223372036854775807 ->
    ((a.setObj vb lit).setObj b (.cells ((ns.take (ns.countP (· < id)) ++ id :: ns.drop (ns.countP (· < id))).map aI ++ L))).obj mi = some (.map (G.map jk) bs2 c2) ∧
    ((a.setObj vb lit).setObj b (.cells ((ns.take (ns.countP (· < id)) ++ id :: ns.drop (ns.countP (· < id))).map aI ++ L))).obj p = some (.cells [.s (.map (some ma)), .s (.map (some mi))]) ∧
    ∃ G' bs2' c2', j3 (G.map jk) bs2 c2 (qG (zu pos).1 (zu pos).2) (.agg [int (zu pos).1, int (zu pos).2]) (.s (.slice (some ⟨b, 0, none⟩) (ns.take (ns.countP (· < id)) ++ id :: ns.drop (ns.countP (· < id))).length cap)) = .map (G'.map jk) bs2' c2' ∧
     CellsAt (((a.setObj vb lit).setObj b (.cells ((ns.take (ns.countP (· < id)) ++ id :: ns.drop (ns.countP (· < id))).map aI ++ L))).setObj mi (.map (G'.map jk) bs2' c2')) p ma mi l bs1 c1 G' bs2' c2' /\ Inv (l ++ [(id, pos)]) G' := by
 obtain ⟨w1, w2⟩ := zry (e := (id, pos)) hi hno
 cases hf : G.find? (Bf (zu pos)) with
 | none =>
  refine ⟨_, [], rfl, .inl ⟨rfl, rfl⟩, List.Pairwise.nil, .inl rfl, fun b cap h => ?_, fun vb lit b cap L hvb hb h1 h2 h3 => ?_⟩
  ·simp [Bl] at h
  have hb : Fresh (a.setObj vb lit) b := by grind[Bl]
  simp only [List.countP_nil, List.take_nil, List.drop_nil, List.nil_append] at *
  have a1 := ha.fresh lit hvb
  have a2 := a1.fresh (.cells ([id].map aI ++ L)) hb
  refine ⟨a2.hi, a2.hp, G ++ [⟨(zu pos).1, (zu pos).2, [id], b, cap, L⟩], bs2 ++ [c2], c2 + 1, ?_, ?_, ?_⟩
  ·unfold j3
   have : G.findIdx? (Bf (zu pos)) = none := by grind
   rw [Li, this, List.map_append]
   rfl
  ·refine a2.setI _ _ (fun g hg => ?_) ?_
   ·rcases List.mem_append.1 hg with hg | hg
    ·exact a2.hg g hg
    ·simp at hg
     subst hg
     exact ⟨zd _ _ _, ⟨h1, h2, h3⟩, hb.ne_obj a1.hp⟩
   ·rw [List.map_append, List.nodup_append]
    refine ⟨ha.nd, by simp, fun x hx y hy => ?_⟩
    obtain ⟨g, hg, rfl⟩ := List.mem_map.1 hx
    simp at hy
    subst hy
    exact Ne.symm (hb.ne_obj (a1.hg g hg).1)
  ·refine w2 (fun g hg hk => ?_) _ rfl rfl
   grind[atKey_iff]
 | some g =>
  obtain ⟨hg, hk⟩ := Lg hf
  have hk := atKey_iff.1 hk
  obtain ⟨j, hj1, hj2⟩ := Pk hf
  obtain ⟨k1, k2, k3⟩ := ha.hg g hg
  obtain ⟨s1, s2⟩ := hi.s g hg
  have hnin : id ∉ g.ns := fun h => by
   obtain ⟨e, he, h1, _⟩ := (hi.m1 g hg id).1 h
   grind
  obtain ⟨i1, i2⟩ := zr4 s1 hnin
  refine ⟨_, g.ns, rfl, .inr ⟨g.b, g.cap, g.L, rfl, k1, k2⟩, s1, .inr ⟨g, hg, rfl⟩, fun b cap h => ?_, fun vb lit b cap L hvb hb h1 h2 h3 => ?_⟩
  ·grind[Bl,jk]
  generalize g.ns.take (g.ns.countP (· < id)) ++ id :: g.ns.drop (g.ns.countP (· < id)) = ins at *
  have a1 := ha.fresh lit hvb
  have hbne : b ≠ p /\ b ≠ ma /\ b ≠ mi /\ ∀ g1 ∈ G, g1 ≠ g -> g1.b ≠ b := by
   rcases hb with hb | ⟨c0, hb⟩
   ·exact ⟨hb.ne_obj a1.hp, hb.ne_obj a1.ha, hb.ne_obj a1.hi, fun g1 hg1 _ => Ne.symm (hb.ne_obj (a1.hg g1 hg1).1)⟩
   ·have : g.b = b := by simp [Bl, jk] at hb; exact hb.1
    subst this
    obtain ⟨n1, n2, n3⟩ := ha.g_ne hg
    refine ⟨n3, n1, n2, fun g1 hg1 hne he => hne ?_⟩
    obtain ⟨i, hi1⟩ := List.mem_iff_getElem?.1 hg1
    have := wy (f := fun g : Grp => g.b) ha.nd hi1 hj2 he
    grind
  obtain ⟨n3, n1, n2, n4⟩ := hbne
  have mid := a1.mid (.cells (ins.map aI ++ L)) n3 n1 n2
  let g2 : Grp := ⟨g.x, g.y, ins, b, cap, L⟩
  have hmem : ∀ g1, g1 ∈ G.set j g2 -> g1 = g2 \/ (g1 ∈ G /\ g1 ≠ g) := fun g1 h => by
   rcases (wz (f := Grp.key) hi.n2 hj2).1 h with h | ⟨h, h'⟩
   ·grind
   grind
  refine ⟨mid.hi, mid.hp, G.set j g2, bs2, c2, ?_, ?_, w1 j g g2 hj2 hk rfl i1 i2⟩
  ·unfold j3
   rw [Li, hj1, List.map_set]
   simp only
   congr 2
   show _ = (AV.agg [int g.x, int g.y], _)
   rw [<- hk]; rfl
  ·refine mid.setI _ _ (fun g1 h1' => ?_) ?_
   ·rcases hmem g1 h1' with rfl | ⟨q1, q2⟩
    ·exact .inr ⟨zd _ _ _, ⟨h1, h2, h3⟩, n3⟩
    grind
   ·rw [List.map_set]
    have hlt := (List.getElem?_eq_some_iff.1 hj2).1
    unfold List.Nodup
    rw [List.pairwise_iff_getElem]
    intro i1 i2 hl1' hl2 hlt12 he
    replace he := congrArg some he
    rw [<- List.getElem?_eq_getElem, <- List.getElem?_eq_getElem] at he
    rw [List.getElem?_set, List.getElem?_set] at he
    simp only [List.length_map, List.length_set] at hl2 he
    have nd := ha.nd
    by_cases e1 : j = i1
    ·subst e1
     rw [if_pos rfl, if_pos hlt, if_neg (by omega), List.getElem?_map, List.getElem?_eq_getElem hl2] at he
     simp at he
     refine n4 G[i2] (List.getElem_mem hl2) (fun e => ?_) he.symm
     have := wy (f := Grp.key) hi.n2 (List.getElem?_eq_getElem hl2) hj2 (by rw [e])
     omega
    ·by_cases e2 : j = i2
     ·subst e2
      have hl1 : i1 < G.length := by omega
      rw [if_neg e1, if_pos rfl, if_pos hlt, List.getElem?_map, List.getElem?_eq_getElem hl1] at he
      simp at he
      refine n4 G[i1] (List.getElem_mem hl1) (fun e => ?_) he
      have := wy (f := Grp.key) hi.n2 (List.getElem?_eq_getElem hl1) hj2 (by rw [e])
      omega
     ·have hl1 : i1 < G.length := by omega
      rw [if_neg e1, if_neg e2, List.getElem?_map, List.getElem?_map, List.getElem?_eq_getElem hl1, List.getElem?_eq_getElem hl2] at he
      simp at he
      have := wy (f := fun g : Grp => g.b) nd (List.getElem?_eq_getElem hl1) (List.getElem?_eq_getElem hl2) he
      omega
theorem Ints.fresh {st : Store} {v : AV} {ns : List Int} (h : Ints st v ns) {b : Nat} (x : AObj) (hb : Fresh st b) : Ints (st.setObj b x) v ns := by
 rcases h with h | ⟨b1, cap, L, h1, h2, h3⟩
 ·exact .inl h
 ·exact .inr ⟨b1, cap, L, h1, by rw [zw (Ne.symm (hb.ne_obj h2))]; exact h2, h3⟩
/-- An append of one number to numbers over an object. -/
theorem zxc {P : Program} {c : Cfg} {e : TypeId} {ie : TI} (hie : c.I e = some ie) (hsz : ie.size = 1) (hby : ie.bytes = 8) {st : Store} {v : AV} {ns : List Int} (hv : Ints st v ns) (x : Int) (hlen : ns.length <= 1000000000000) {K : AV -> Store -> Prop}
  (h : ∀ b cap L, (Fresh st b \/ ∃ c0, v = .s (.slice (some ⟨b, 0, none⟩) ns.length c0)) -> (ns ++ [x]).length <= cap -> cap <= (ns ++ [x]).length + L.length -> cap <= 9223372036854775807 ->
   K (.s (.slice (some ⟨b, 0, none⟩) (ns ++ [x]).length cap)) (st.setObj b (.cells ((ns ++ [x]).map aI ++ L)))) : appendK P c st e (.av v) (.av (.lst 1 [[aI x]] none)) K := by
 have hrows : jc ie.size (.av (.lst 1 [[aI x]] none)) = some [[aI x]] := by simp [jc, hsz]
 refine ⟨.inr ⟨v, _, rfl, rfl, ?_⟩⟩
 have hl : (ns ++ [x]).length = ns.length + 1 := by simp
 rcases hv with ⟨rfl, rfl⟩ | ⟨b, cap, L, rfl, ho, h1, h2, h3⟩
 ·refine iv hie hrows ⟨by grind, by simp⟩ (by simp) (fun b' cap' hb hc hc2 => ?_)
  grind
 ·refine ir hie (cap := cap) ho (by grind) h1 hrows ⟨by grind, by grind⟩ (fun hc => ?_) (fun hc b' cap' hb hc1 hc2 => ?_)
  ·have hc : ns.length + 1 <= cap := hc
   have e1 : z7 (ns.map aI ++ L) (ns.length * ie.size) ([[aI x]] : List (List AV)).flatten = (ns ++ [x]).map aI ++ L.drop 1 := by simp_all[Fv]
   have e0 : ns.map (fun n => AV.s (.int .i64 n)) ++ L = ns.map aI ++ L := rfl
   have := h b cap (L.drop 1) (.inr ⟨cap, rfl⟩) (by omega) (by grind) h3
   grind
  ·have hc1 : ns.length + 1 <= cap' := hc1
   have e1 : (ns.map aI ++ L).take (ns.length * ie.size) ++ ([[aI x]] : List (List AV)).flatten ++ List.replicate ((cap' - (ns.length + 1)) * ie.size) .any = (ns ++ [x]).map aI ++ List.replicate (cap' - (ns.length + 1)) .any := by simp_all
   have := h b' cap' (List.replicate (cap' - (ns.length + 1)) .any) (.inl hb) (by omega) (by grind) hc2
   rw [hl, <- e1] at this
   exact this
/-- What Near holds beside the cells. -/
structure NearAt (N : Store) (b3 b4 b5 b6 p : Nat) (q : Vc) (r : Int) (v : AV) (acc : List Int) : Prop where
 h3 : N.obj b3 = some (.cells [.s (.pointer (some ⟨p, 0, none⟩))])
 h4 : N.obj b4 = some (.cells (zy q))
 h5 : N.obj b5 = some (.cells [int r])
 h6 : N.obj b6 = some (.cells [v])
 hv : Ints N v acc
 n36 : b3 ≠ b6
 n46 : b4 ≠ b6
 n56 : b5 ≠ b6
 nv : ∀ b n cap, v = .s (.slice (some ⟨b, 0, none⟩) n cap) -> b ≠ b3 /\ b ≠ b4 /\ b ≠ b5 /\ b ≠ b6
theorem NearAt.app {N : Store} {b3 b4 b5 b6 p : Nat} {q : Vc} {r : Int} {v : AV} {acc : List Int} (h : NearAt N b3 b4 b5 b6 p q r v acc) {b cap : Nat} {L : List AV} {x : Int}
  (hb : Fresh N b \/ ∃ c0, v = .s (.slice (some ⟨b, 0, none⟩) acc.length c0)) (h1 : (acc ++ [x]).length <= cap) (h2 : cap <= (acc ++ [x]).length + L.length) (h3 : cap <= 9223372036854775807) :
  NearAt ((N.setObj b (.cells ((acc ++ [x]).map aI ++ L))).setObj b6 (.cells [.s (.slice (some ⟨b, 0, none⟩) (acc ++ [x]).length cap)])) b3 b4 b5 b6 p q r (.s (.slice (some ⟨b, 0, none⟩) (acc ++ [x]).length cap)) (acc ++ [x]) := by
 have hne : b ≠ b3 /\ b ≠ b4 /\ b ≠ b5 /\ b ≠ b6 := by
  rcases hb with hb | ⟨c0, hb⟩
  ·exact ⟨hb.ne_obj h.h3, hb.ne_obj h.h4, hb.ne_obj h.h5, hb.ne_obj h.h6⟩
  ·exact h.nv b _ _ hb
 obtain ⟨n3, n4, n5, n6⟩ := hne
 refine ⟨?_, ?_, ?_, zd _ _ _, .inr ⟨b, cap, L, rfl, ?_, h1, h2, h3⟩, h.n36, h.n46, h.n56, fun b' n c e => ?_⟩
 ·rw [zw h.n36, zw (Ne.symm n3)]; exact h.h3
 ·rw [zw h.n46, zw (Ne.symm n4)]; exact h.h4
 ·rw [zw h.n56, zw (Ne.symm n5)]; exact h.h5
 ·rw [zw n6, zd]; rfl
 grind
theorem Ints.un {a g : Store} {v : AV} {ns : List Int} (h : Ints g v ns) : Ints (a.un g) v ns := by
 rcases h with h | ⟨b1, cap, L, h1, h2, h3⟩
 ·exact .inl h
 ·exact .inr ⟨b1, cap, L, h1, ze h2, h3⟩
section
variable {P : Program} {c : Cfg} {w : World} {st : Store} {Oth M : Nat -> Nat -> Prop}
/-- A map's stamps, as every world has them. -/
structure Stamps (es : List (AV × AV)) (bs : List Nat) (clk : Nat) : Prop where
  len : es.length = bs.length
  lt : ∀ t ∈ bs, t < clk
  inc : bs.Pairwise (· < ·)
/-- What holds of a map in every world may be used. -/
theorem zxs {o : Oper} {args : List AV} {m clk : Nat} {es : List (AV × AV)} {bs : List Nat} (hm : st.obj m = some (.map es bs clk)) {R : AV -> Store -> Prop} (h : Stamps es bs clk -> AEff P c o args st R) : AEff P c o args st R := by
  refine ⟨fun Oth M w ρ hI sto hr => ?_⟩
  obtain ⟨⟨ms, g1, g2, g3, g4, g5, g6⟩, hM⟩ := sto.obj m _ hm
  exact (h ⟨by grind, g5, g6⟩).out Oth M w ρ hI sto hr
theorem zuk {t : Nat} {me : MapEntry} : ∀ {L : List MapEntry} {i : Nat}, (L.map (·.born)).Pairwise (· < ·) -> L[i]? = some me -> me.born = t -> L.find? (fun e => e.born == t) = some me := by
  intro L
  induction L with
  | nil => simp
  | cons a L ih =>
    grind[List.pairwise_cons]
theorem zxx {o : Oper} {x : Operand} (ho : o.op = .entry x) {b m clk since : Nat} {es : List (AV × AV)} {bs seen : List Nat} {i t : Nat} {e : AV × AV} (hb : st.obj b = some (.iter m since (seen ++ [t]) clk)) (hm : st.obj m = some (.map es bs clk))
    (he : es[i]? = some e) (hbi : bs[i]? = some t) {R : AV -> Store -> Prop} (h : R (.tup [e.1, e.2]) st) : AEff P c o [.s (.pointer (some ⟨b, 0, none⟩))] st R := by
  refine ⟨fun Oth M w ρ hI sto hr => ?_⟩
  rw [ho] at hr
  have hr : Reads w (fun b o => M b o \/ Oth b o) [.s (.pointer (some ⟨b, 0, none⟩))] [ρ x] := by simpa [Op.operands] using hr
  obtain ⟨u, hx0, hx⟩ := Ho hr
  simp only [List.cons.injEq, and_true] at hx0
  rw [<- hx0] at hx
  have hx := VRel.eq_s hx
  obtain ⟨⟨ms, g1, g2, g3, g4, g5, g6⟩, hM⟩ := sto.obj m _ hm
  obtain ⟨hit, hMb⟩ := sto.obj b _ hb
  have hit : w.heap[b]? = some (.mapIter (some m) since (seen ++ [t]).toArray clk) := hit
  have hgo : (getObj b).run P w = .ok (.mapIter (some m) since (seen ++ [t]).toArray clk) w := by simp [getObj, Sem.run, hit]
  have hlt : i < ms.size := by grind
  have hmi : ms[i]? = some ms[i] := Array.getElem?_eq_getElem hlt
  have hbt : ms[i].born = t := by grind
  have hfind : ms.find? (fun e => e.born == t) = some ms[i] := by
    rw [<- Array.find?_toList]
    exact zuk (by grind) (by rw [Array.getElem?_toList]; exact hmi) hbt
  have hback : (seen ++ [t]).toArray.back? = some t := by simp
  have hrun : (execOp ρ o).run P w = .ok (.value (.tuple #[ms[i].key, ms[i].val])) w := by
    simp only [execOp, ho, Instr.entry, hx, Sem.run_bind, hgo, Result.andThen_ok, hback, vq g1, bne_self_eq_false, Bool.false_eq_true, if_false, hfind, Sem.run_pure]
  rw [hrun]
  have hrel := g3 i e ms[i] he hmi
  exact ⟨_, st, M, h, k9 (Reads.cons hrel.1 (Reads.cons hrel.2 Reads.nil)), sto, Chg.refl _ _⟩
end
theorem ci {x r : Int} (hx : 0 <= x) (hr : 0 < r) (h : x * x < r * r) : x < r := by
 by_cases h1 : x < r
 ·exact h1
 ·have h2 : r <= x := by omega
  have h3 : r * r <= x * x := Int.mul_le_mul h2 h2 (by omega) hx
  omega
theorem ff {a b r : Int} (ha : ye a) (hb : ye b) (hr : 0 < r) (hr2 : r <= 9223372036854775807) (h : asz (yh a b) < r) : yh a r <= nrm b /\ nrm b <= yo a r := by grind[jg,wx,nrm,yh,asz,yo,xo]
/-- Who is near stands in a cell between. -/
theorem zqp {q p : Vc} {r : Int} (hq : q.ok) (hp : p.ok) (hr : 0 < r) (hr2 : r <= 9223372036854775807) (h : near q p r = true) :
  ((zu (yh q.1 r, yh q.2 r)).1 <= (zu p).1 /\ (zu p).1 <= (zu (yo q.1 r, yo q.2 r)).1) /\ ((zu (yh q.1 r, yh q.2 r)).2 <= (zu p).2 /\ (zu p).2 <= (zu (yo q.1 r, yo q.2 r)).2) := by
 unfold near at h
 have h := (of_decide_eq_true h).2
 have e1 := De (C6 q.1 p.1)
 have e2 := De (C6 q.2 p.2)
 have m1 : 0 <= asz (yh q.1 p.1) * asz (yh q.1 p.1) := Int.mul_nonneg e1.1 e1.1
 have m2 : 0 <= asz (yh q.2 p.2) * asz (yh q.2 p.2) := Int.mul_nonneg e2.1 e2.1
 have h' : asz (yh q.1 p.1) * asz (yh q.1 p.1) + asz (yh q.2 p.2) * asz (yh q.2 p.2) < r * r := h
 have d1 := ff hq.1 hp.1 hr hr2 (ci e1.1 hr (by omega))
 have d2 := ff hq.2 hp.2 hr hr2 (ci e2.1 hr (by omega))
 grind[wx,Pi,zu]
theorem zom {q : Vc} {r : Int} (hq : q.ok) (hr : 0 < r) (hr2 : r <= 9223372036854775807) :
  (zu (yh q.1 r, yh q.2 r)).1 <= (zu (yo q.1 r, yo q.2 r)).1 /\ (zu (yh q.1 r, yh q.2 r)).2 <= (zu (yo q.1 r, yo q.2 r)).2 := by
 have key : ∀ a : Int, ye a -> yh a r <= yo a r := by grind[yh,yo,xo,nrm]
 have k1 := key q.1 hq.1
 have k2 := key q.2 hq.2
 grind[wx,Pi,zu]
theorem gp {p : Vc} (h : p.ok) : (-70368744177664 <= (zu p).1 /\ (zu p).1 <= 70368744177664) /\ (-70368744177664 <= (zu p).2 /\ (zu p).2 <= 70368744177664) := by
 have h1 := jg h.1
 have h2 := jg h.2
 unfold zu
 omega
/-- Those near in the cells that are done. -/
def NearIn (l : List Ent) (q : Vc) (r : Int) (D : Ent -> Prop) (acc : List Int) : Prop := acc.Nodup /\ ∀ id, id ∈ acc ↔ ∃ e ∈ l, e.1 = id /\ near q e.2 r = true /\ D e
theorem NearIn.congr {l : List Ent} {q : Vc} {r : Int} {D D' : Ent -> Prop} {acc : List Int} (h : NearIn l q r D acc) (hD : ∀ e ∈ l, near q e.2 r = true -> (D e ↔ D' e)) : NearIn l q r D' acc := by
 refine ⟨h.1, fun id => ?_⟩
 rw [h.2 id]
 grind
theorem NearIn.len {l : List Ent} {q : Vc} {r : Int} {D : Ent -> Prop} {acc : List Int} (h : NearIn l q r D acc) : acc.length <= l.length := by
 have := List.Nodup.length_le_of_subset (l₂ := l.map (·.1)) h.1 (fun id hid => by
  obtain ⟨e, h1, h2, _⟩ := (h.2 id).1 hid
  grind)
 grind
/-- One more is looked at. -/
theorem NearIn.step {l : List Ent} (hn : (l.map (·.1)).Nodup) {q : Vc} {r : Int} {D : Ent -> Prop} {acc : List Int} (h : NearIn l q r D acc) {e : Ent} (he : e ∈ l) (hD : ¬ D e) : NearIn l q r (fun e' => D e' \/ e' = e) (if near q e.2 r then acc ++ [e.1] else acc) := by
 cases hnr : near q e.2 r with
 | false =>
  refine h.congr fun e' he' hn' => ⟨.inl, fun hh => hh.elim id fun hh => ?_⟩
  grind
 | true =>
  refine ⟨?_, fun id => ?_⟩
  ·rw [if_pos rfl, List.nodup_append]
   refine ⟨h.1, by simp, fun a ha b hb => ?_⟩
   simp at hb
   subst hb
   intro hab
   subst hab
   obtain ⟨e', h1, h2, _, h4⟩ := (h.2 _).1 ha
   grind[H4]
  ·rw [if_pos rfl, List.mem_append, h.2 id]
   grind
theorem zsr {l : List Ent} {G : List Grp} (h : Inv l G) : G.length <= l.length := by
 have h1 : (G.map fun g => g.ns.headD 0).Nodup := by
  unfold List.Nodup
  rw [List.pairwise_map]
  have n2 := h.n2
  unfold List.Nodup at n2
  rw [List.pairwise_map] at n2
  have key : ∀ g ∈ G, g.ns.headD 0 ∈ g.ns := fun g hg => by
   have := (h.s g hg).2
   cases hns : g.ns with
   | nil => grind
   | cons a t => simp
  rw [List.pairwise_iff_getElem] at n2 ⊢
  intro i j hi hj hij he
  obtain ⟨e1, q1, q2, q3⟩ := (h.m1 G[i] (List.getElem_mem hi) _).1 (key _ (List.getElem_mem hi))
  obtain ⟨e2, q4, q5, q6⟩ := (h.m1 G[j] (List.getElem_mem hj) _).1 (key _ (List.getElem_mem hj))
  refine n2 i j hi hj hij ?_
  rw [<- q3, <- q6, H4 h.n1 q4 q1 (by omega)]
 have := List.Nodup.length_le_of_subset (l₂ := l.map (·.1)) h1 (fun id hid => by
  obtain ⟨g, hg, rfl⟩ := List.mem_map.1 hid
  have := (h.s g hg).2
  cases hns : g.ns with
  | nil => grind
  | cons a t =>
   obtain ⟨e, q1, q2, _⟩ := (h.m1 g hg a).1 (by grind)
   grind)
 grind
theorem zq5 {xs : List Int} (h : xs.Nodup) : (xs.mergeSort fun x y => decide (x <= y)).Pairwise (· < ·) /\ ∀ n, n ∈ (xs.mergeSort fun x y => decide (x <= y)) ↔ n ∈ xs := by
 have h1 := List.pairwise_mergeSort (le := fun x y : Int => decide (x <= y)) (fun a b c h1 h2 => by grind) (fun a b => by grind) xs
 have h2 : (xs.mergeSort fun x y => decide (x <= y)).Nodup := (List.mergeSort_perm xs _).nodup_iff.2 h
 refine ⟨?_, fun n => List.mem_mergeSort⟩
 have h3 := h1.and h2
 grind
/-- The numbers of those near. -/
def Iq (l : List Ent) (q : Vc) (r : Int) (ns : List Int) : Prop := ns.Pairwise (· < ·) /\ ∀ id, id ∈ ns ↔ ∃ e ∈ l, e.1 = id /\ near q e.2 r = true
theorem Mx {a g : Store} {b : Nat} {x : AObj} (h : ¬ g.has b) : (a.un g).setObj b x = (a.setObj b x).un g := by
 obtain ⟨h1, h2⟩ := Bk h
 unfold Store.un Store.setObj
 grind[yz]
theorem zu8 {a g : Store} {b : Nat} {x : AObj} (h : zv a g) (hb : ¬ g.has b) : zv (a.setObj b x) g := by
 intro i hi hg
 rcases has_setObj_iff.1 hi with rfl | hi
 ·grind
 ·exact h i hi hg
theorem zu7 {a g : Store} {b : Nat} {x y : AObj} (h : zv (a.setObj b x) g) : zv (a.setObj b y) g /\ ¬ g.has b := by
 have h1 : ¬ g.has b := h b (has_setObj_iff.2 (.inl rfl))
 refine ⟨fun i hi hg => ?_, h1⟩
 rcases has_setObj_iff.1 hi with rfl | hi
 ·grind
 ·exact h i (has_setObj_iff.2 (.inr hi)) hg
theorem ed {l : List Ent} (hn : (l.map (·.1)).Nodup) {e : Ent} (he : e ∈ l) : l.find? (jx e.1) = some e := by
 cases hf : l.find? (jx e.1) with
 | none =>
  grind[jx]
 | some e' =>
  grind[jx,H4]
theorem zkz {st : Store} {p q : Nat} {x y : Option Nat} (h : q ≠ p) : (st.setTok p x).setTok q y = (st.setTok q y).setTok p x := by
 unfold Store.setTok
 congr
 funext i
 by_cases hi : i = p
 ·subst hi; simp [yz (Ne.symm h)]
 ·simp [yz hi]
theorem ztw {st : Store} {p b : Nat} {x : Nat} (h : Fresh (st.setTok p (some x)) b) : b ≠ p /\ Fresh st b := by
 have hn : b ≠ p := fun e => by have := h.2; rw [e, zkx] at this; cases this
 exact ⟨hn, h.1, by have := h.2; rwa [Ns hn] at this⟩
theorem ztv {st : Store} {p b : Nat} {x : Nat} (h : Fresh st b) (hn : b ≠ p) : Fresh (st.setTok p (some x)) b := ⟨h.1, by rw [Ns hn]; exact h.2⟩
/-- Two slices grow side by side. -/
theorem App.swap {k k' : Nat} {st st1 st2 : Store} {v v' : AV} {rows rows' : List (List AV)} (h : App k st v rows st1) (h' : App k' st1 v' rows' st2) : ∃ st3, App k' st v' rows' st3 /\ App k st3 v rows st2 := by
 rcases h with ⟨h1, h2, rfl⟩ | ⟨h1, h2, rfl⟩ | ⟨h1, b, hb, h2, rfl⟩
 ·exact ⟨st2, h', .inl ⟨h1, h2, rfl⟩⟩
 ·exact ⟨st2, h', .inr (.inl ⟨h1, h2, rfl⟩)⟩
 ·rcases h' with ⟨h3, h4, rfl⟩ | ⟨h3, h4, rfl⟩ | ⟨h3, b', hb', h4, rfl⟩
  ·exact ⟨st, .inl ⟨h3, h4, rfl⟩, .inr (.inr ⟨h1, b, hb, h2, rfl⟩)⟩
  ·exact ⟨st, .inr (.inl ⟨h3, h4, rfl⟩), .inr (.inr ⟨h1, b, hb, h2, rfl⟩)⟩
  ·obtain ⟨hn, hf⟩ := ztw hb'
   exact ⟨_, .inr (.inr ⟨h3, b', hf, h4, rfl⟩), .inr (.inr ⟨h1, b, ztv hb (Ne.symm hn), h2, by rw [zkz hn]⟩)⟩
def w8 : Option Nat -> Int | some i => (i : Int) | none => -1
theorem un_comm {a b : Store} (h : zv a b) : a.un b = b.un a := by
 unfold Store.un
 congr <;> funext i
 ·cases h1 : b.obj i with
  | none => grind
  | some x =>
   have : a.obj i = none := by
    cases h2 : a.obj i with
    | none => rfl
    | some y => exact absurd (Bq h1) (h i (Bq h2))
   rw [this]
 ·cases h1 : b.tok i with
  | none => grind
  | some x =>
   have : a.tok i = none := by
    cases h2 : a.tok i with
    | none => rfl
    | some y => exact absurd (Gh h1) (h i (Gh h2))
   rw [this]
theorem C8 (a : Store) : Store.empty.un a = a := by
 unfold Store.un Store.empty
 congr <;> funext i
 ·grind
 grind
theorem disj_un {a b c : Store} : zv (a.un b) c ↔ zv a c /\ zv b c :=
 ⟨fun h => ⟨fun i h1 => h i (un_has.2 (.inl h1)), fun i h1 => h i (un_has.2 (.inr h1))⟩, fun ⟨h1, h2⟩ i h => (un_has.1 h).elim (h1 i) (h2 i)⟩
theorem nj {a g : Store} : (a.un g).Le g := ⟨fun b y h => ⟨y, ze h, AObj.le_refl y⟩, fun b x h => Cf h⟩
/-- From a store that says more. -/
theorem AWp.leS {P : Program} {c : Cfg} {code : Code} {Q : Exit -> Fr -> Store -> Prop} {A : Fr} {st st' : Store} (hle : st.Le st') (h : AWp P c code Q A st') : AWp P c code Q A st := by
 refine ⟨fun Oth M a w ⟨β, s⟩ => h.out Oth M a w ⟨β, { tsz := s.tsz, dfr := s.dfr, tm := s.tm, bx := s.bx, inj := s.inj, sep := fun k b hk hb => s.sep k b hk ?_, sto := s.sto.weakenLe hle }⟩⟩
 rcases hb with hb | hb
 ·cases hx : st'.obj b with
  | none => grind
  | some y =>
   obtain ⟨x, h1, _⟩ := hle.obj b y hx
   grind
 ·cases hx : st'.tok b with
  | none => grind
  | some y => exact .inr (by rw [hle.tok b y hx]; simp)
/-- A list reads on. -/
theorem Av {st : Store} {x : AV} {Oth M : Nat -> Nat -> Prop} {w : World} {v : Value} (h : VRel w (fun b o => M b o \/ Oth b o) x v) : VRel w (fun b o => (M b o \/ Oth b o) /\ st.obj b = none) x v :=
 h.mono fun _ _ h => h.1
/-- A building, a unit, a world. -/
structure Bld where
 id : Int
 owner : Int
 x : Int
 y : Int
 w : Int
 h : Int
 deriving DecidableEq
structure Unt where
 id : Int
 owner : Int
 kind : Int
 pos : Vc
 goal : Int
 next : Int
 stuck : Int
 inn : Int
 state : Int
 deriving DecidableEq
structure Wld where
 tick : Int
 players : Int
 next : Int
 G : Gnd
 B : List Bld
 U : List Unt
 deriving DecidableEq
def zz (b : Bld) : List AV := [int b.id, int b.owner, int b.x, int b.y, int b.w, int b.h]
def zp (u : Unt) : List AV := [int u.id, int u.owner, int u.kind, int u.pos.1, int u.pos.2, int u.goal, int u.next, int u.stuck, int u.inn, int u.state]
def yd (w : Wld) : List AV := [int w.tick, int w.players, int w.next, int w.G.W, int w.G.H, Db w.G.T, lst 6 zz w.B, lst 10 zp w.U]
def Wld.fits (w : Wld) : Prop := w.G.fits /\ w.B.length <= 1000000000000 /\ w.U.length <= 1000000000000
/-- Kinds. -/
def zk (k : Int) : Int := if k = 0 then 24576 else if k = 2 then 81920 else 32768
def ym (k : Int) : Int := if k = 0 then 16384 else if k = 1 then 24576 else if k = 2 then 8192 else 16384
def zm (k : Int) : Int := if k = 0 then 0 else if k = 1 then 1 else if k = 2 then 0 else 2
def zx (k : Int) : Int := if k = 2 then 1 else 0
def x5 (k : Int) : Int := if k = 0 then 0 else if k = 1 then 0 else if k = 2 then 0 else 4
def v8 (k : Int) : List AV := [int (zk k), int (ym k), int (zm k), int (zx k), int (x5 k)]
def ki (k : Int) : Prop := 0 <= k /\ k <= 3
def js (c : Int) (t : Nat) : Int := ((if c = 0 then [2, 1, 3, 5, 0, 0] else if c = 1 then [2, 1, 6, 0, 0, 0] else [2, 1, 0, 3, 2, 0]) : List Int).getD t 0
/-- Buildings. -/
def yc (b : Bld) : Prop := (1 <= b.id /\ b.id <= 1099511627776) /\ (1 <= b.owner /\ b.owner <= 8) /\ (1 <= b.w /\ b.w <= 4) /\ (1 <= b.h /\ b.h <= 4)
def onP (g : Gnd) (b : Bld) : Prop := (0 <= b.x /\ b.x + b.w <= g.W) /\ (0 <= b.y /\ b.y + b.h <= g.H)
def ji (g : Gnd) (b : Bld) (t : Nat) : Prop := (b.x <= (t : Int) % g.W /\ (t : Int) % g.W < b.x + b.w) /\ (b.y <= (t : Int) / g.W /\ (t : Int) / g.W < b.y + b.h)
instance (g : Gnd) (b : Bld) (t : Nat) : Decidable (ji g b t) := inferInstanceAs (Decidable (_ /\ _))
def Bc (g : Gnd) (b : Bld) : Prop := ∀ t, t < g.T.length -> ji g b t -> (g.T.getD t 0).toNat <= 1
def v6 (a b : Bld) : Prop := (a.x < b.x + b.w /\ b.x < a.x + a.w) /\ (a.y < b.y + b.h /\ b.y < a.y + a.h)
def Hm (l : List Bld) : Prop := ∀ j, (h : j < l.length) -> 0 < j -> (l[j - 1]'(by omega)).id < l[j].id
def yq (l : List Unt) : Prop := ∀ j, (h : j < l.length) -> 0 < j -> (l[j - 1]'(by omega)).id < l[j].id
def Me (l : List Bld) : Prop := ∀ j, (h : j < l.length) -> ∀ i, (hi : i < j) -> ¬ v6 l[j] (l[i]'(by omega))
def Dc (g : Gnd) (l : List Bld) : Prop := l.length <= 256 /\ Hm l /\ (∀ b ∈ l, yc b /\ onP g b /\ Bc g b) /\ Me l
def qa (g : Gnd) (l : List Bld) (t : Nat) : Bool := l.any fun b => decide (ji g b t)
def z6 (g : Gnd) (l : List Bld) (c : Int) (t : Nat) : Bool := !qa g l t && decide (0 < js c (g.T.getD t 0).toNat)
/-- Discs. -/
def tx (g : Gnd) (t : Nat) : Int := (t : Int) % g.W * 65536
def ty (g : Gnd) (t : Nat) : Int := (t : Int) / g.W * 65536
def off (x lo : Int) : Int := if x < lo then lo - x else if x > lo + 65536 then x - (lo + 65536) else 0
def xb (g : Gnd) (t : Nat) (p : Vc) (r : Int) : Prop := off p.1 (tx g t) * off p.1 (tx g t) + off p.2 (ty g t) * off p.2 (ty g t) < r * r
instance (g : Gnd) (t : Nat) (p : Vc) (r : Int) : Decidable (xb g t p r) := inferInstanceAs (Decidable (_ < _))
def qw (g : Gnd) (l : List Bld) (c : Int) (p : Vc) (r : Int) : Prop :=
 ((r <= p.1 /\ p.1 + r <= g.W * 65536) /\ (r <= p.2 /\ p.2 + r <= g.H * 65536)) /\ ∀ t, t < g.T.length -> z6 g l c t = false -> ¬ xb g t p r
def xq (p : Vc) (r : Int) (q : Vc) (s : Int) : Bool := !near p q (r + s)
def qh (w : Wld) (id k : Int) (p : Vc) : Prop :=
 qw w.G w.B (zm k) p (zk k) /\ ∀ u ∈ w.U, u.inn = 0 -> u.id ≠ id -> xq p (zk k) u.pos (zk u.kind) = true
/-- Worlds. -/
def jb (g : Gnd) (t : Int) : Prop := t = -1 \/ (0 <= t /\ t < g.W * g.H)
def xt (w : Wld) (u : Unt) : Prop :=
 ((1 <= u.id /\ u.id < w.next) /\ (1 <= u.owner /\ u.owner <= w.players) /\ ki u.kind) /\ (jb w.G u.goal /\ jb w.G u.next /\ (0 <= u.stuck /\ u.stuck < 8)) ∧
 ((0 <= u.state /\ u.state <= 4) /\ (u.state = 1 ↔ u.goal ≠ -1)) /\ (u.goal = -1 -> u.next = -1 /\ u.stuck = 0)
def Cz (w : Wld) : Prop :=
 ((0 <= w.tick /\ w.tick <= 1099511627776) /\ (1 <= w.players /\ w.players <= 8) /\ (1 <= w.next /\ w.next <= 1099511627776)) ∧
 (zi w.G /\ Dc w.G w.B /\ w.U.length <= 4096) /\ ∀ b ∈ w.B, b.owner <= w.players /\ b.id < w.next
def Dj (w : Wld) : Prop := yq w.U /\ ∀ u ∈ w.U, xt w u /\ ∀ b ∈ w.B, b.id ≠ u.id
def yi (l : List Unt) (id : Int) : List Int := (l.filter fun u => u.inn == id).map (·.id)
def kg (w : Wld) (u : Unt) : Prop :=
 ∃ x ∈ w.U, x.id = u.inn /\ (x.inn = 0 /\ x.owner = u.owner) /\ ((yi w.U u.inn).length : Int) <= x5 x.kind /\ x5 u.kind = 0 /\ u.pos = (0, 0) /\ u.goal = -1 /\ u.state = 0
def yg (w : Wld) : Prop := (Cz w /\ Dj w) /\ (∀ u ∈ w.U, u.inn = 0 -> qh w u.id u.kind u.pos) /\ ∀ u ∈ w.U, u.inn ≠ 0 -> kg w u
theorem ig (a b : Int) : (a == b) = decide (a = b) := by rfl
theorem yw {g : Gnd} (h : zi g) : 1 <= g.W * g.H /\ g.W * g.H <= 16384 /\ (g.T.length : Int) = g.W * g.H := by
 obtain ⟨⟨h1, h2⟩, ⟨h3, h4⟩, h5, _⟩ := h
 have : 1 * 1 <= g.W * g.H := Int.mul_le_mul h1 h3 (by decide) (by omega)
 have : g.W * g.H <= 128 * 128 := Int.mul_le_mul h2 h4 (by omega) (by decide)
 omega
def H6 (w : Wld) : Prop := (w.G.T.length > 700 \/ w.B.length > 30) \/ w.U.length > 30
theorem Mr {a b : Vc} (h1 : -2305843009213693952 <= a.1 /\ a.1 <= 2305843009213693952) (h2 : -2305843009213693952 <= a.2 /\ a.2 <= 2305843009213693952) (h3 : -2305843009213693952 <= b.1 /\ b.1 <= 2305843009213693952) (h4 : -2305843009213693952 <= b.2 /\ b.2 <= 2305843009213693952) :
  y6 a b = (a.1 - b.1, a.2 - b.2) := by
 have n : ∀ x : Int, -4611686018427387904 <= x /\ x <= 4611686018427387904 -> nrm x = x := fun x hx => by unfold nrm; omega
 have c : ∀ x : Int, -4611686018427387904 <= x /\ x <= 4611686018427387904 -> xo x = x := fun x hx => by unfold xo; omega
 grind[y6,yh,yo]
theorem Ri {x : Int} (h : -4611686018427387904 <= x /\ x <= 4611686018427387904) : asz x * asz x = x * x := by
 have n : nrm x = x := by unfold nrm; omega
 grind[asz]
theorem bf {a b : Vc} {r : Int} (h1 : -2305843009213693952 <= a.1 /\ a.1 <= 2305843009213693952) (h2 : -2305843009213693952 <= a.2 /\ a.2 <= 2305843009213693952) (h3 : -2305843009213693952 <= b.1 /\ b.1 <= 2305843009213693952) (h4 : -2305843009213693952 <= b.2 /\ b.2 <= 2305843009213693952) (hr : 0 < r) :
  near a b r = decide ((a.1 - b.1) * (a.1 - b.1) + (a.2 - b.2) * (a.2 - b.2) < r * r) := by
 unfold near sqr
 rw [Mr h1 h2 h3 h4, Ri (by omega), Ri (by omega)]
 grind
theorem wo {g : Gnd} (hg : zi g) {t : Nat} (ht : (t : Int) < g.W * g.H) : (0 <= (t : Int) % g.W /\ (t : Int) % g.W < g.W) /\ (0 <= (t : Int) / g.W /\ (t : Int) / g.W < g.H) := by
 obtain ⟨⟨h1, h2⟩, ⟨h3, h4⟩, _⟩ := hg
 have h5 := Int.emod_nonneg (t : Int) (show g.W ≠ 0 by omega)
 have h6 := Int.emod_lt_of_pos (t : Int) (show 0 < g.W by omega)
 have h7 : 0 <= (t : Int) / g.W := Int.ediv_nonneg (by omega) (by omega)
 have h8 : (t : Int) / g.W < g.H := Int.ediv_lt_of_lt_mul (by omega) (by grind)
 omega
theorem Ch {t : Nat} {w : Int} (hw : 1 <= w) : (t : Int).tdiv w = (t : Int) / w := Int.tdiv_eq_ediv_of_nonneg (by omega)
theorem Cg {t : Nat} {w : Int} (hw : 1 <= w) : (t : Int).tmod w = (t : Int) % w := Int.tmod_eq_emod_of_nonneg (by omega)
theorem M5 {g : Gnd} (hg : zi g) {t : Nat} (ht : (t : Int) < g.W * g.H) : (0 <= tx g t /\ tx g t <= 8323072) /\ (0 <= ty g t /\ ty g t <= 8323072) := by
 have := wo hg ht
 obtain ⟨⟨h1, h2⟩, ⟨h3, h4⟩, _⟩ := hg
 unfold tx ty
 omega
def Bd (x lo : Int) : Int := min2 (max2 x lo) (lo + 65536)
theorem min2_eq (a b : Int) : min2 a b = min a b := by grind[min2]
theorem Gc (a b : Int) : max2 a b = max a b := by grind[max2]
theorem ga (x lo : Int) : Bd x lo = min (max x lo) (lo + 65536) := by unfold Bd; rw [min2_eq, Gc]
theorem f9 (x lo : Int) : (x - Bd x lo) * (x - Bd x lo) = off x lo * off x lo := by
 rw [ga]
 unfold off
 grind
theorem L4 {x lo : Int} (h : 0 <= lo /\ lo <= 8323072) : 0 <= Bd x lo /\ Bd x lo <= 8388608 := by rw [ga]; omega
theorem W6 {x lo : Int} (h : 0 <= lo /\ lo <= 8323072) (hx : -1099511627776 <= x /\ x <= 1099511627776) : 0 <= off x lo /\ off x lo <= 1099519950848 := by grind[off]
theorem zqs {g : Gnd} (hg : zi g) {t : Nat} (ht : (t : Int) < g.W * g.H) {p : Vc} (hp : xf p.1 p.2) {r : Int} (hr : 0 < r) :
  near p (Bd p.1 (tx g t), Bd p.2 (ty g t)) r = decide (xb g t p r) := by
 have hb := M5 hg ht
 have h1 := L4 (x := p.1) hb.1
 have h2 := L4 (x := p.2) hb.2
 obtain ⟨h3, h4⟩ := hp
 rw [bf (by omega) (by omega) (by omega) (by omega) hr]
 dsimp only
 rw [f9, f9]
 rfl
theorem Nm {a r : Int} (ha : 0 <= a) (hr : 0 < r) (h : a * a < r * r) : a < r := by
 apply Decidable.byContradiction
 intro hn
 have : r * r <= a * a := Int.mul_le_mul (by omega) (by omega) (by omega) ha
 omega
theorem zq7 {dx dy r : Int} (h1 : 0 <= dx) (h2 : 0 <= dy) (hr : 0 < r) : (dx < r /\ dy < r /\ dx * dx + dy * dy < r * r) ↔ dx * dx + dy * dy < r * r := by grind[Nm,Int.mul_nonneg]
theorem Np {a : Int} (h : 0 <= a /\ a <= 262144) : 0 <= a * a /\ a * a <= 68719476736 :=
 ⟨Int.mul_nonneg h.1 h.1, by have : a * a <= 262144 * 262144 := Int.mul_le_mul h.2 h.2 h.1 (by decide); omega⟩
def Store.delObj (st : Store) (b : Nat) : Store := { st with obj := fun i => bif Nat.beq i b then none else st.obj i }
theorem C9 {st : Store} {b b' : Nat} {x : AObj} (h : (st.delObj b).obj b' = some x) : b' ≠ b /\ st.obj b' = some x := by
  have h : (bif Nat.beq b' b then none else st.obj b') = some x := h
  grind[Nat.beq_refl]
/-- An object that is done with is a plain list. -/
theorem AWp.freeze {P : Program} {c : Cfg} {code : Code} {Q : Exit -> Fr -> Store -> Prop} {A : Fr} {st : Store} {d b n cap k : Nat} {rows : List (List AV)} {pad : List AV}
    (hA : A.t d = .av (.s (.slice (some ⟨b, 0, none⟩) n cap))) (ho : st.obj b = some (.cells (rows.flatten ++ pad))) (ht : st.tok b = none) (hn : rows.length = n) (hcap : n <= cap)
    (hk : ∀ row ∈ rows, row.length = k) (hall : ∀ row ∈ rows, ∀ x ∈ row, ∃ v, x = AV.s v /\ qg v = true)
    (h : AWp P c code Q (A.put d (.av (.lst k rows none))) (st.delObj b)) : AWp P c code Q A st := by
  refine ⟨fun Oth M a w ⟨β, sim⟩ => ?_⟩
  have hs : ∀ b' o, ((M b' o /\ b' ≠ b) \/ Oth b' o) -> (M b' o \/ Oth b' o) := fun _ _ h => h.imp (·.1) id
  have sim' : SimB c.N Oth β (A.put d (.av (.lst k rows none))) (st.delObj b) (fun b' o => M b' o /\ b' ≠ b) a w := by
    refine { tsz := sim.tsz, dfr := sim.dfr.sub fun _ _ h => h.1, tm := fun i => ?_, bx := fun j l hj => ⟨(sim.bx j l hj).1.mono hs, fun o => ⟨(sim.bx j l hj).2 o, ?_⟩⟩, inj := sim.inj, sep := fun j b' hj hb' => ?_, sto := ?_ }
    · by_cases hi : i = d
      · subst hi
        have e : (A.put i (.av (.lst k rows none))).t i = .av (.lst k rows none) := by
          show (bif Nat.beq i i then _ else A.t i) = _
          simp
        rw [e]
        have h1 := sim.tm i
        rw [hA] at h1
        have h1 : VRel w (fun b o => M b o \/ Oth b o) (.s (.slice (some ⟨b, 0, none⟩) n cap)) (a.tmps.getD i undef) := h1
        generalize a.tmps.getD i undef = v at h1
        cases h1
        obtain ⟨⟨cs, e0, fr, hb0, huf, hlen, hrel⟩, hM⟩ := sim.sto.obj b _ ho
        subst hn
        have at1 : ∀ (i : Nat) (row : List AV) (j : Nat) (x : AV), rows[i]? = some row -> row[j]? = some x -> ∃ v, x = .s v /\ qg v = true /\ cs[i * k + j]? = some v := by
          intro i row j x hi hj
          obtain ⟨v, rfl, hv⟩ := hall row (List.mem_of_getElem? hi) x (List.mem_of_getElem? hj)
          have h5 := D7 hk hi hj
          have hlt := (List.getElem?_eq_some_iff.1 h5).1
          have h6 : (rows.flatten ++ pad)[i * k + j]? = some (.s v) := by grind
          have hlt2 : i * k + j < cs.size := by grind
          have h7 := hrel _ _ cs[i * k + j] h6 (by simp [hlt2])
          have : cs[i * k + j] = v := by generalize cs[i * k + j] = y at h7; cases h7; rfl
          grind
        refine VRel.lst rows none b 0 cap k (fun p => cs.getD p undef) hcap (fun i row hi => hk row (List.mem_of_getElem? hi)) (fun _ h => by cases h) (fun i row j x hi hj => ?_) (fun i row j x hi hj => ?_) (fun i row j x hi hj => ?_)
        · obtain ⟨v, rfl, hv, h5⟩ := at1 i row j x hi hj
          refine ⟨?_, ?_⟩
          · simp_all[World.cell?]
          · rintro (⟨_, h⟩ | h)
            · omega
            · exact sim.sto.dis _ _ h (hM _)
        · obtain ⟨v, rfl, hv, h5⟩ := at1 i row j x hi hj
          simp_all
        · obtain ⟨v, rfl, hv, h5⟩ := at1 i row j x hi hj
          rw [Array.getD_eq_getD_getElem?, h5]; exact .s _
      · have e : (A.put d (.av (.lst k rows none))).t i = A.t i := by
          show (bif Nat.beq i d then _ else A.t i) = _
          grind[xc]
        rw [e]
        have h1 := sim.tm i
        generalize A.t i = x at h1
        cases x with
        | any => trivial
        | und => exact h1
        | av x => exact VRel.mono hs h1
        | bx k off => exact h1
    · exact sim.sep j b (fun e => by rw [show A.bx j = some l from hj] at e; cases e) (.inl (by grind))
    · refine sim.sep j b' hj ?_
      rcases hb' with hb' | hb'
      · cases hx : (st.delObj b).obj b' with
        | none => grind
        | some y => grind[C9]
      · exact .inr hb'
    · exact { obj := fun b' y hy => ⟨(sim.sto.obj b' y (C9 hy).2).1.mono hs, fun o => ⟨(sim.sto.obj b' y (C9 hy).2).2 o, (C9 hy).1⟩⟩
              tok := fun b' top htk => by
                obtain ⟨c, e, fr, h1, h2, h3, h4⟩ := sim.sto.tok b' top htk
                exact ⟨c, e, fr, h1, h2, h3, fun o ho => ⟨h4 o ho, fun e => by subst e; rw [show st.tok b' = some top from htk] at ht; cases ht⟩⟩
              mlt := fun b' o hm => sim.sto.mlt b' o hm.1, olt := sim.sto.olt, dis := fun b' o ho hm => sim.sto.dis b' o ho hm.1 }
  refine Code.wpF_mono ?_ (h.out Oth _ a w ⟨β, sim'⟩)
  rintro e a' w' ⟨A', st', M', h1, h2, h3⟩
  exact ⟨A', st', M', h1, h2, { size := h3.size, keep := fun b' o hb hm => h3.keep b' o hb fun h => hm h.1, blk := fun b' hb hm => h3.blk b' hb fun o h => hm o h.1, shp := h3.shp, sub := fun b' o hm hb => (h3.sub b' o hm hb).1, tape := h3.tape, os := h3.os, output := h3.output }⟩
/-- A loop whose round is not yet walked. -/
theorem AWp.loopA {P : Program} {c : Cfg} {σ : Type} (H : LoopHead σ) {b : Code} {Q : Exit -> Fr -> Store -> Prop} {A : Fr} {st : Store} (h0 : H.at A st fun _ => True)
    (round : ∀ s st, H.inv s st -> AWp P c b (V7 H s Q) (Cr (H.t s) (H.bx s)) st) : AWp P c (.loop b) Q A st := by
  obtain ⟨s0, _, hi0, ht0, hb0⟩ := h0
  refine ⟨fun Oth M a w sim => ?_⟩
  refine wpIn_loop_ghost (fun n a' w' => ∃ s st' M', H.μ s = n /\ H.inv s st' /\ Sim c.N Oth (Cr (H.t s) (H.bx s)) st' M' a' w' /\ Chg M w M' w') (H.μ s0)
    ⟨s0, st, M, rfl, hi0, sim.fits ht0 hb0 (Store.Has.refl st), Chg.refl M w⟩ ?_
  rintro n a' w' ⟨s, st', M', rfl, hi, hsim, hchg⟩
  refine Code.wpF_mono ?_ ((round s st' hi).out Oth M' a' w' hsim)
  rintro e a'' w'' ⟨A'', st'', M'', h1, h2, h3⟩
  cases e with
  | normal =>
    obtain ⟨s', hlt, hi', ht', hb'⟩ := h1
    exact ⟨H.μ s', hlt, s', st'', M'', rfl, hi', h2.fits ht' hb' (Store.Has.refl st''), hchg.trans h3⟩
  | _ => exact ⟨A'', st'', M'', h1, h2, hchg.trans h3⟩
theorem Da {st : Store} {b : Nat} {x : AObj} (h : st.obj b = none) : (st.setObj b x).delObj b = st := by
 unfold Store.setObj Store.delObj
 congr 1
 funext i
 by_cases hi : i = b
 ·subst hi; simp [h]
 ·simp [yz hi]
/-- The tiles of a building. -/
def ky (W : Int) (b : Bld) (y k : Nat) : List Int := (List.range k).map fun (x : Nat) => b.x + (x : Int) + W * (b.y + (y : Int))
def vd (W : Int) (b : Bld) (k : Nat) : List Int := (List.range k).flatMap fun y => ky W b y b.w.toNat
def kf (W : Int) (b : Bld) : List Int := vd W b b.h.toNat
theorem ov (W : Int) (b : Bld) (y k : Nat) : ky W b y (k + 1) = ky W b y k ++ [b.x + (k : Int) + W * (b.y + (y : Int))] := by
 unfold ky; rw [List.range_succ]; simp
theorem M8 (W : Int) (b : Bld) (k : Nat) : vd W b (k + 1) = vd W b k ++ ky W b k b.w.toNat := by
 unfold vd; rw [List.range_succ]; simp
theorem Sq (W : Int) (b : Bld) (y k : Nat) : (ky W b y k).length = k := by unfold ky; simp
theorem M9 (W : Int) (b : Bld) (k : Nat) : (vd W b k).length = k * b.w.toNat := by
 induction k with
 | zero => simp [vd]
 | succ k ih => rw [M8, List.length_append, ih, Sq, Nat.succ_mul]
theorem Sp (W : Int) {b : Bld} (hb : yc b) : (kf W b).length <= 16 := by
 unfold kf
 rw [M9]
 unfold yc at hb
 have : b.h.toNat * b.w.toNat <= 4 * 4 := Nat.mul_le_mul (by omega) (by omega)
 omega
theorem Dl {g : Gnd} (hg : zi g) {x y : Int} (hx : 0 <= x /\ x < g.W) (hy : 0 <= y /\ y < g.H) :
  0 <= x + g.W * y /\ x + g.W * y < g.W * g.H /\ (x + g.W * y) % g.W = x /\ (x + g.W * y) / g.W = y := by
 obtain ⟨⟨h1, h2⟩, ⟨h3, h4⟩, _⟩ := hg
 have a1 : 0 <= g.W * y := Int.mul_nonneg (by omega) hy.1
 have a2 : g.W * y <= g.W * (g.H - 1) := Int.mul_le_mul_of_nonneg_left (by omega) (by omega)
 have a3 : g.W * (g.H - 1) = g.W * g.H - g.W := by rw [Int.mul_sub, Int.mul_one]
 refine ⟨by omega, by omega, ?_, ?_⟩
 ·rw [Int.add_mul_emod_self_left]; exact Int.emod_eq_of_lt hx.1 hx.2
 ·rw [Int.add_mul_ediv_left _ _ (by omega), Int.ediv_eq_zero_of_lt hx.1 hx.2]; omega
theorem Cs {g : Gnd} (hg : zi g) {b : Bld} (hb : yc b) (ho : onP g b) (t : Int) : t ∈ kf g.W b ↔ ∃ n : Nat, t = (n : Int) /\ (n : Int) < g.W * g.H /\ ji g b n := by
 have hb' := hb
 have ho' := ho
 unfold yc at hb'
 unfold onP at ho'
 unfold kf vd ky
 rw [List.mem_flatMap]
 constructor
 ·rintro ⟨y, hy, hx⟩
  obtain ⟨x, hx2, rfl⟩ := List.mem_map.1 hx
  have hy := List.mem_range.1 hy
  have hx := List.mem_range.1 hx2
  obtain ⟨q1, q2, q3, q4⟩ := Dl hg (x := b.x + x) (y := b.y + y) (by omega) (by omega)
  refine ⟨(b.x + (x : Int) + g.W * (b.y + (y : Int))).toNat, by omega, by omega, ?_⟩
  unfold ji
  rw [show (((b.x + (x : Int) + g.W * (b.y + (y : Int))).toNat : Nat) : Int) = b.x + (x : Int) + g.W * (b.y + (y : Int)) by omega, q3, q4]
  omega
 ·rintro ⟨n, rfl, hn, hh⟩
  unfold ji at hh
  refine ⟨((n : Int) / g.W - b.y).toNat, List.mem_range.2 (by omega), List.mem_map.2 ⟨((n : Int) % g.W - b.x).toNat, List.mem_range.2 (by omega), ?_⟩⟩
  have := Int.emod_add_mul_ediv (n : Int) g.W
  rw [show (((n : Int) % g.W - b.x).toNat : Int) = (n : Int) % g.W - b.x by omega, show (((n : Int) / g.W - b.y).toNat : Int) = (n : Int) / g.W - b.y by omega]
  rw [show b.x + ((n : Int) % g.W - b.x) = (n : Int) % g.W by omega, show b.y + ((n : Int) / g.W - b.y) = (n : Int) / g.W by omega]
  exact this
/-- Cells of yes and no. -/
def bl (n : Nat) (f : Nat -> Bool) : List AV := (List.range n).map fun t => bool (f t)
theorem xp (n : Nat) (f : Nat -> Bool) : (bl n f).length = n := by simp [bl]
theorem Bx {n : Nat} {f : Nat -> Bool} {t : Nat} (h : t < n) : (bl n f)[t]? = some (bool (f t)) := by simp [bl, h]
theorem Dd (n : Nat) : List.replicate n (AV.s (.bool false)) = bl n fun _ => false := by
 unfold bl
 rw [List.map_const', List.length_range]
 rfl
theorem Af {n : Nat} {f : Nat -> Bool} {t : Nat} (h : t < n) (g : Nat -> Bool) (hg : ∀ s, s ≠ t -> g s = f s) : z7 (bl n f) t [bool (g t)] = bl n g := by
 unfold z7
 apply List.ext_getElem?
 intro s
 by_cases h1 : s < t
 ·rw [List.append_assoc, List.getElem?_append_left (by rw [List.length_take, xp]; omega), List.getElem?_take_of_lt h1, Bx (by omega), Bx (by omega), hg s (by omega)]
 ·by_cases h2 : s = t
  ·subst h2
   rw [List.append_assoc, List.getElem?_append_right (by rw [List.length_take, xp]; omega), List.length_take, xp, show s - min s n = 0 by omega, Bx h]
   rfl
  ·rw [List.getElem?_append_right (by rw [List.length_append, List.length_take, xp]; simp; omega), List.length_append, List.length_take, xp, List.getElem?_drop]
   by_cases h3 : s < n
   ·have e : t + [bool (g t)].length + (s - (min t n + [bool (g t)].length)) = s := by simp; omega
    rw [e, Bx h3, Bx h3, hg s h2]
   ·rw [List.getElem?_eq_none (by rw [xp]; simp; omega), List.getElem?_eq_none (by rw [xp]; omega)]
/-- Which tiles the first buildings have, and of the next one the first tiles. -/
def xw (g : Gnd) (l : List Bld) (i : Nat) (ts : List Int) (k : Nat) (t : Nat) : Bool := qa g (l.take i) t || (ts.take k).contains (t : Int)
theorem fk (g : Gnd) (l : List Bld) (i : Nat) (ts : List Int) (t : Nat) : xw g l i ts 0 t = qa g (l.take i) t := by simp [xw]
theorem fm {g : Gnd} {l : List Bld} {i : Nat} {ts : List Int} {k n : Nat} (hk : k < ts.length) (hn : ts[k] = (n : Int)) :
  xw g l i ts (k + 1) n = true /\ ∀ s, s ≠ n -> xw g l i ts (k + 1) s = xw g l i ts k s := by
 unfold xw
 rw [List.take_succ_eq_append_getElem hk, hn]
 refine ⟨by simp, fun s hs => ?_⟩
 rw [List.contains_append]
 have : [((n : Nat) : Int)].contains (s : Int) = false := by simp; omega
 rw [this, Bool.or_false]
theorem fo {g : Gnd} (hg : zi g) {l : List Bld} {i : Nat} (hi : i < l.length) (hb : yc l[i] /\ onP g l[i]) {t : Nat} (ht : t < g.T.length) :
  xw g l i (kf g.W l[i]) (kf g.W l[i]).length t = qa g (l.take (i + 1)) t := by
 have ha := yw hg
 unfold xw qa
 rw [List.take_length, List.take_succ_eq_append_getElem hi, List.any_append]
 congr 1
 rw [Bool.eq_iff_iff, List.contains_iff_mem, Cs hg hb.1 hb.2]
 simp only [List.any_cons, List.any_nil, Bool.or_false, decide_eq_true_eq]
 constructor
 ·rintro ⟨n, h1, _, h2⟩
  have : n = t := by omega
  subst this; exact h2
 ·intro h
  exact ⟨t, rfl, by omega, h⟩
def xi (b : Bool) : List AV := [bool b]
def blL (n : Nat) (f : Nat -> Bool) : List Bool := (List.range n).map f
theorem qq (n : Nat) (f : Nat -> Bool) : (blL n f).length = n := by simp [blL]
theorem kr {n : Nat} {f : Nat -> Bool} {t : Nat} (h : t < n) : (blL n f)[t]'(by rw [qq]; exact h) = f t := by simp [blL]
theorem zwu (n : Nat) (f : Nat -> Bool) : (rws xi (blL n f)).flatten = bl n f := by
 unfold rws blL bl xi
 induction List.range n with
 | nil => rfl
 | cons a l ih => simp at ih ⊢; exact ih
theorem ia {n : Nat} {f : Nat -> Bool} {t : Nat} (h : t < n) : (rws xi (blL n f))[t]? = some (xi (f t)) := by
 unfold rws blL
 simp [h]
theorem ou (W : Int) (b : Bld) (y k : Nat) : (ky W b y k).Pairwise (· < ·) := by grind[ky,List.pairwise_lt_range]
theorem oo {W : Int} {b : Bld} (hW : 1 <= W) (hx : 0 <= b.x /\ b.x + b.w <= W) (hw : 1 <= b.w) (k : Nat) : (vd W b k).Pairwise (· < ·) /\ ∀ t ∈ vd W b k, t < W * (b.y + (k : Int)) := by
 induction k with
 | zero => simp_all[vd]
 | succ k ih =>
  rw [M8]
  have hrow : ∀ t ∈ ky W b k b.w.toNat, W * (b.y + (k : Int)) <= t /\ t < W * (b.y + (k : Int)) + W := by
   intro t ht
   obtain ⟨x, hx2, rfl⟩ := List.mem_map.1 ht
   grind
  have e : W * (b.y + ((k + 1 : Nat) : Int)) = W * (b.y + (k : Int)) + W := by grind
  grind[ou]
theorem oq {g : Gnd} (hg : zi g) {b : Bld} (hb : yc b /\ onP g b) : (kf g.W b).Pairwise (· < ·) := by
 unfold yc onP at hb
 exact (oo hg.1.1 hb.2.1 (by omega) _).1
theorem zqh {l : List Int} (h : l.Pairwise (· < ·)) {k : Nat} (hk : k < l.length) : l[k] ∉ l.take k := by grind[List.getElem_of_mem,List.pairwise_iff_getElem]
theorem cc {g : Gnd} (hg : zi g) {a b : Bld} (ha : yc a /\ onP g a) (hb : yc b /\ onP g b) : v6 a b ↔ ∃ t : Nat, (t : Int) < g.W * g.H /\ ji g a t /\ ji g b t := by
 unfold yc onP at ha hb
 unfold v6
 constructor
 ·intro h
  obtain ⟨q1, q2, q3, q4⟩ := Dl hg (x := max a.x b.x) (y := max a.y b.y) (by omega) (by omega)
  refine ⟨(max a.x b.x + g.W * max a.y b.y).toNat, by omega, ?_⟩
  grind[ji]
 grind[ji]
theorem covB_iff {g : Gnd} {l : List Bld} {t : Nat} : qa g l t = true ↔ ∃ b ∈ l, ji g b t := by grind[qa]
/-- The buildings up to one may be. -/
def L6 (g : Gnd) (l : List Bld) (i : Nat) : Prop := ∀ j, (h : j < l.length) -> j < i -> (yc l[j] /\ onP g l[j] /\ Bc g l[j]) /\ ∀ k, (hk : k < j) -> ¬ v6 l[j] (l[k]'(by omega))
theorem gu {g : Gnd} {l : List Bld} (h : L6 g l l.length) : (∀ b ∈ l, yc b /\ onP g b /\ Bc g b) /\ Me l := by
 refine ⟨fun b hb => ?_, fun j hj k hk => (h j hj hj).2 k hk⟩
 obtain ⟨j, hj, rfl⟩ := List.getElem_of_mem hb
 exact (h j hj hj).1
theorem zvl {g : Gnd} (hg : zi g) {l : List Bld} {i : Nat} (hi : i < l.length) (hb : yc l[i] /\ onP g l[i]) (hup : L6 g l i) :
  (∃ t ∈ kf g.W l[i], qa g (l.take i) t.toNat = true) ↔ ∃ k, ∃ hk : k < i, v6 l[i] (l[k]'(by omega)) := by
 constructor
 ·rintro ⟨t, ht, hc⟩
  obtain ⟨n, rfl, hn, hh⟩ := (Cs hg hb.1 hb.2 t).1 ht
  rw [Int.toNat_natCast] at hc
  obtain ⟨b, hb2, hh2⟩ := covB_iff.1 hc
  obtain ⟨k, hk, rfl⟩ := List.getElem_of_mem hb2
  rw [List.length_take] at hk
  rw [List.getElem_take] at hh2
  have := (hup k (by omega) (by omega)).1
  grind[cc]
 ·rintro ⟨k, hk, hm⟩
  have := (hup k (by omega) (by omega)).1
  obtain ⟨n, hn, h1, h2⟩ := (cc hg hb ⟨this.1, this.2.1⟩).1 hm
  refine ⟨(n : Int), (Cs hg hb.1 hb.2 _).2 ⟨n, rfl, hn, h1⟩, ?_⟩
  rw [Int.toNat_natCast]
  refine covB_iff.2 ⟨l[k], ?_, h2⟩
  have : (l.take i)[k]'(by grind) = l[k] := List.getElem_take
  grind
def H2 (g : Gnd) (b : Bld) (k t : Nat) : Prop := (b.x <= (t : Int) % g.W /\ (t : Int) % g.W < b.x + b.w) /\ (b.y <= (t : Int) / g.W /\ (t : Int) / g.W < b.y + (k : Int))
def Cw (g : Gnd) (b : Bld) (k m t : Nat) : Prop := (t : Int) / g.W = b.y + (k : Int) /\ (b.x <= (t : Int) % g.W /\ (t : Int) % g.W < b.x + (m : Int))
instance (g : Gnd) (b : Bld) (k t : Nat) : Decidable (H2 g b k t) := inferInstanceAs (Decidable (_ /\ _))
instance (g : Gnd) (b : Bld) (k m t : Nat) : Decidable (Cw g b k m t) := inferInstanceAs (Decidable (_ /\ _))
def kq (g : Gnd) (l : List Bld) (i : Nat) (b : Bld) (k m t : Nat) : Bool := qa g (l.take i) t || decide (H2 g b k t \/ Cw g b k m t)
theorem zvm (g : Gnd) (l : List Bld) (i : Nat) (b : Bld) : kq g l i b 0 0 = qa g (l.take i) := by
 funext t
 simp_all[kq,decide_eq_false,H2,Cw]
theorem zvo (g : Gnd) (l : List Bld) (i : Nat) (b : Bld) (k : Nat) (hw : 0 <= b.w) : kq g l i b k b.w.toNat = kq g l i b (k + 1) 0 := by grind[kq,H2,Cw]
theorem zvp {g : Gnd} {l : List Bld} {i : Nat} (hi : i < l.length) (hh : 0 <= l[i].h) : kq g l i l[i] l[i].h.toNat 0 = qa g (l.take (i + 1)) := by
 funext t
 unfold kq qa
 rw [List.take_succ_eq_append_getElem hi, List.any_append]
 congr 1
 simp only [List.any_cons, List.any_nil, Bool.or_false]
 grind[H2,Cw,ji]
theorem zvn {g : Gnd} (hg : zi g) {l : List Bld} {i : Nat} {b : Bld} (hb : yc b /\ onP g b) {k m : Nat} (hk : (k : Int) < b.h) (hm : (m : Int) < b.w) {n : Nat} (hn : (n : Int) = b.x + (m : Int) + g.W * (b.y + (k : Int))) :
  kq g l i b k (m + 1) n = true /\ ∀ s, s ≠ n -> kq g l i b k (m + 1) s = kq g l i b k m s := by
 unfold yc onP at hb
 obtain ⟨q1, q2, q3, q4⟩ := Dl hg (x := b.x + m) (y := b.y + k) (by omega) (by omega)
 unfold kq
 refine ⟨?_, fun s hs => ?_⟩
 ·have : Cw g b k (m + 1) n := by grind[Cw]
  grind
 ·have e := Int.emod_add_mul_ediv (s : Int) g.W
  grind[Cw]
theorem K1 {g : Gnd} {t : Nat} {p : Vc} {r : Int} (hr : 0 < r) (h : xb g t p r) :
  (tx g t < p.1 + r /\ p.1 - r < tx g t + 65536) /\ (ty g t < p.2 + r /\ p.2 - r < ty g t + 65536) := by
 unfold xb at h
 have n : ∀ x lo : Int, 0 <= off x lo := fun x lo => by grind[off]
 have a := Nm (n p.1 (tx g t)) hr (by have := Int.mul_nonneg (n p.2 (ty g t)) (n p.2 (ty g t)); omega)
 have b := Nm (n p.2 (ty g t)) hr (by have := Int.mul_nonneg (n p.1 (tx g t)) (n p.1 (tx g t)); omega)
 grind[off]
section
variable {P : Program} {c : Cfg}
theorem kk {ops : Array Oper} {o : Oper} {A : Fr} {go skip : Fr -> Prop} (hg : o.guard = none) (h : go A) : C0 ops o A go skip := by
 unfold C0; grind
theorem j8 {o : Oper} {t : TypeId} {a x : Operand} {K : Fr -> Store -> Prop} {A : Fr} {st : Store} {i : TI} {v : AV} (ho : o.op = .store t a x) (hd : o.dst = none) (hi : c.I t = some i) (hx : A.ev x = .av v) (h : Bg i A st (A.ev a) v K) : vo P c o K A st := by
 unfold vo
 rw [ho]
 show Ak P c o K A st
 simp_all[Ak,za]
end
theorem bz {A : Int} {m : Nat} (h : (m : Int) < A) : A.toNat - (m + 1) < A.toNat - m := by omega
theorem Re (a : Int) (m : Nat) : a + ((m + 1 : Nat) : Int) = a + (m : Int) + 1 := by omega
theorem Kx {A x : Int} {m : Nat} (h : x + (m : Int) < A) : ((m + 1 : Nat) : Int) <= A - x := by omega
/-- Of rows below 'y', and of row 'y' up to 'x', none that is closed meets the disc. -/
def Gv (g : Gnd) (l : List Bld) (c : Int) (p : Vc) (r y : Int) : Prop := ∀ t, t < g.T.length -> (t : Int) / g.W < y -> z6 g l c t = false -> ¬ xb g t p r
def Ie (g : Gnd) (l : List Bld) (c : Int) (p : Vc) (r y x : Int) : Prop := ∀ t, t < g.T.length -> (t : Int) / g.W = y -> (t : Int) % g.W < x -> z6 g l c t = false -> ¬ xb g t p r
theorem zv3 {g : Gnd} {l : List Bld} {c : Int} {p : Vc} {r : Int} (hr : 0 < r) (hp : 0 <= p.2 - r) : Gv g l c p r ((p.2 - r) / 65536) := by
 intro t _ hy _ hh
 have := (K1 hr hh).2
 grind[ty]
theorem zv6 {g : Gnd} {l : List Bld} {c : Int} {p : Vc} {r y : Int} (hr : 0 < r) (hp : 0 <= p.1 - r) : Ie g l c p r y ((p.1 - r) / 65536) := by
 intro t _ _ hx _ hh
 have := (K1 hr hh).1
 grind[tx]
theorem zv7 {g : Gnd} (hg : zi g) {l : List Bld} {c : Int} {p : Vc} {r y x : Int} (hr : 0 < r) (hp : 0 <= p.1 + r) (hx : ¬ (x <= (p.1 + r) / 65536) \/ ¬ (x < g.W)) (hu : Gv g l c p r y) (h : Ie g l c p r y x) : Gv g l c p r (y + 1) := by
 intro t ht hy ho hh
 by_cases e : (t : Int) / g.W = y
 ·by_cases e2 : (t : Int) % g.W < x
  ·exact h t ht e e2 ho hh
  ·have h1 := (K1 hr hh).1
   have h2 := (wo hg (t := t) (by have := (yw hg).2.2; omega)).1
   grind[tx]
 ·exact hu t ht (by omega) ho hh
theorem zv4 {g : Gnd} (hg : zi g) {l : List Bld} {c : Int} {p : Vc} {r y : Int} (hr : 0 < r) (hp : 0 <= p.2 + r) (hy : ¬ (y <= (p.2 + r) / 65536) \/ ¬ (y < g.H)) (hu : Gv g l c p r y) : ∀ t, t < g.T.length -> z6 g l c t = false -> ¬ xb g t p r := by
 intro t ht ho hh
 by_cases e : (t : Int) / g.W < y
 ·exact hu t ht e ho hh
 ·have h1 := (K1 hr hh).2
  have h2 := (wo hg (t := t) (by have := (yw hg).2.2; omega)).2
  grind[ty]
theorem zv5 {g : Gnd} (hg : zi g) {l : List Bld} {c : Int} {p : Vc} {r y x : Int} (hx : 0 <= x /\ x < g.W) (hy : 0 <= y /\ y < g.H) (h : Ie g l c p r y x) (hn : z6 g l c (x + g.W * y).toNat = false -> ¬ xb g (x + g.W * y).toNat p r) : Ie g l c p r y (x + 1) := by
 intro t ht e1 e2 ho
 by_cases e : (t : Int) % g.W < x
 ·exact h t ht e1 e ho
 ·have e3 : (t : Int) % g.W = x := by omega
  have q := Int.emod_add_mul_ediv (t : Int) g.W
  grind
def onG (g : Gnd) (x y : Int) : Prop := (0 <= x /\ x < g.W) /\ (0 <= y /\ y < g.H)
instance (g : Gnd) (x y : Int) : Decidable (onG g x y) := inferInstanceAs (Decidable (_ /\ _))
def tl (g : Gnd) (x y : Int) : Nat := (x + g.W * y).toNat
theorem j1 {g : Gnd} (hg : zi g) {x y : Int} (h : onG g x y) : ((tl g x y : Nat) : Int) = x + g.W * y /\ tl g x y < g.T.length /\ (tl g x y : Int) % g.W = x /\ (tl g x y : Int) / g.W = y := by
 obtain ⟨h1, h2, h3⟩ := yw hg
 obtain ⟨⟨hx, hx2⟩, hy, hy2⟩ := h
 have hW : 1 <= g.W := hg.1.1
 have e0 : 0 <= g.W * y := Int.mul_nonneg (by omega) hy
 have e : ((tl g x y : Nat) : Int) = x + g.W * y := by unfold tl; omega
 have e1 : g.W * y <= g.W * (g.H - 1) := Int.mul_le_mul (Int.le_refl _) (by omega) hy (by omega)
 rw [Int.mul_sub, Int.mul_one] at e1
 refine ⟨e, by omega, ?_, ?_⟩
 ·simp_all[Int.emod_eq_of_lt]
 ·rw [e, Int.add_mul_ediv_left _ _ (by omega), Int.ediv_eq_zero_of_lt hx hx2, Int.zero_add]
theorem vy {g : Gnd} (hg : zi g) {t : Nat} (ht : t < g.T.length) : onG g ((t : Int) % g.W) ((t : Int) / g.W) /\ tl g ((t : Int) % g.W) ((t : Int) / g.W) = t := by
 obtain ⟨h1, h2, h3⟩ := yw hg
 have hW : 1 <= g.W := hg.1.1
 have a := Int.emod_nonneg (t : Int) (show g.W ≠ 0 by omega)
 have b := Int.emod_lt_of_pos (t : Int) (show 0 < g.W by omega)
 have c := Int.ediv_nonneg (show 0 <= (t : Int) by omega) (show 0 <= g.W by omega)
 have d : (t : Int) / g.W < g.H := Int.ediv_lt_of_lt_mul (by omega) (by rw [Int.mul_comm]; omega)
 refine ⟨⟨⟨a, b⟩, c, d⟩, ?_⟩
 unfold tl
 rw [Int.emod_add_mul_ediv]
 omega
/-- All tiles of a square are good. -/
def sqP (g : Gnd) (f : Nat -> Bool) (s : Nat) (x y : Int) : Prop := ∀ a b : Int, -(s : Int) <= a -> a <= s -> -(s : Int) <= b -> b <= s -> onG g (x + a) (y + b) /\ f (tl g (x + a) (y + b)) = true
theorem sq_zero {g : Gnd} {f : Nat -> Bool} {x y : Int} : sqP g f 0 x y ↔ onG g x y /\ f (tl g x y) = true := by
 constructor
 ·intro h
  have := h 0 0 (by decide) (by decide) (by decide) (by decide)
  simpa using this
 ·intro h a b h1 h2 h3 h4
  grind
theorem sq_succ {g : Gnd} {f : Nat -> Bool} {s : Nat} {x y : Int} : sqP g f (s + 1) x y ↔ ∀ a b : Int, -1 <= a -> a <= 1 -> -1 <= b -> b <= 1 -> onG g (x + a) (y + b) /\ sqP g f s (x + a) (y + b) := by
 constructor
 ·intro h a b h1 h2 h3 h4
  refine ⟨(h a b (by omega) (by omega) (by omega) (by omega)).1, fun a' b' k1 k2 k3 k4 => ?_⟩
  have := h (a + a') (b + b') (by omega) (by omega) (by omega) (by omega)
  grind
 ·intro h a b h1 h2 h3 h4
  obtain ⟨a1, ha1, ha2, ha3, ha4⟩ : ∃ a1 : Int, -1 <= a1 /\ a1 <= 1 /\ -(s : Int) <= a - a1 /\ a - a1 <= s := by
   by_cases c1 : a > s
   ·exact ⟨1, by omega, by omega, by omega, by omega⟩
   ·by_cases c2 : a < -s
    ·exact ⟨-1, by omega, by omega, by omega, by omega⟩
    ·exact ⟨0, by omega, by omega, by omega, by omega⟩
  obtain ⟨b1, hb1, hb2, hb3, hb4⟩ : ∃ b1 : Int, -1 <= b1 /\ b1 <= 1 /\ -(s : Int) <= b - b1 /\ b - b1 <= s := by
   by_cases c1 : b > s
   ·exact ⟨1, by omega, by omega, by omega, by omega⟩
   ·by_cases c2 : b < -s
    ·exact ⟨-1, by omega, by omega, by omega, by omega⟩
    ·exact ⟨0, by omega, by omega, by omega, by omega⟩
  have := (h a1 b1 ha1 ha2 hb1 hb2).2 (a - a1) (b - b1) ha3 ha4 hb3 hb4
  grind
theorem Nn {g : Gnd} {f : Nat -> Bool} {s s' : Nat} (hs : s' <= s) {x y : Int} (h : sqP g f s x y) : sqP g f s' x y := fun a b h1 h2 h3 h4 => h a b (by omega) (by omega) (by omega) (by omega)
theorem zj7 {g : Gnd} {f : Nat -> Bool} {s : Nat} {x y : Int} (h : sqP g f s x y) : 2 * (s : Int) + 1 <= g.W := by
 have h1 := (h (-(s : Int)) 0 (by omega) (by omega) (by omega) (by omega)).1.1.1
 have h2 := (h s 0 (by omega) (by omega) (by omega) (by omega)).1.1.2
 omega
def m5 (a b c d e : Int) : Int := min (min (min (min a (b + 1)) (c + 1)) (d + 1)) (e + 1)
/-- Two sweeps tell how far it is to what is not good. -/
theorem zwb {g : Gnd} {f : Nat -> Bool} {A B : Int -> Int -> Int} (oA : ∀ x y, ¬ onG g x y -> A x y = 0) (oB : ∀ x y, ¬ onG g x y -> B x y = 0)
  (hA : ∀ x y, onG g x y -> A x y = m5 (if f (tl g x y) then 128 else 0) (A (x - 1) y) (A (x - 1) (y - 1)) (A x (y - 1)) (A (x + 1) (y - 1)))
  (hB : ∀ x y, onG g x y -> B x y = m5 (A x y) (B (x + 1) y) (B (x + 1) (y + 1)) (B x (y + 1)) (B (x - 1) (y + 1))) {x y : Int} (hxy : onG g x y) (s : Nat) (hs : s <= 127) : (s : Int) < B x y ↔ sqP g f s x y := by
 -- not below 0
 have nA : ∀ n : Nat, ∀ x y, onG g x y -> y * 200 + x < n -> 0 <= A x y := by
  intro n
  induction n with
  | zero => intro x y h hn; obtain ⟨⟨h1, h2⟩, h3, h4⟩ := h; omega
  | succ n ih =>
   intro x y h hn
   have any : ∀ x' y', y' * 200 + x' < y * 200 + x -> 0 <= A x' y' := fun x' y' hl => by
    by_cases ho : onG g x' y'
    ·exact ih x' y' ho (by omega)
    ·rw [oA x' y' ho]; decide
   rw [hA x y h]
   have a1 := any (x - 1) y (by omega)
   have a2 := any (x - 1) (y - 1) (by omega)
   have a3 := any x (y - 1) (by omega)
   have a4 := any (x + 1) (y - 1) (by omega)
   have a5 : (0 : Int) <= (if f (tl g x y) then 128 else 0) := by split <;> decide
   unfold m5
   omega
 have pA : ∀ x y, 0 <= A x y := fun x y => by
  by_cases ho : onG g x y
  ·exact nA (y * 200 + x + 1).toNat x y ho (by obtain ⟨⟨h1, h2⟩, h3, h4⟩ := ho; omega)
  ·rw [oA x y ho]; decide
 have nB : ∀ n : Nat, ∀ x y, onG g x y -> (g.H - y) * 200 + (g.W - x) < n -> 0 <= B x y := by
  intro n
  induction n with
  | zero => intro x y h hn; obtain ⟨⟨h1, h2⟩, h3, h4⟩ := h; omega
  | succ n ih =>
   intro x y h hn
   have any : ∀ x' y', (g.H - y') * 200 + (g.W - x') < (g.H - y) * 200 + (g.W - x) -> 0 <= B x' y' := fun x' y' hl => by
    by_cases ho : onG g x' y'
    ·exact ih x' y' ho (by omega)
    ·rw [oB x' y' ho]; decide
   rw [hB x y h]
   have a1 := any (x + 1) y (by omega)
   have a2 := any (x + 1) (y + 1) (by omega)
   have a3 := any x (y + 1) (by omega)
   have a4 := any (x - 1) (y + 1) (by omega)
   have a5 := pA x y
   unfold m5
   omega
 have pB : ∀ x y, 0 <= B x y := fun x y => by
  by_cases ho : onG g x y
  ·exact nB ((g.H - y) * 200 + (g.W - x) + 1).toNat x y ho (by obtain ⟨⟨h1, h2⟩, h3, h4⟩ := ho; omega)
  ·rw [oB x y ho]; decide
 constructor
 ·-- what is bad is not farther than its steps
  have up1 : ∀ d : Nat, ∀ x y a b, onG g x y -> -(d : Int) <= a -> a <= d -> -(d : Int) <= b -> b <= 0 -> a <= -b -> ¬ (onG g (x + a) (y + b) /\ f (tl g (x + a) (y + b)) = true) -> A x y <= d := by
   intro d
   induction d with
   | zero =>
    intro x y a b h h1 h2 h3 h4 h5 hbad
    have ea : a = 0 := by omega
    have eb : b = 0 := by omega
    subst ea eb
    rw [Int.add_zero, Int.add_zero] at hbad
    have hf : ¬ f (tl g x y) = true := fun hf => hbad ⟨h, hf⟩
    rw [hA x y h, if_neg hf]
    unfold m5
    omega
   | succ d ih =>
    intro x y a b h h1 h2 h3 h4 h5 hbad
    have go : ∀ u v : Int, -(d : Int) <= a - u -> a - u <= d -> -(d : Int) <= b - v -> b - v <= 0 -> a - u <= -(b - v) -> A (x + u) (y + v) <= d := fun u v g1 g2 g3 g4 g5 => by
     by_cases ho : onG g (x + u) (y + v)
     ·refine ih (x + u) (y + v) (a - u) (b - v) ho g1 g2 g3 g4 g5 ?_
      rw [show x + u + (a - u) = x + a by omega, show y + v + (b - v) = y + b by omega]
      exact hbad
     ·rw [oA _ _ ho]; omega
    have hk := hA x y h
    unfold m5 at hk
    by_cases cb : b = 0
    ·by_cases ca : a = 0
     ·subst ca cb
      rw [Int.add_zero, Int.add_zero] at hbad
      have hf : ¬ f (tl g x y) = true := fun hf => hbad ⟨h, hf⟩
      rw [if_neg hf] at hk
      omega
     ·have := go (-1) 0 (by omega) (by omega) (by omega) (by omega) (by omega)
      rw [show x + -1 = x - 1 by omega, Int.add_zero] at this
      omega
    ·by_cases ca : a = 0
     ·have := go 0 (-1) (by omega) (by omega) (by omega) (by omega) (by omega)
      rw [show y + -1 = y - 1 by omega, Int.add_zero] at this
      omega
     ·by_cases ca2 : a < 0
      ·have := go (-1) (-1) (by omega) (by omega) (by omega) (by omega) (by omega)
       rw [show y + -1 = y - 1 by omega, show x + -1 = x - 1 by omega] at this
       omega
      ·have := go 1 (-1) (by omega) (by omega) (by omega) (by omega) (by omega)
       rw [show y + -1 = y - 1 by omega] at this
       omega
  have up2 : ∀ d : Nat, ∀ x y a b, onG g x y -> -(d : Int) <= a -> a <= d -> -(d : Int) <= b -> b <= d -> ¬ (onG g (x + a) (y + b) /\ f (tl g (x + a) (y + b)) = true) -> B x y <= d := by
   intro d
   induction d with
   | zero =>
    intro x y a b h h1 h2 h3 h4 hbad
    have := up1 0 x y a b h h1 h2 h3 (by omega) (by omega) hbad
    have hk := hB x y h
    unfold m5 at hk
    omega
   | succ d ih =>
    intro x y a b h h1 h2 h3 h4 hbad
    have hk := hB x y h
    unfold m5 at hk
    by_cases cone : b <= 0 /\ a <= -b
    ·have := up1 (d + 1) x y a b h h1 h2 h3 cone.1 cone.2 hbad
     omega
    have go : ∀ u v : Int, -(d : Int) <= a - u -> a - u <= d -> -(d : Int) <= b - v -> b - v <= d -> B (x + u) (y + v) <= d := fun u v g1 g2 g3 g4 => by
     by_cases ho : onG g (x + u) (y + v)
     ·refine ih (x + u) (y + v) (a - u) (b - v) ho g1 g2 g3 g4 ?_
      rw [show x + u + (a - u) = x + a by omega, show y + v + (b - v) = y + b by omega]
      exact hbad
     ·rw [oB _ _ ho]; omega
    by_cases cb : b <= 0
    ·have := go 1 0 (by omega) (by omega) (by omega) (by omega)
     rw [Int.add_zero] at this
     omega
    ·by_cases ca : a = 0
     ·have := go 0 1 (by omega) (by omega) (by omega) (by omega)
      rw [Int.add_zero] at this
      omega
     ·by_cases ca2 : a < 0
      ·have := go (-1) 1 (by omega) (by omega) (by omega) (by omega)
       rw [show x + -1 = x - 1 by omega] at this
       omega
      ·have := go 1 1 (by omega) (by omega) (by omega) (by omega)
       omega
  intro hlt a b h1 h2 h3 h4
  refine Classical.byContradiction fun hbad => ?_
  have := up2 s x y a b hxy h1 h2 h3 h4 hbad
  omega
 ·-- what is good all about is far
  have loA : ∀ s : Nat, s <= 127 -> ∀ x y, sqP g f s x y -> (s : Int) < A x y := by
   intro s
   induction s with
   | zero =>
    intro _ x y h
    obtain ⟨ho, hf⟩ := sq_zero.1 h
    rw [hA x y ho, if_pos hf]
    have a1 := pA (x - 1) y
    have a2 := pA (x - 1) (y - 1)
    have a3 := pA x (y - 1)
    have a4 := pA (x + 1) (y - 1)
    unfold m5
    omega
   | succ s ih =>
    intro hs x y h
    have h2 := sq_succ.1 h
    have nb := fun (a b : Int) h3 h4 h5 h6 => ih (by omega) _ _ (h2 a b h3 h4 h5 h6).2
    obtain ⟨ho, hf⟩ := sq_zero.1 (Nn (Nat.zero_le _) h)
    have a1 := nb (-1) 0 (by decide) (by decide) (by decide) (by decide)
    have a2 := nb (-1) (-1) (by decide) (by decide) (by decide) (by decide)
    have a3 := nb 0 (-1) (by decide) (by decide) (by decide) (by decide)
    have a4 := nb 1 (-1) (by decide) (by decide) (by decide) (by decide)
    rw [show x + -1 = x - 1 by omega] at a1 a2
    rw [show y + -1 = y - 1 by omega] at a2 a3 a4
    rw [Int.add_zero] at a1 a3
    rw [hA x y ho, if_pos hf]
    unfold m5
    omega
  have loB : ∀ s : Nat, s <= 127 -> ∀ x y, sqP g f s x y -> (s : Int) < B x y := by
   intro s
   induction s with
   | zero =>
    intro hs x y h
    obtain ⟨ho, hf⟩ := sq_zero.1 h
    rw [hB x y ho]
    have a1 := pB (x + 1) y
    have a2 := pB (x + 1) (y + 1)
    have a3 := pB x (y + 1)
    have a4 := pB (x - 1) (y + 1)
    have a5 := loA 0 hs x y h
    unfold m5
    omega
   | succ s ih =>
    intro hs x y h
    have h2 := sq_succ.1 h
    have nb := fun (a b : Int) h3 h4 h5 h6 => ih (by omega) _ _ (h2 a b h3 h4 h5 h6).2
    obtain ⟨ho, hf⟩ := sq_zero.1 (Nn (Nat.zero_le _) h)
    have a1 := nb 1 0 (by decide) (by decide) (by decide) (by decide)
    have a2 := nb 1 1 (by decide) (by decide) (by decide) (by decide)
    have a3 := nb 0 1 (by decide) (by decide) (by decide) (by decide)
    have a4 := nb (-1) 1 (by decide) (by decide) (by decide) (by decide)
    rw [show x + -1 = x - 1 by omega] at a4
    rw [Int.add_zero] at a1 a3
    have a5 := loA (s + 1) hs x y h
    rw [hB x y ho]
    unfold m5
    omega
  exact loB s hs x y
/-- How far by rows and columns. -/
def zxz (i j : Int) : Int := max (max i (-i)) (max j (-j))
/-- A tile at just this way from a place, by steps of k. -/
def zn9 (g : Gnd) (x y k d : Int) (t : Nat) : Bool := decide (zxz ((t : Int) % g.W - x) ((t : Int) / g.W - y) = d /\ ((t : Int) % g.W - x).tmod k = 0 /\ ((t : Int) / g.W - y).tmod k = 0)
def zn8 (g : Gnd) (x y k d : Int) : List Nat := (List.range g.T.length).filter (zn9 g x y k d)
/-- Places about a goal: all that are less than d away, by ways. -/
def zkr (g : Gnd) (f : Nat -> Bool) (x y k d : Int) : List Nat := (zn8 g x y k d).filter f
def Vm (g : Gnd) (f : Nat -> Bool) (x y k : Int) : Nat -> List Nat
 | 0 => []
 | d + 1 => Vm g f x y k d ++ zkr g f x y k d
/-- Places about a goal. -/
def zkq (g : Gnd) (f : Nat -> Bool) (size goal : Int) (n : Nat) : List Nat := (Vm g f (goal % g.W) (goal / g.W) (2 * size + 1) (g.W + g.H + 1).toNat).take n
end Go.V
