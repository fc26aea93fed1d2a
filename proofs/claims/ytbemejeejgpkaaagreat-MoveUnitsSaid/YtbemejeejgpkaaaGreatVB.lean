/- The ground on which laws of thronglaw24 are proved: contracts of functions and plain lemmas; no condition beyond the row's own. -/
import Derived.Laws.Append
import Derived.Tactics
import Derived.RangeFuncLeaves
import Derived.Test.YtbemejeejgpkaaaGreatVA
set_option linter.unusedSimpArgs false
set_option linter.unusedVariables false
namespace Go.V
section
variable {P : Program} {c : Cfg} {w : World} {Oth M : Nat -> Nat -> Prop} {st : Store}
/-- M and one block more. -/
def addB (M : Nat -> Nat -> Prop) (B : Nat) : Nat -> Nat -> Prop := fun b o => M b o \/ b = B
theorem qq (w : World) (o : Obj) : (w.alloc o).heap[w.heap.size]? = some o := by
  show (w.heap.push o)[_]? = _
  simp
theorem q9 (w : World) (o : Obj) (M Oth : Nat -> Nat -> Prop) : Keeps w (fun b o => M b o \/ Oth b o) (w.alloc o) (fun b o => addB M w.heap.size b o \/ Oth b o) where
  cell b o' c hc _ := by rw [qc (qh w o b (zec hc))]; exact hc
  out b o' c hc hT hT' := by
    rcases hT' with (h | h) | h
    · exact hT (.inl h)
    · have := zec hc; omega
    · exact hT (.inr h)
  shp b c e fr hw := ⟨c, fr, by rw [qh w o b (z6 hw)]; exact hw, rfl⟩
theorem StoreOK.alloc (h : StoreOK st Oth M w) (o : Obj) : StoreOK st Oth (addB M w.heap.size) (w.alloc o) where
  obj b x hx := ⟨ObjRel.same (h.obj b x hx).1 (q9 w o M Oth) (qh w o b (h.obj b x hx).1.lt), fun o => .inl ((h.obj b x hx).2 o)⟩
  tok b top ht := by
    obtain ⟨c, e, fr, h1, h2, h3, h4⟩ := h.tok b top ht
    exact ⟨c, e, fr, by rw [qh w o b (z6 h1)]; exact h1, h2, h3, fun o ho => .inl (h4 o ho)⟩
  mlt b o' hm := by
    rcases hm with h' | h'
    · have := h.mlt b o' h'; simp; omega
    · simp; omega
  olt b o' hm := by have := h.olt b o' hm; simp; omega
  dis b o' hO hM := by
    rcases hM with h' | h'
    · exact h.dis b o' hO h'
    · have := h.olt b o' hO; omega
theorem vf (w : World) (o : Obj) (M : Nat -> Nat -> Prop) : Chg M w (addB M w.heap.size) (w.alloc o) where
  size := by simp
  keep b o' hb _ := qc (qh w o b hb) o'
  blk b hb _ := qh w o b hb
  shp b c e fr hw := ⟨c, fr, by rw [qh w o b (z6 hw)]; exact hw, rfl⟩
  sub b o' hm hb := by
    rcases hm with h | h
    · exact h
    · omega
  tape := rfl
  os := rfl
  output := rfl
theorem StoreOK.fresh (h : StoreOK st Oth M w) {b : Nat} (hb : w.heap.size <= b) : Fresh st b := by
  constructor
  · cases ho : st.obj b with
    | none => rfl
    | some x => have := (h.obj b x ho).1.lt; omega
  · cases ho : st.tok b with
    | none => rfl
    | some x =>
      obtain ⟨c, e, fr, h1, _⟩ := h.tok b x ho
      have := z6 h1
      omega
theorem j3 {l : List AV} {cs : Array Value} (w : World) (e : TypeId) (M Oth : Nat -> Nat -> Prop) (h : Reads w (fun b o => M b o \/ Oth b o) l cs.toList) :
    CellsRel (w.alloc (.cells cs e)) (fun b o => addB M w.heap.size b o \/ Oth b o) l w.heap.size :=
  ⟨cs, e, (0, 0), qq w _, rfl, by simpa using h.1, fun i x y hx hy => (h.2 i x y hx (by simpa using hy)).keep (q9 w _ M Oth)⟩
theorem Marks.alloc {Oth M : Nat -> Nat -> Prop} {w : World} {ds : List Deferred} (h : Marks Oth M w ds) (hm : ∀ b o, M b o -> b < w.heap.size) (x : Obj) : Marks Oth (addB M w.heap.size) (w.alloc x) ds :=
  h.step fun D _ hl h2 => ⟨qh w x D hl, fun o hm => hm.elim (h2 o).1 fun e => by omega⟩
theorem SimB.newBx {n : Nat} {β : Nat -> Nat} {A : Fr} {a : Act} (h : SimB n Oth β A st M a w) {d : Nat} (hd : d < n) {l : List AV} {cs : Array Value} (e : TypeId)
    (hr : Reads w (fun b o => M b o \/ Oth b o) l cs.toList) :
    SimB n Oth (fun k => if k = d then w.heap.size else β k) (A.newBx d l) st (addB M w.heap.size) (a.put (some d) (.pointer (some ⟨w.heap.size, 0, none⟩))) (w.alloc (.cells cs e)) where
  tsz := by simp [Act.put, h.tsz]
  dfr := h.dfr.alloc h.sto.mlt _
  tm i := by
    simp only [Fr.newBx, Act.put, Array.getD_eq_getD_getElem?]
    by_cases hi : i = d
    · subst hi
      have : i < a.tmps.size := by rw [h.tsz]; exact hd
      simp only [Nat.beq_refl, cond_true]
      rw [Array.getElem?_setIfInBounds_self_of_lt this]
      simp [LRel]
    · have hb : Nat.beq i d = false := by
        cases hb : Nat.beq i d with
        | false => rfl
        | true => exact absurd ((yp _ _).1 hb) hi
      simp only [hb, cond_false]
      rw [Array.getElem?_setIfInBounds_ne (Ne.symm hi)]
      have h1 := h.tm i
      rw [Array.getD_eq_getD_getElem?] at h1
      cases hx : A.t i with
      | any => trivial
      | und => rw [hx] at h1; exact h1
      | av x => rw [hx] at h1; exact VRel.keep (q9 w _ M Oth) h1
      | bx k o =>
        simp only [LV.kill]
        cases hk : Nat.beq k d with
        | true => trivial
        | false =>
          have hne : k ≠ d := fun e => by rw [e, Nat.beq_refl] at hk; cases hk
          rw [hx] at h1
          simp only [LRel, cond_false] at h1 ⊢
          rw [if_neg hne]
          exact h1
  bx k l' hk := by
    simp only [Fr.newBx] at hk
    by_cases hkd : k = d
    · subst hkd
      simp only [Nat.beq_refl, cond_true, Option.some.injEq] at hk
      subst hk
      simp only [if_true]
      exact ⟨j3 w e M Oth hr, fun o => .inr rfl⟩
    · have hb : Nat.beq k d = false := by
        cases hb : Nat.beq k d with
        | false => rfl
        | true => exact absurd ((yp _ _).1 hb) hkd
      simp only [hb, cond_false] at hk
      simp only [hkd, if_false]
      exact ⟨(h.bx k l' hk).1.same (q9 w _ M Oth) (qh w _ _ (h.bx k l' hk).1.lt), fun o => .inl ((h.bx k l' hk).2 o)⟩
  inj k k' hk hk' he := by
    simp only [Fr.newBx] at hk hk'
    have hlt : ∀ k, A.bx k ≠ none -> β k < w.heap.size := fun k hk => by
      cases hl : A.bx k with
      | none => exact absurd hl hk
      | some l => exact (h.bx k l hl).1.lt
    by_cases h1 : k = d <;> by_cases h2 : k' = d
    · rw [h1, h2]
    · have hb : Nat.beq k' d = false := by
        cases hb : Nat.beq k' d with
        | false => rfl
        | true => exact absurd ((yp _ _).1 hb) h2
      simp only [hb, cond_false] at hk'
      simp only [h1, h2, if_true, if_false] at he
      have := hlt k' hk'
      omega
    · have hb : Nat.beq k d = false := by
        cases hb : Nat.beq k d with
        | false => rfl
        | true => exact absurd ((yp _ _).1 hb) h1
      simp only [hb, cond_false] at hk
      simp only [h1, h2, if_true, if_false] at he
      have := hlt k hk
      omega
    · have hb : Nat.beq k d = false := by
        cases hb : Nat.beq k d with
        | false => rfl
        | true => exact absurd ((yp _ _).1 hb) h1
      have hb' : Nat.beq k' d = false := by
        cases hb : Nat.beq k' d with
        | false => rfl
        | true => exact absurd ((yp _ _).1 hb) h2
      simp only [hb, hb', cond_false] at hk hk'
      simp only [h1, h2, if_false] at he
      exact h.inj k k' hk hk' he
  sep k b hk hb he := by
    have hlt : b < w.heap.size := by
      rcases hb with hb | hb
      · cases ho : st.obj b with
        | none => exact absurd ho hb
        | some x => exact (h.sto.obj b x ho).1.lt
      · cases ho : st.tok b with
        | none => exact absurd ho hb
        | some x =>
          obtain ⟨c, e, fr, h1, _⟩ := h.sto.tok b x ho
          exact z6 h1
    simp only [Fr.newBx] at hk
    by_cases h1 : k = d
    · simp only [h1, if_true] at he; omega
    · have hb' : Nat.beq k d = false := by
        cases hb : Nat.beq k d with
        | false => rfl
        | true => exact absurd ((yp _ _).1 hb) h1
      simp only [hb', cond_false] at hk
      simp only [h1, if_false] at he
      exact h.sep k b hk hb he
  sto := h.sto.alloc _
theorem SimB.grow1 {n : Nat} {β : Nat -> Nat} {A : Fr} {a : Act} (h : SimB n Oth β A st M a w) (o : Obj) : SimB n Oth β A st (addB M w.heap.size) a (w.alloc o) where
  tsz := h.tsz
  dfr := h.dfr.alloc h.sto.mlt _
  tm i := (h.tm i).keep (q9 w _ M Oth)
  bx k l hk := ⟨(h.bx k l hk).1.same (q9 w _ M Oth) (qh w _ _ (h.bx k l hk).1.lt), fun o => .inl ((h.bx k l hk).2 o)⟩
  inj := h.inj
  sep := h.sep
  sto := h.sto.alloc _
theorem nbeq {i j : Nat} (h : i ≠ j) : Nat.beq i j = false := by
  cases hb : Nat.beq i j with
  | false => rfl
  | true => exact absurd ((yp _ _).1 hb) h
/-- A new object. -/
theorem SimB.newObj {n : Nat} {β : Nat -> Nat} {A : Fr} {a : Act} (h : SimB n Oth β A st M a w) (o : Obj) (x : AObj)
    (hr : ObjRel (w.alloc o) (fun b o => addB M w.heap.size b o \/ Oth b o) x w.heap.size) :
    SimB n Oth β A (st.setObj w.heap.size x) (addB M w.heap.size) a (w.alloc o) where
  tsz := h.tsz
  dfr := h.dfr.alloc h.sto.mlt _
  tm := (h.grow1 o).tm
  bx := (h.grow1 o).bx
  inj := h.inj
  sep k b hk hb he := by
    by_cases hbs : b = w.heap.size
    · cases hl : A.bx k with
      | none => exact hk hl
      | some l => have := (h.bx k l hl).1.lt; omega
    · refine h.sep k b hk ?_ he
      simpa [Store.setObj, nbeq hbs] using hb
  sto := by
    have h' := h.sto.alloc o
    refine ⟨fun b y hy => ?_, h'.tok, h'.mlt, h'.olt, h'.dis⟩
    by_cases hbs : b = w.heap.size
    · subst hbs
      simp only [Store.setObj, Nat.beq_refl, cond_true, Option.some.injEq] at hy
      subst hy
      exact ⟨hr, fun o => .inr rfl⟩
    · simp only [Store.setObj, nbeq hbs, cond_false] at hy
      exact h'.obj b y hy
end
end Go.V
namespace Go.V
section
variable {P : Program} {c : Cfg} {w : World} {Oth M : Nat -> Nat -> Prop} {st : Store}
theorem CellsRel.mono {T T' : Nat -> Nat -> Prop} (hs : ∀ b o, T' b o -> T b o) {l : List AV} {b : Nat} (h : CellsRel w T l b) : CellsRel w T' l b := by
  obtain ⟨c, e, fr, h1, h2, h3, h4⟩ := h
  exact ⟨c, e, fr, h1, h2, h3, fun i x y hx hy => (h4 i x y hx hy).mono hs⟩
theorem ObjRel.mono {T T' : Nat -> Nat -> Prop} (hs : ∀ b o, T' b o -> T b o) {x : AObj} {b : Nat} (h : ObjRel w T x b) : ObjRel w T' x b := by
  cases x with
  | cells l => exact CellsRel.mono hs h
  | map es bs clock =>
    obtain ⟨ms, h1, h2, h3, h4⟩ := h
    exact ⟨ms, h1, h2, fun i x y hx hy => ⟨(h3 i x y hx hy).1.mono hs, (h3 i x y hx hy).2.mono hs⟩, h4⟩
  | iter m since seen last => exact h
  | ghost o gh => exact ⟨h.1, fun p hp => (h.2 p hp).mono hs⟩
theorem LRel.mono {T T' : Nat -> Nat -> Prop} (hs : ∀ b o, T' b o -> T b o) {β : Nat -> Nat} {x : LV} {v : Value} (h : LRel w T β x v) : LRel w T' β x v := by
  cases x with
  | any => trivial
  | und => exact h
  | av x => exact VRel.mono hs h
  | bx k off => exact h
theorem SimB.shrink {n : Nat} {β : Nat -> Nat} {A : Fr} {a : Act} (h : SimB n Oth β A st M a w) {M' : Nat -> Nat -> Prop} (hs : ∀ b o, M' b o -> M b o)
    (hb : ∀ k l, A.bx k = some l -> ∀ o, M' (β k) o) (ho : ∀ b x, st.obj b = some x -> ∀ o, M' b o) (ht : ∀ b top, st.tok b = some top -> ∀ o, top <= o -> M' b o) : SimB n Oth β A st M' a w where
  tsz := h.tsz
  dfr := h.dfr.sub hs
  tm i := (h.tm i).mono fun b o hm => hm.imp (hs b o) id
  bx k l hk := ⟨(h.bx k l hk).1.mono fun b o hm => hm.imp (hs b o) id, hb k l hk⟩
  inj := h.inj
  sep := h.sep
  sto :=
    { obj := fun b x hx => ⟨(h.sto.obj b x hx).1.mono fun b o hm => hm.imp (hs b o) id, ho b x hx⟩
      tok := fun b top hx => by
        obtain ⟨c, e, fr, h1, h2, h3, h4⟩ := h.sto.tok b top hx
        exact ⟨c, e, fr, h1, h2, h3, ht b top hx⟩
      mlt := fun b o hm => h.sto.mlt b o (hs b o hm)
      olt := h.sto.olt
      dis := fun b o hO hM => h.sto.dis b o hO (hs b o hM) }
/-- M and the cells of one block from 'top' on. -/
def addT (M : Nat -> Nat -> Prop) (B top : Nat) : Nat -> Nat -> Prop := fun b o => M b o \/ (b = B /\ top <= o)
theorem zi5 (w : World) (o : Obj) (M : Nat -> Nat -> Prop) (top : Nat) : Chg M w (addT M w.heap.size top) (w.alloc o) :=
  { vf w o M with
    sub := fun b o' hm hb => by
      rcases hm with h | h
      · exact h
      · omega }
theorem SimB.newTok {n : Nat} {β : Nat -> Nat} {A : Fr} {a : Act} (h : SimB n Oth β A st M a w) (cs : Array Value) (e : TypeId) (top : Nat) (htop : top <= cs.size) :
    SimB n Oth β A (st.setTok w.heap.size (some top)) (addT M w.heap.size top) a (w.alloc (.cells cs e)) := by
  have hlt : ∀ b, (st.obj b ≠ none \/ st.tok b ≠ none) -> b < w.heap.size := fun b hb => by
    rcases hb with hb | hb
    · cases ho : st.obj b with
      | none => exact absurd ho hb
      | some x => exact (h.sto.obj b x ho).1.lt
    · cases ho : st.tok b with
      | none => exact absurd ho hb
      | some x =>
        obtain ⟨c, e, fr, h1, _⟩ := h.sto.tok b x ho
        exact z6 h1
  have h1 := (h.grow1 (.cells cs e)).shrink (M' := addT M w.heap.size top) (fun b o hm => hm.imp id fun h => h.1)
    (fun k l hk o => .inl ((h.bx k l hk).2 o)) (fun b x hx o => .inl ((h.sto.obj b x hx).2 o))
    (fun b t hx o ho => by
      obtain ⟨c, e, fr, h1, h2, h3, h4⟩ := h.sto.tok b t hx
      exact .inl (h4 o ho))
  refine { h1 with sep := fun k b hk hb he => ?_, sto := { h1.sto with tok := fun b t ht => ?_ } }
  · by_cases hbs : b = w.heap.size
    · cases hl : A.bx k with
      | none => exact hk hl
      | some l => have := (h.bx k l hl).1.lt; omega
    · refine h.sep k b hk ?_ he
      simpa [Store.setTok, nbeq hbs] using hb
  · by_cases hbs : b = w.heap.size
    · subst hbs
      simp only [Store.setTok, Nat.beq_refl, cond_true, Option.some.injEq] at ht
      subst ht
      exact ⟨cs, e, (0, 0), qq w _, .inl rfl, htop, fun o ho => .inr ⟨rfl, ho⟩⟩
    · simp only [Store.setTok, nbeq hbs, cond_false] at ht
      exact h1.sto.tok b t ht
/-- What becomes of a world when cells of one block are stored. -/
structure Wrote (w : World) (b o : Nat) (vs : List Value) (w' : World) : Prop where
  size : w'.heap.size = w.heap.size
  other : ∀ b', b' ≠ b -> w'.heap[b']? = w.heap[b']?
  blk : ∀ c e fr, w.heap[b]? = some (.cells c e fr) -> ∃ c', w'.heap[b]? = some (.cells c' e fr) /\ c'.toList = c.toList.take o ++ vs ++ c.toList.drop (o + vs.length) /\ c'.size = c.size
  tape : w'.tape = w.tape
  os : w'.os = w.os
  output : w'.output = w.output
theorem vr (w : World) (b o : Nat) (v : Value) (b' : Nat) : (w.setCell ⟨b, o, none⟩ v).heap[b']? = if b' = b then (w.heap[b']?).map (fun | .cells c e fr => .cells (c.setIfInBounds o v) e fr | x => x) else w.heap[b']? := by
  simp only [World.setCell, Array.getElem?_modify]
  by_cases h : b = b'
  · subst h
    simp
    rfl
  · simp [h, Ne.symm h]
theorem qo (w : World) (b o : Nat) : ∀ (vs : List Value) (i : Nat) (w : World) (c : Array Value) (e : TypeId) (fr : Nat × Nat), w.heap[b]? = some (.cells c e fr) -> x9 fr c.size -> o + i + vs.length <= c.size ->
    (∀ v ∈ vs, z8 v = true) -> ∃ w', (storeCells ⟨b, o, none⟩ vs i).run P w = .ok () w' /\ Wrote w b (o + i) vs w' := by
  intro vs
  induction vs with
  | nil =>
    intro i w c e fr hw _ _ _
    exact ⟨w, by simp [storeCells], rfl, fun _ _ => rfl, fun c e fr h => ⟨c, h, by simp, rfl⟩, rfl, rfl, rfl⟩
  | cons v vs ih =>
    intro i w c e fr hw hf hlen hone
    simp only [List.length_cons] at hlen
    have hlt : o + i < c.size := by omega
    have hcell : w.cell? ⟨b, o + i, none⟩ = some c[o + i] := by simp [World.cell?, hw, hlt]
    have hfz : w.frozen? ⟨b, o + i, none⟩ = false := by
      simp only [World.frozen?, hw]
      unfold x9 at hf
      simp
      intro h
      omega
    have hst : (store (Addr.add ⟨b, o, none⟩ i) v).run P w = .ok () (w.setCell ⟨b, o + i, none⟩ v) := by
      rw [x5]
      have h1 := hone v (by simp)
      cases v <;> simp [z8] at h1 <;> simp [store, Sem.run, hcell, hfz]
    have hw1 : (w.setCell ⟨b, o + i, none⟩ v).heap[b]? = some (.cells (c.setIfInBounds (o + i) v) e fr) := by
      rw [vr, if_pos rfl, hw]
      rfl
    obtain ⟨w', hr, hwr⟩ := ih (i + 1) _ _ e fr hw1 (by simpa using hf) (by simp; omega) (fun v hv => hone v (by simp [hv]))
    refine ⟨w', by simp only [storeCells, Sem.run_bind, hst, Result.andThen_ok, hr], by rw [hwr.size]; simp, fun b' hb => by rw [hwr.other b' hb, vr, if_neg hb], fun c₁ e₁ fr₁ hc₁ => ?_, by rw [hwr.tape]; rfl, by rw [hwr.os]; rfl, by rw [hwr.output]; rfl⟩
    rw [hw] at hc₁
    cases hc₁
    obtain ⟨c', hc', hl, hs⟩ := hwr.blk _ _ _ hw1
    refine ⟨c', hc', ?_, by simpa using hs⟩
    rw [hl, Array.toList_setIfInBounds]
    have hlt' : o + i < c.toList.length := by simpa using hlt
    apply List.ext_getElem?
    intro j
    simp only [List.getElem?_append, List.getElem?_take, List.getElem?_drop, List.getElem?_set, List.length_append, List.length_take, List.length_set, List.length_cons, Array.length_toList]
    have hsz : o + i + (vs.length + 1) <= c.size := hlen
    rcases Nat.lt_trichotomy j (o + i) with hi | hi | hi
    · have h1 : j < o + (i + 1) := by omega
      have h2 : j < min (o + (i + 1)) c.size := by omega
      have h3 : j < min (o + i) c.size := by omega
      have h4 : j < min (o + i) c.size + (vs.length + 1) := by omega
      have h5 : j < min (o + (i + 1)) c.size + vs.length := by omega
      have h6 : ¬ o + i = j := by omega
      simp [h1, h2, h3, h4, h5, h6, hi]
    · subst hi
      have h1 : o + i < min (o + (i + 1)) c.size := by omega
      have h2 : ¬ o + i < min (o + i) c.size := by omega
      have h3 : o + i - min (o + i) c.size = 0 := by omega
      have h4 : o + i < min (o + i) c.size + (vs.length + 1) := by omega
      have h5 : o + i < min (o + (i + 1)) c.size + vs.length := by omega
      have h6 : o + i < o + (i + 1) := by omega
      simp [h1, h2, h3, h4, h5, h6, hlt]
    · have h2 : ¬ j < min (o + (i + 1)) c.size := by omega
      have h3 : ¬ j < min (o + i) c.size := by omega
      have e1 : j - min (o + i) c.size = (j - min (o + (i + 1)) c.size) + 1 := by omega
      have e2 : (j < min (o + i) c.size + (vs.length + 1)) ↔ (j < min (o + (i + 1)) c.size + vs.length) := by omega
      have e3 : o + (i + 1) + vs.length + (j - (min (o + (i + 1)) c.size + vs.length)) = o + i + (vs.length + 1) + (j - (min (o + i) c.size + (vs.length + 1))) := by omega
      simp only [h2, h3, if_false, e1, List.getElem?_cons_succ, e2, e3]
      have h8 : ¬ o + i = o + i + (vs.length + 1) + (j - (min (o + i) c.size + (vs.length + 1))) := by omega
      simp [h8]
theorem Wrote.keeps {b o : Nat} {vs : List Value} {w' : World} (h : Wrote w b o vs w') {T : Nat -> Nat -> Prop} (hb : ∀ o, T b o) : Keeps w T w' T where
  cell b' o' c hc hT := by
    have hne : b' ≠ b := fun e => hT (e ▸ hb o')
    rw [qc (h.other b' hne)]
    exact hc
  out b' o' c hc hT := hT
  shp b' c e fr hw := by
    by_cases hbb : b' = b
    · subst hbb
      obtain ⟨c', h1, _, h2⟩ := h.blk c e fr hw
      exact ⟨c', fr, h1, h2⟩
    · exact ⟨c, fr, by rw [h.other b' hbb]; exact hw, rfl⟩
theorem Wrote.chg {b o : Nat} {vs : List Value} {w' : World} (h : Wrote w b o vs w') (hb : ∀ o, M b o) : Chg M w M w' where
  size := by rw [h.size]; exact Nat.le_refl _
  keep b' o' _ hm := qc (h.other b' fun e => hm (e ▸ hb o')) o'
  blk b' _ hm := h.other b' fun e => hm 0 (e ▸ hb 0)
  shp := (h.keeps (T := M) hb).shp
  sub _ _ hm _ := hm
  tape := h.tape
  os := h.os
  output := h.output
theorem CellsRel.wrote {b o : Nat} {vs : List Value} {w' : World} {T : Nat -> Nat -> Prop} (h : Wrote w b o vs w') (hT : ∀ o, T b o) {l xs : List AV} (hl : CellsRel w T l b) (hx : Reads w T xs vs) :
    CellsRel w' T (zo l o xs) b := by
  obtain ⟨c, e, fr, h1, h2, h3, h4⟩ := hl
  obtain ⟨c', h5, h6, h7⟩ := h.blk c e fr h1
  have hr : Reads w T l c.toList := ⟨by simpa using h3, fun i x y hx hy => h4 i x y hx (by simpa using hy)⟩
  have hr' : Reads w' T (zo l o xs) c'.toList := by
    rw [h6]
    unfold zo
    refine (((hr.take o).append hx).append ?_).keep (h.keeps hT)
    rw [hx.1]
    exact hr.drop _
  exact ⟨c', e, fr, h5, h2, by simpa using hr'.1, fun i x y hx hy => hr'.2 i x y hx (by simpa using hy)⟩
theorem StoreOK.wrote {b o : Nat} {vs : List Value} {w' : World} (h : StoreOK st Oth M w) (hw : Wrote w b o vs w') (hb : ∀ o, M b o) (hob : st.obj b = none) : StoreOK st Oth M w' where
  obj b' x hx := by
    have hne : b' ≠ b := fun e => by rw [e, hob] at hx; cases hx
    exact ⟨ObjRel.same (h.obj b' x hx).1 (hw.keeps fun o => .inl (hb o)) (hw.other b' hne), (h.obj b' x hx).2⟩
  tok b' top ht := by
    obtain ⟨c, e, fr, h1, h2, h3, h4⟩ := h.tok b' top ht
    by_cases he : b' = b
    · subst he
      obtain ⟨c', h5, _, h6⟩ := hw.blk c e fr h1
      exact ⟨c', e, fr, h5, by rw [h6]; exact h2, by rw [h6]; exact h3, h4⟩
    · exact ⟨c, e, fr, by rw [hw.other b' he]; exact h1, h2, h3, h4⟩
  mlt b' o' hm := by rw [hw.size]; exact h.mlt b' o' hm
  olt b' o' hm := by rw [hw.size]; exact h.olt b' o' hm
  dis := h.dis
/-- A store into a box of the call's own. -/
theorem SimB.setBx {n : Nat} {β : Nat -> Nat} {A : Fr} {a : Act} (h : SimB n Oth β A st M a w) {k o : Nat} {l xs : List AV} {vs : List Value} {w' : World} (hk : A.bx k = some l)
    (hx : Reads w (fun b o => M b o \/ Oth b o) xs vs) (hw : Wrote w (β k) o vs w') : SimB n Oth β (A.setBx k (zo l o xs)) st M a w' := by
  have hM := (h.bx k l hk).2
  have hT : ∀ o, M (β k) o \/ Oth (β k) o := fun o => .inl (hM o)
  have hsome : ∀ k', (A.setBx k (zo l o xs)).bx k' ≠ none -> A.bx k' ≠ none := by
    intro k' h'
    by_cases he : k' = k
    · subst he; rw [hk]; simp
    · simpa [Fr.setBx, nbeq he] using h'
  have hob : st.obj (β k) = none := by
    cases ho : st.obj (β k) with
    | none => rfl
    | some x => exact absurd rfl (h.sep k (β k) (by rw [hk]; simp) (.inl (by rw [ho]; simp)))
  exact
    { tsz := h.tsz
      dfr := h.dfr.step fun D _ _ h2 => ⟨hw.other D fun e => (h2 0).1 (e ▸ hM 0), fun o => (h2 o).1⟩
      tm := fun i => (h.tm i).keep (hw.keeps hT)
      bx := fun k' l' hk' => by
        by_cases he : k' = k
        · subst he
          simp only [Fr.setBx, Nat.beq_refl, cond_true, Option.some.injEq] at hk'
          subst hk'
          exact ⟨CellsRel.wrote hw hT (h.bx k' l hk).1 hx, hM⟩
        · simp only [Fr.setBx, nbeq he, cond_false] at hk'
          have hne : β k' ≠ β k := fun e => he (h.inj k' k (by rw [hk']; simp) (by rw [hk]; simp) e)
          exact ⟨(h.bx k' l' hk').1.same (hw.keeps hT) (hw.other _ hne), (h.bx k' l' hk').2⟩
      inj := fun k1 k2 h1 h2 => h.inj k1 k2 (hsome k1 h1) (hsome k2 h2)
      sep := fun k1 b h1 => h.sep k1 b (hsome k1 h1)
      sto := h.sto.wrote hw hM hob }
/-- A store into an object. -/
theorem SimB.setObj {n : Nat} {β : Nat -> Nat} {A : Fr} {a : Act} (h : SimB n Oth β A st M a w) {b o : Nat} {l xs : List AV} {vs : List Value} {w' : World} (hk : st.obj b = some (.cells l))
    (hx : Reads w (fun b o => M b o \/ Oth b o) xs vs) (hw : Wrote w b o vs w') : SimB n Oth β A (st.setObj b (.cells (zo l o xs))) M a w' := by
  have hM := (h.sto.obj b _ hk).2
  have hT : ∀ o, M b o \/ Oth b o := fun o => .inl (hM o)
  exact
    { tsz := h.tsz
      dfr := h.dfr.step fun D _ _ h2 => ⟨hw.other D fun e => (h2 0).1 (e ▸ hM 0), fun o => (h2 o).1⟩
      tm := fun i => (h.tm i).keep (hw.keeps hT)
      bx := fun k' l' hk' => by
        have hne : β k' ≠ b := h.sep k' b (by rw [hk']; simp) (.inl (by rw [hk]; simp))
        exact ⟨(h.bx k' l' hk').1.same (hw.keeps hT) (hw.other _ hne), (h.bx k' l' hk').2⟩
      inj := h.inj
      sep := fun k1 b1 h1 h2 => h.sep k1 b1 h1 (by
        by_cases he : b1 = b
        · subst he; exact .inl (by rw [hk]; simp)
        · simpa [Store.setObj, nbeq he] using h2)
      sto :=
        { obj := fun b' x hx' => by
            by_cases he : b' = b
            · subst he
              simp only [Store.setObj, Nat.beq_refl, cond_true, Option.some.injEq] at hx'
              subst hx'
              exact ⟨CellsRel.wrote hw hT (h.sto.obj b' _ hk).1 hx, hM⟩
            · simp only [Store.setObj, nbeq he, cond_false] at hx'
              exact ⟨ObjRel.same (h.sto.obj b' x hx').1 (hw.keeps hT) (hw.other b' he), (h.sto.obj b' x hx').2⟩
          tok := fun b' top ht => by
            obtain ⟨c, e, fr, h1, h2, h3, h4⟩ := h.sto.tok b' top ht
            by_cases he : b' = b
            · subst he
              obtain ⟨c', h5, _, h6⟩ := hw.blk c e fr h1
              exact ⟨c', e, fr, h5, by rw [h6]; exact h2, by rw [h6]; exact h3, h4⟩
            · exact ⟨c, e, fr, by rw [hw.other b' he]; exact h1, h2, h3, h4⟩
          mlt := fun b' o' hm => by rw [hw.size]; exact h.sto.mlt b' o' hm
          olt := fun b' o' hm => by rw [hw.size]; exact h.sto.olt b' o' hm
          dis := h.sto.dis } }
end
end Go.V
namespace Go.V
section
variable {P : Program} {c : Cfg} {K : Fr -> Store -> Prop} {A : Fr} {st : Store}
theorem qs {d n : Nat} {p : Prop} (h : bif Nat.blt d n then p else False) : d < n /\ p := by
  cases hb : Nat.blt d n with
  | false => rw [hb] at h; exact h.elim
  | true => rw [hb] at h; exact ⟨Nat.le_of_ble_eq_true hb, h⟩
theorem zye {o : Oper} {t : TypeId} (ho : o.op = .alloc t) (hI : zw P c.I)
    (h : optK (c.I t) fun i => optK o.dst fun d => bif Nat.blt d c.n then
      (bif c.G.contains d then ∀ b, Fresh st b -> K (A.put d (.av (.s (.pointer (some ⟨b, 0, none⟩))))) (st.setObj b (.cells (qu i)))
        else K (A.newBx d (qu i)) st) else False) : AOp P c.n o K A st := by
  obtain ⟨i, hi, h⟩ := ze h
  obtain ⟨d, hd, h⟩ := ze h
  obtain ⟨hlt, h⟩ := qs h
  rintro Oth M a w ⟨β, sim⟩
  obtain ⟨z, hz1, hz2⟩ := zcx (hI _ _ hi) w
  have hr : (execOp a.eval o).run P w = .ok (.value (.pointer (some ⟨w.heap.size, 0, none⟩))) (w.alloc (.cells z.cells t)) := by
    simp only [execOp, ho, Instr.alloc, Sem.run_bind, hz1, Result.andThen_ok]
    simp [newVar, newRow]
  have hrd : ∀ T, Reads w T (qu i) z.cells.toList := fun T => by unfold qu; rw [hz2]; exact Reads.map_s _
  unfold Oper.wp
  rw [hr, Oper.upon_value, hd]
  cases hg : c.G.contains d with
  | true =>
    rw [hg] at h
    refine ⟨_, _, addB M w.heap.size, h w.heap.size (sim.sto.fresh (Nat.le_refl _)), ⟨β, ?_⟩, vf _ _ _⟩
    exact (sim.newObj _ (.cells (qu i)) (j3 w t M Oth (hrd _))).put hlt (VRel.s _)
  | false =>
    rw [hg] at h
    exact ⟨_, _, addB M w.heap.size, h, ⟨_, sim.newBx hlt t (hrd _)⟩, vf _ _ _⟩
theorem yoo {o : Oper} {t : TypeId} {x : Operand} (ho : o.op = .box t x) (hI : zw P c.I)
    (h : optK o.dst fun d => bif Nat.blt d c.n then (match A.ev x with
      | .av x => optK (cellsOf x) fun l =>
        bif c.G.contains d then ∀ b, Fresh st b -> K (A.put d (.av (.s (.pointer (some ⟨b, 0, none⟩))))) (st.setObj b (.cells l))
        else K (A.newBx d l) st
      | _ => False) else False) : AOp P c.n o K A st := by
  obtain ⟨d, hd, h⟩ := ze h
  obtain ⟨hlt, h⟩ := qs h
  split at h
  · rename_i y hy
    obtain ⟨l, hl, h⟩ := ze h
    rintro Oth M a w ⟨β, sim⟩
    have hv := yn sim.env hy
    obtain ⟨hrd, _⟩ := zck hv hl
    have hr : (execOp a.eval o).run P w = .ok (.value (.pointer (some ⟨w.heap.size, 0, none⟩))) (w.alloc (.cells (a.eval x).cells t)) := by
      simp [execOp, ho, Instr.box, newVar, newRow]
    unfold Oper.wp
    rw [hr, Oper.upon_value, hd]
    cases hg : c.G.contains d with
    | true =>
      rw [hg] at h
      refine ⟨_, _, addB M w.heap.size, h w.heap.size (sim.sto.fresh (Nat.le_refl _)), ⟨β, ?_⟩, vf _ _ _⟩
      exact (sim.newObj _ (.cells l) (j3 w t M Oth hrd)).put hlt (VRel.s _)
    | false =>
      rw [hg] at h
      exact ⟨_, _, addB M w.heap.size, h, ⟨_, sim.newBx hlt t hrd⟩, vf _ _ _⟩
  · exact h.elim
theorem zya {o : Oper} {t : TypeId} {p x : Operand} (ho : o.op = .store t p x) (hd : o.dst = none) (hI : zw P c.I)
    (h : optK (c.I t) fun i => match A.ev x with
      | .av x => zcs i A st (A.ev p) x K
      | _ => False) : AOp P c.n o K A st := by
  obtain ⟨i, hi, h⟩ := ze h
  split at h
  · rename_i y hy
    obtain ⟨xs, hxs, h⟩ := ze h
    cases hb : (Nat.beq xs.length i.size && xs.all AV.one) with
    | false => rw [hb] at h; exact h.elim
    | true =>
    rw [hb] at h
    simp only [cond_true] at h
    simp only [Bool.and_eq_true] at hb
    have hsz : xs.length = i.size := (yp _ _).1 hb.1
    rintro Oth M a w ⟨β, sim⟩
    have hv := yn sim.env hy
    obtain ⟨hrd, hone⟩ := zck hv hxs
    have hone' : ∀ v ∈ (a.eval x).cells.toList, z8 v = true := by
      intro v hv
      obtain ⟨j, hj⟩ := List.mem_iff_getElem?.1 hv
      have hjl : j < xs.length := by rw [hrd.1]; exact (List.getElem?_eq_some_iff.1 hj).1
      exact zok (hrd.2 j _ v (List.getElem?_eq_getElem hjl) hj) (List.all_eq_true.1 hb.2 _ (List.getElem_mem hjl))
    have hvs : (a.eval x).cells.size = i.size := by rw [<- hsz, hrd.1]; simp
    unfold Oper.wp
    split at h
    · rename_i k off hp
      obtain ⟨l, hl, h⟩ := ze h
      cases hb2 : Nat.ble (off + xs.length) l.length with
      | false => rw [hb2] at h; exact h.elim
      | true =>
      rw [hb2] at h
      simp only [cond_true, xo] at h
      have hle : off + xs.length <= l.length := Nat.le_of_ble_eq_true hb2
      have hp' : a.eval p = .pointer (some ⟨β k, off, none⟩) := by have := sim.ev p; rw [hp] at this; exact this
      obtain ⟨⟨cs, e, fr, h1, h2, h3, h4⟩, hM⟩ := sim.bx k l hl
      obtain ⟨w', hr, hw⟩ := qo (P := P) w (β k) off (a.eval x).cells.toList 0 w cs e fr h1 (.inl h2) (by rw [<- hrd.1]; omega) hone'
      have hrun : (execOp a.eval o).run P w = .ok .skip w' := by
        simp [execOp, ho, hp', Instr.storeAt, Instr.sureAddr, storeVar, zu (hI _ _ hi), hvs, hr]
      rw [hrun, Oper.upon_skip, hd]
      exact ⟨_, _, M, h, ⟨β, sim.setBx hl hrd hw⟩, hw.chg hM⟩
    · rename_i b off hp
      obtain ⟨ob, hob, h⟩ := ze h
      cases ob with
      | map es bs clock => exact h.elim
      | iter m since seen last => exact h.elim
      | ghost o gh => exact h.elim
      | cells l =>
      obtain ⟨hle, h⟩ := h
      rw [xo] at h
      have hp' : a.eval p = .pointer (some ⟨b, off, none⟩) := VRel.eq_s (yn sim.env hp)
      obtain ⟨⟨cs, e, fr, h1, h2, h3, h4⟩, hM⟩ := sim.sto.obj b _ hob
      obtain ⟨w', hr, hw⟩ := qo (P := P) w b off (a.eval x).cells.toList 0 w cs e fr h1 (.inl h2) (by rw [<- hrd.1]; omega) hone'
      have hrun : (execOp a.eval o).run P w = .ok .skip w' := by
        simp [execOp, ho, hp', Instr.storeAt, Instr.sureAddr, storeVar, zu (hI _ _ hi), hvs, hr]
      rw [hrun, Oper.upon_skip, hd]
      exact ⟨_, _, M, h, ⟨β, sim.setObj hob hrd hw⟩, hw.chg hM⟩
    · exact h.elim
  · exact h.elim
end
end Go.V
namespace Go.V
section
variable {P : Program} {c : Cfg} {K : Fr -> Store -> Prop} {A : Fr} {st : Store}
theorem VRel.clos_inv {w : World} {T : Nat -> Nat -> Prop} {f : FuncId} {cs : List AV} {v : Value} (h : VRel w T (.clos f cs) v) : ∃ c, v = .func (.func f) #[] c /\ Reads w T cs c.toList := by
  cases h with
  | clos _ _ c hl h => exact ⟨c, rfl, by simpa using hl, fun i x y hx hy => h i x y hx (by simpa using hy)⟩
/-- What a call may turn: not the frame's boxes. -/
def inM (M : Nat -> Nat -> Prop) (A : Fr) (β : Nat -> Nat) : Nat -> Nat -> Prop := fun b o => M b o /\ ∀ k, A.bx k ≠ none -> β k ≠ b
def outM (Oth M : Nat -> Nat -> Prop) (A : Fr) (β : Nat -> Nat) : Nat -> Nat -> Prop := fun b o => Oth b o \/ (M b o /\ ∃ k, A.bx k ≠ none /\ β k = b)
theorem zbd {Oth M : Nat -> Nat -> Prop} {β : Nat -> Nat} : ∀ b o, (inM M A β b o \/ outM Oth M A β b o) -> (M b o \/ Oth b o) := by
  rintro b o (h | h | h)
  · exact .inl h.1
  · exact .inr h
  · exact .inl h.1
theorem SimB.inner {n : Nat} {Oth M : Nat -> Nat -> Prop} {β : Nat -> Nat} {a : Act} {w : World} (sim : SimB n Oth β A st M a w) : StoreOK st (outM Oth M A β) (inM M A β) w :=
  { obj := fun b x hx => ⟨(sim.sto.obj b x hx).1.mono zbd, fun o => ⟨(sim.sto.obj b x hx).2 o, fun k hk => sim.sep k b hk (.inl (by rw [hx]; simp))⟩⟩
    tok := fun b top hx => by
      obtain ⟨c, e, fr, h1, h2, h3, h4⟩ := sim.sto.tok b top hx
      exact ⟨c, e, fr, h1, h2, h3, fun o ho => ⟨h4 o ho, fun k hk => sim.sep k b hk (.inr (by rw [hx]; simp))⟩⟩
    mlt := fun b o hm => sim.sto.mlt b o hm.1
    olt := fun b o hm => by
      rcases hm with h | h
      · exact sim.sto.olt b o h
      · exact sim.sto.mlt b o h.1
    dis := fun b o hO hM => by
      rcases hO with h | ⟨h, k, hk, he⟩
      · exact sim.sto.dis b o h hM.1
      · exact hM.2 k hk he }
/-- The frame behind what turns no box of it. -/
theorem SimB.post {n : Nat} {Oth M : Nat -> Nat -> Prop} {β : Nat -> Nat} {a : Act} {w : World} (sim : SimB n Oth β A st M a w) {R : AV -> Store -> Prop} :
    ∀ v w', zt st R (outM Oth M A β) (inM M A β) w v w' -> ∃ r st' M', R r st' /\ VRel w' (fun b o => M' b o \/ Oth b o) r v /\ SimB n Oth β A st' M' a w' /\ Chg M w M' w' := by
  rintro v w' ⟨r, st', Mc', hR, hr, hsto, hchg⟩
  let M' : Nat -> Nat -> Prop := fun b o => Mc' b o \/ (M b o /\ ∃ k, A.bx k ≠ none /\ β k = b)
  have hT2 : ∀ b o, (M' b o \/ Oth b o) -> (Mc' b o \/ outM Oth M A β b o) := by
    rintro b o ((h | h) | h)
    · exact .inl h
    · exact .inr (.inr h)
    · exact .inr (.inl h)
  have hblk : ∀ k, A.bx k ≠ none -> w'.heap[β k]? = w.heap[β k]? := fun k hk => by
    cases hl : A.bx k with
    | none => exact absurd hl hk
    | some l => exact hchg.blk _ (sim.bx k l hl).1.lt fun o hm => hm.2 k hk rfl
  have hno : ∀ k b o, A.bx k ≠ none -> Mc' b o -> β k ≠ b := fun k b o hk hm he => by
    subst he
    cases hl : A.bx k with
    | none => exact absurd hl hk
    | some l => exact (hchg.sub _ o hm (sim.bx k l hl).1.lt).2 k hk rfl
  refine ⟨r, st', M', hR, hr.mono hT2, ?_, ?_⟩
  · exact
      { tsz := sim.tsz
        dfr := sim.dfr.step fun D _ hl h2 => ⟨hchg.blk D hl fun o hm => (h2 o).1 hm.1, fun o hm => by
          rcases hm with hm | hm
          · exact (h2 o).1 (hchg.sub D o hm hl).1
          · exact (h2 o).1 hm.1⟩
        tm := fun i => ((LRel.mono zbd (sim.tm i)).keep hchg.keeps).mono hT2
        bx := fun k l hl => by
          have hk : A.bx k ≠ none := by rw [hl]; simp
          exact ⟨(((sim.bx k l hl).1.mono zbd).same hchg.keeps (hblk k hk)).mono hT2, fun o => .inr ⟨(sim.bx k l hl).2 o, k, hk, rfl⟩⟩
        inj := sim.inj
        sep := fun k b hk hb => by
          rcases hb with hb | hb
          · cases ho : st'.obj b with
            | none => exact absurd ho hb
            | some x => exact hno k b 0 hk ((hsto.obj b x ho).2 0)
          · cases ho : st'.tok b with
            | none => exact absurd ho hb
            | some top =>
              obtain ⟨c, e, fr, h1, h2, h3, h4⟩ := hsto.tok b top ho
              exact hno k b top hk (h4 top (Nat.le_refl _))
        sto :=
          { obj := fun b x hx => ⟨(hsto.obj b x hx).1.mono hT2, fun o => .inl ((hsto.obj b x hx).2 o)⟩
            tok := fun b top hx => by
              obtain ⟨c, e, fr, h1, h2, h3, h4⟩ := hsto.tok b top hx
              exact ⟨c, e, fr, h1, h2, h3, fun o ho => .inl (h4 o ho)⟩
            mlt := fun b o hm => by
              rcases hm with h | h
              · exact hsto.mlt b o h
              · exact Nat.lt_of_lt_of_le (sim.sto.mlt b o h.1) hchg.size
            olt := fun b o hm => Nat.lt_of_lt_of_le (sim.sto.olt b o hm) hchg.size
            dis := fun b o hO hM => by
              rcases hM with h | h
              · exact hsto.dis b o (.inl hO) h
              · exact sim.sto.dis b o hO h.1 } }
  · exact
      { size := hchg.size
        keep := fun b o hb hm => hchg.keep b o hb fun h => hm h.1
        blk := fun b hb hm => hchg.blk b hb fun o h => hm o h.1
        shp := hchg.shp
        sub := fun b o hm hb => by
          rcases hm with h | h
          · exact (hchg.sub b o h hb).1
          · exact h.1
        tape := hchg.tape
        os := hchg.os
        output := hchg.output }
/-- The frame behind a call: its own boxes are as they were. -/
theorem SimB.call {n : Nat} {Oth M : Nat -> Nat -> Prop} {β : Nat -> Nat} {a : Act} {w : World} (sim : SimB n Oth β A st M a w) {g : FuncId} {args : List AV} {vs : Array Value} {R : AV -> Store -> Prop}
    (hc : ACalls P g args st R) (hv : Reads w (fun b o => M b o \/ Oth b o) args vs.toList) :
    zfj P (fun v w' => ∃ r st' M', R r st' /\ VRel w' (fun b o => M' b o \/ Oth b o) r v /\ SimB n Oth β A st' M' a w' /\ Chg M w M' w') ((callFunc g vs).run P w) := by
  have key := sim.post (R := R)
  have hout := hc.out _ _ w vs sim.inner ⟨hv.1, fun i x y hx hy => (hv.2 i x y hx hy).mono zbd⟩
  generalize (callFunc g vs).run P w = res at *
  cases res with
  | halt h w' => exact hout.elim
  | ok nx w' =>
    cases nx with
    | enter f as => exact Calls.mono hout fun e w'' ⟨v, he, hp⟩ => ⟨v, he, key v w'' hp⟩
    | value v => exact key v w' hout
    | _ => exact hout.elim
/-- The operations with rules of their own. -/
theorem zyc {o : Oper} (hI : zw P c.I) (h : vcX P c o K A st) : AOp P c.n o K A st := by
  obtain ⟨vs, hvs, h⟩ := ze h
  rintro Oth M a w ⟨β, sim⟩
  obtain ⟨hm1, hm2⟩ := za9 hvs
  have hr : Reads w (fun b o => M b o \/ Oth b o) vs (o.op.operands.map a.eval).toList := by
    refine ⟨by simp [hm1], fun i x y hx hy => ?_⟩
    obtain ⟨z, hz, hzz⟩ := hm2 i x hx
    have hz' : o.op.operands[i]? = some z := by simpa using hz
    rw [Array.toList_map, List.getElem?_map, hz] at hy
    simp at hy
    subst hy
    exact yn sim.env (zay hzz)
  have hout := h.out _ _ w a.eval hI sim.inner ⟨hr.1, fun i x y hx hy => (hr.2 i x y hx hy).mono zbd⟩
  have key := sim.post (R := fun r st' => putO A c.n o.dst (.av r) fun A' => K A' st')
  have fin : ∀ v w', (∃ r st' M', (putO A c.n o.dst (.av r) fun A' => K A' st') /\ VRel w' (fun b o => M' b o \/ Oth b o) r v /\ SimB c.n Oth β A st' M' a w' /\ Chg M w M' w') ->
      ∃ A' st' M', K A' st' /\ Sim c.n Oth A' st' M' (a.put o.dst v) w' /\ Chg M w M' w' := by
    rintro v w' ⟨r, st', M', hk, hv, hs, hchg⟩
    unfold putO at hk
    cases hd : o.dst with
    | none => rw [hd] at hk; exact ⟨A, st', M', hk, ⟨β, hs⟩, hchg⟩
    | some d =>
      rw [hd] at hk
      obtain ⟨hlt, hk⟩ := qs hk
      exact ⟨_, st', M', hk, ⟨β, hs.put hlt hv⟩, hchg⟩
  unfold Oper.wp
  generalize (execOp a.eval o).run P w = res at *
  cases res with
  | halt h w' => exact hout.elim
  | ok nx w' =>
    cases nx with
    | value v => rw [Oper.upon_value]; exact fin v w' (key v w' hout)
    | skip =>
      obtain ⟨hd, hout⟩ := hout
      rw [Oper.upon_skip]
      have := fin _ w' (key _ w' hout)
      rw [hd] at this ⊢
      exact this
    | _ => exact hout.elim
theorem yjb {o : Oper} {cl : Call} {f : Operand} (ho : o.op = .call cl) (hcl : cl.callee = .value f)
    (h : match A.ev f with
      | .av (.clos g cap) => optK (cl.args.toList.mapM fun x => (A.ev x).toAV) fun vs =>
        ACalls P g (vs ++ cap) st fun r st' => putO A c.n o.dst (.av r) fun A' => K A' st'
      | _ => False) : AOp P c.n o K A st := by
  split at h
  · rename_i g cap hf
    obtain ⟨vs, hvs, h⟩ := ze h
    rintro Oth M a w ⟨β, sim⟩
    obtain ⟨capv, hcv, hcr⟩ := VRel.clos_inv (yn sim.env hf)
    obtain ⟨hm1, hm2⟩ := za9 hvs
    have hr1 : Reads w (fun b o => M b o \/ Oth b o) vs (cl.args.map a.eval).toList := by
      refine ⟨by simp [hm1], fun i x y hx hy => ?_⟩
      obtain ⟨z, hz, hzz⟩ := hm2 i x hx
      have hz' : cl.args[i]? = some z := by simpa using hz
      rw [Array.toList_map, List.getElem?_map, hz] at hy
      simp at hy
      subst hy
      exact yn sim.env (zay hzz)
    have hr : Reads w (fun b o => M b o \/ Oth b o) (vs ++ cap) ((cl.args.map a.eval) ++ capv).toList := by
      rw [Array.toList_append]
      exact hr1.append hcr
    have hrun : (execOp a.eval o).run P w = (callFunc g ((cl.args.map a.eval) ++ capv)).run P w := by
      simp [execOp, ho, resolve, hcl, hcv, Deferred.ofValue, invoke]
    have hc := sim.call h hr
    unfold Oper.wp
    rw [hrun]
    have fin : ∀ v w', (∃ r st' M', (putO A c.n o.dst (.av r) fun A' => K A' st') /\ VRel w' (fun b o => M' b o \/ Oth b o) r v /\ SimB c.n Oth β A st' M' a w' /\ Chg M w M' w') ->
        ∃ A' st' M', K A' st' /\ Sim c.n Oth A' st' M' (a.put o.dst v) w' /\ Chg M w M' w' := by
      rintro v w' ⟨r, st', M', hk, hv, hs, hchg⟩
      unfold putO at hk
      cases hd : o.dst with
      | none => rw [hd] at hk; exact ⟨A, st', M', hk, ⟨β, hs⟩, hchg⟩
      | some d =>
        rw [hd] at hk
        obtain ⟨hlt, hk⟩ := qs hk
        exact ⟨_, st', M', hk, ⟨β, hs.put hlt hv⟩, hchg⟩
    generalize (callFunc g ((cl.args.map a.eval) ++ capv)).run P w = res at *
    cases res with
    | halt h w' => exact hc.elim
    | ok nx w' =>
      cases nx with
      | enter f as =>
        rw [Oper.upon_enter]
        exact Calls.mono hc fun e w'' ⟨v, he, hp⟩ => by subst he; exact fin v w'' hp
      | value v => rw [Oper.upon_value]; exact fin v w' hc
      | _ => exact hc.elim
  · exact h.elim
/-- A call through an interface. -/
theorem ztl {o : Oper} {cl : Call} {y : Operand} {m : String} (ho : o.op = .call cl) (hcl : cl.callee = .invoke y m) (h : zj6 P c o cl m (A.ev y) K A st) : AOp P c.n o K A st := by
  unfold zj6 at h
  split at h
  · rename_i t v hf
    obtain ⟨vs, hvs, g, x, ⟨u, hm, hu⟩, h⟩ := ze h
    rintro Oth M a w ⟨β, sim⟩
    have hcv : a.eval y = .iface t v := VRel.eq_s (yn sim.env hf)
    obtain ⟨hm1, hm2⟩ := za9 hvs
    have hr1 : Reads w (fun b o => M b o \/ Oth b o) vs (cl.args.map a.eval).toList := by
      refine ⟨by simp [hm1], fun i x y hx hy => ?_⟩
      obtain ⟨z, hz, hzz⟩ := hm2 i x hx
      have hz' : cl.args[i]? = some z := by simpa using hz
      rw [Array.toList_map, List.getElem?_map, hz] at hy
      simp at hy
      subst hy
      exact yn sim.env (zay hzz)
    have hr : Reads w (fun b o => M b o \/ Oth b o) (x :: vs) (#[u] ++ (cl.args.map a.eval)).toList := by
      rw [Array.toList_append]
      exact Reads.cons (hu _ _) hr1
    have hrun : (execOp a.eval o).run P w = (callFunc g (#[u] ++ (cl.args.map a.eval))).run P w := by
      have e1 : (#[Value.iface t v] ++ Array.map a.eval cl.args).extract 1 (#[Value.iface t v] ++ Array.map a.eval cl.args).size = Array.map a.eval cl.args := by
        apply Array.ext'
        simp only [Array.toList_extract, List.extract, Array.toList_append, Array.size_append, List.drop_succ_cons, List.singleton_append, List.drop_zero]
        apply List.take_of_length_le
        simp
      have e2 : execOp a.eval o = callMethod (.iface t v) m ((#[Value.iface t v] ++ Array.map a.eval cl.args).extract 1 (#[Value.iface t v] ++ Array.map a.eval cl.args).size) := by
        have e3 : (#[Value.iface t v] ++ Array.map a.eval cl.args)[0]? = some (Value.iface t v) := by rw [Array.getElem?_append_left (Nat.zero_lt_one)]; rfl
        simp only [execOp, ho, resolve, hcl, hcv]
        simp only [pure_bind]
        unfold invoke
        simp only [e3]
      rw [e2, e1]
      simp [callMethod, hm]
    have hc := sim.call h hr
    unfold Oper.wp
    rw [hrun]
    have fin : ∀ v w', (∃ r st' M', (putO A c.n o.dst (.av r) fun A' => K A' st') /\ VRel w' (fun b o => M' b o \/ Oth b o) r v /\ SimB c.n Oth β A st' M' a w' /\ Chg M w M' w') ->
        ∃ A' st' M', K A' st' /\ Sim c.n Oth A' st' M' (a.put o.dst v) w' /\ Chg M w M' w' := by
      rintro v w' ⟨r, st', M', hk, hv, hs, hchg⟩
      unfold putO at hk
      cases hd : o.dst with
      | none => rw [hd] at hk; exact ⟨A, st', M', hk, ⟨β, hs⟩, hchg⟩
      | some d =>
        rw [hd] at hk
        obtain ⟨hlt, hk⟩ := qs hk
        exact ⟨_, st', M', hk, ⟨β, hs.put hlt hv⟩, hchg⟩
    generalize (callFunc g (#[u] ++ (cl.args.map a.eval))).run P w = res at *
    cases res with
    | halt h w' => exact hc.elim
    | ok nx w' =>
      cases nx with
      | enter f as =>
        rw [Oper.upon_enter]
        exact Calls.mono hc fun e w'' ⟨v, he, hp⟩ => by subst he; exact fin v w'' hp
      | value v => rw [Oper.upon_value]; exact fin v w' hc
      | _ => exact hc.elim
  · exact h.elim
end
end Go.V
namespace Go.V
section
variable {P : Program} {c : Cfg} {K : Fr -> Store -> Prop} {A : Fr} {st : Store}
theorem xr {α : Type} {k : Nat} : ∀ {rows : List (List α)} (_ : ∀ row ∈ rows, row.length = k) {i j : Nat} {row : List α} {x : α}, rows[i]? = some row -> row[j]? = some x -> rows.flatten[i * k + j]? = some x := by
  intro rows
  induction rows with
  | nil => intro _ i j row x h; simp at h
  | cons r rows ih =>
    intro hk i j row x h1 h2
    have hr : r.length = k := hk r (by simp)
    cases i with
    | zero =>
      simp at h1
      subst h1
      have hj : j < r.length := (List.getElem?_eq_some_iff.1 h2).1
      simp only [List.flatten_cons]
      rw [List.getElem?_append_left (by omega)]
      simpa using h2
    | succ i =>
      have := ih (fun row h => hk row (by simp [h])) (by simpa using h1) h2
      simp only [List.flatten_cons]
      rw [List.getElem?_append_right (by rw [Nat.add_mul]; omega)]
      rw [hr]
      have e : (i + 1) * k + j - k = i * k + j := by rw [Nat.add_mul]; omega
      rw [e]
      exact this
theorem yj {α : Type} {k : Nat} : ∀ {rows : List (List α)} (_ : ∀ row ∈ rows, row.length = k), rows.flatten.length = rows.length * k := by
  intro rows
  induction rows with
  | nil => intro _; simp
  | cons r rows ih =>
    intro hk
    have hr : r.length = k := hk r (by simp)
    have := ih (fun row h => hk row (by simp [h]))
    simp only [List.flatten_cons, List.length_append, List.length_cons, this, hr, Nat.add_mul]
    omega
theorem zf0 (r l xs : List AV) (o : Nat) : zo (r ++ l) (r.length + o) xs = r ++ zo l o xs := by
  unfold zo
  rw [List.take_append, List.drop_append]
  have h1 : List.take (r.length + o) r = r := List.take_of_length_le (by omega)
  have h2 : List.drop (r.length + o + xs.length) r = [] := List.drop_of_length_le (by omega)
  rw [h1, h2]
  have e1 : r.length + o - r.length = o := by omega
  have e2 : r.length + o + xs.length - r.length = o + xs.length := by omega
  rw [e1, e2]
  simp
theorem zo0 {k : Nat} {xs : List AV} (hx : xs.length = k) : ∀ {rows : List (List AV)} (_ : ∀ row ∈ rows, row.length = k) {i : Nat}, i < rows.length -> (rows.set i xs).flatten = zo rows.flatten (i * k) xs := by
  intro rows
  induction rows with
  | nil => intro _ i h; simp at h
  | cons r rows ih =>
    intro hk i hi
    have hr : r.length = k := hk r (by simp)
    cases i with
    | zero =>
      simp only [List.set_cons_zero, List.flatten_cons, Nat.zero_mul]
      unfold zo
      simp only [List.take_zero, List.nil_append, Nat.zero_add]
      rw [List.drop_append, hx, hr]
      simp [hr]
    | succ i =>
      simp only [List.set_cons_succ, List.flatten_cons]
      rw [ih (fun row h => hk row (by simp [h])) (by simpa using hi)]
      rw [<- zf0]
      congr 1
      rw [Nat.add_mul, hr]
      omega
theorem zmb {k n : Nat} : ∀ (parts : List (Nat × LV)) (acc rows : List (List AV)), (∀ row ∈ acc, row.length = k) -> acc.length = n -> zba k n acc parts = some rows ->
    zes (fun i => some (i * k, k)) acc.flatten parts = some rows.flatten /\ (∀ row ∈ rows, row.length = k) /\ rows.length = n := by
  intro parts
  induction parts with
  | nil => intro acc rows h1 h2 h; simp [zba] at h; subst h; exact ⟨rfl, h1, h2⟩
  | cons p parts ih =>
    intro acc rows h1 h2 h
    obtain ⟨i, x⟩ := p
    simp only [zba] at h
    cases x with
    | av x =>
      simp only at h
      cases hc : cellsOf x with
      | none => rw [hc] at h; cases h
      | some xs =>
        rw [hc] at h
        simp only at h
        cases hb : (Nat.beq xs.length k && Nat.blt i n) with
        | false => rw [hb] at h; cases h
        | true =>
          rw [hb] at h
          simp only [cond_true] at h
          simp only [Bool.and_eq_true] at hb
          have hx : xs.length = k := (yp _ _).1 hb.1
          have hi : i < n := Nat.le_of_ble_eq_true hb.2
          obtain ⟨h3, h4, h5⟩ := ih (acc.set i xs) rows (fun row hr => by
            rcases List.mem_or_eq_of_mem_set hr with h' | h'
            · exact h1 row h'
            · rw [h']; exact hx) (by simpa using h2) h
          refine ⟨?_, h4, h5⟩
          have hfl := yj h1
          have hle : (i + 1) * k <= n * k := Nat.mul_le_mul_right k hi
          have hb2 : (Nat.beq xs.length k && Nat.ble (i * k + k) acc.flatten.length) = true := by
            simp only [Bool.and_eq_true]
            refine ⟨(yp _ _).2 hx, Nat.ble_eq_true_of_le ?_⟩
            rw [hfl, h2]
            rw [Nat.add_mul] at hle
            omega
          simp only [zes, hc, hb2, cond_true]
          rw [<- zo0 hx h1 (by omega)]
          exact h3
    | _ => simp at h
/-- A new block whose first cells read as rows. -/
theorem zcb {w : World} {M Oth T' : Nat -> Nat -> Prop} {rows : List (List AV)} {k : Nat} (hk : ∀ row ∈ rows, row.length = k) {cs : Array Value} {e : TypeId} {cap : Nat}
    (hr : ∀ (i : Nat) (x : AV), rows.flatten[i]? = some x -> ∃ v, cs[i]? = some v /\ VRel w (fun b o => M b o \/ Oth b o) x v /\ z8 v = true) (hcap : rows.length <= cap) (tok : Option Nat)
    (hT : Keeps w (fun b o => M b o \/ Oth b o) (w.alloc (.cells cs e)) T') (hno : ∀ o, o < rows.length * k -> ¬ T' w.heap.size o)
    (htok : ∀ t, tok = some t -> t = w.heap.size /\ rows ≠ [] /\ cap * k <= cs.size) :
    VRel (w.alloc (.cells cs e)) T' (.lst k rows tok) (.slice (some ⟨w.heap.size, 0, none⟩) rows.length cap) := by
  have hlen := yj hk
  have hlt : ∀ (i : Nat) (row : List AV) (j : Nat) (x : AV), rows[i]? = some row -> row[j]? = some x -> i * k + j < rows.length * k := by
    intro i row j x h1 h2
    have := (List.getElem?_eq_some_iff.1 (xr hk h1 h2)).1
    omega
  refine VRel.lst rows tok w.heap.size 0 cap k (fun j => cs.getD j undef) hcap (fun i row h => hk row (List.mem_of_getElem? h)) (fun t ht => ?_) (fun i row j x h1 h2 => ?_) (fun i row j x h1 h2 => ?_) (fun i row j x h1 h2 => ?_)
  · obtain ⟨h1, h2, h3⟩ := htok t ht
    exact ⟨h1, rfl, h2, cs, e, (0, 0), qq w _, h3⟩
  · obtain ⟨v, hv, _⟩ := hr _ x (xr hk h1 h2)
    refine ⟨?_, by simpa using hno _ (hlt i row j x h1 h2)⟩
    simp only [Nat.zero_add]
    rw [World.cell?_alloc_new]
    simp [hv]
  · obtain ⟨v, hv, _, hv1⟩ := hr _ x (xr hk h1 h2)
    have : cs.getD (i * k + j) undef = v := by simp [hv]
    simp only [this]
    exact hv1
  · obtain ⟨v, hv, hvr, _⟩ := hr _ x (xr hk h1 h2)
    have : cs.getD (i * k + j) undef = v := by simp [hv]
    simp only [this]
    exact hvr.keep hT
theorem zen (w : World) (o : Obj) (M Oth : Nat -> Nat -> Prop) (top : Nat) : Keeps w (fun b o => M b o \/ Oth b o) (w.alloc o) (fun b o => addT M w.heap.size top b o \/ Oth b o) where
  cell := (q9 w o M Oth).cell
  out b o' c hc hT hT' := by
    rcases hT' with (h | h) | h
    · exact hT (.inl h)
    · have := zec hc; omega
    · exact hT (.inr h)
  shp := (q9 w o M Oth).shp
theorem zgd (z : Array Value) (n : Nat) (hz : 0 < z.size) : ((Array.range (n * z.size)).map (fun i => z[i % z.size]!)).toList = (List.replicate n z.toList).flatten := by
  induction n with
  | zero => simp
  | succ n ih =>
    rw [List.replicate_succ', List.flatten_append, <- ih]
    simp only [Array.toList_map, Array.toList_range, Nat.add_mul, Nat.one_mul, List.range_add, List.map_append, List.map_map, List.flatten_cons, List.flatten_nil, List.append_nil]
    congr 1
    apply List.ext_getElem?
    intro i
    simp only [List.getElem?_map]
    by_cases hi : i < z.size
    · simp [hi, Nat.mod_eq_of_lt hi]
    · simp [hi]
theorem zca {o : Oper} {t : TypeId} {n : Nat} {parts : Array (Nat × Operand)} (ho : o.op = .buildSlice t n parts) (hI : zw P c.I)
    (h : optK (c.I t) fun i => optK o.dst fun d => bif Nat.blt d c.n then (match i.ty with
      | .slice e => optK (c.I e) fun ie => optK (zba ie.size n (List.replicate n (qu ie)) (parts.toList.map fun p => (p.1, A.ev p.2))) fun rows =>
        bif rows.flatten.all AV.one then n * ie.size <= 16777216 /\ (match rows with
          | [] => K (A.put d (.av .emp)) st
          | _ :: _ => bif c.G.contains d then (bif c.G.contains (d + 1000000) then ∀ b, Fresh st b -> K (A.put d (.av (.s (.slice (some ⟨b, 0, none⟩) rows.length rows.length)))) (st.setObj b (.cells rows.flatten))
              else ∀ b, Fresh st b -> K (A.put d (.av (.lst ie.size rows (some b)))) (st.setTok b (some (rows.length * ie.size))))
            else K (A.put d (.av (.lst ie.size rows none))) st) else False
      | _ => False) else False) : AOp P c.n o K A st := by
  obtain ⟨i, hi, h⟩ := ze h
  obtain ⟨d, hd, h⟩ := ze h
  obtain ⟨hlt, h⟩ := qs h
  split at h
  · rename_i e hty
    obtain ⟨ie, hie, h⟩ := ze h
    replace h := ze h
    obtain ⟨rows, hrows, h⟩ := h
    cases hone : rows.flatten.all AV.one with
    | false => rw [hone] at h; exact h.elim
    | true =>
    rw [hone] at h
    simp only [cond_true] at h
    obtain ⟨hroom, hK⟩ := h
    rintro Oth M a w ⟨β, sim⟩
    obtain ⟨z, hz1, hz2⟩ := zcx (hI _ _ hie) w
    have hzs : z.cells.size = ie.size := by rw [<- (hI _ _ hie).zsz, <- hz2]; simp
    obtain ⟨hf1, hf2, hf3⟩ := zmb _ _ rows (fun row hr => by
      rw [List.eq_of_mem_replicate hr]
      simp [qu, (hI _ _ hie).zsz]) (by simp) hrows
    let base : Array Value := (Array.range (n * ie.size)).map (fun i => (if n * ie.size = 0 then #[] else z.cells)[i % (if n * ie.size = 0 then #[] else z.cells).size]!)
    have hbase : Reads w (fun b o => M b o \/ Oth b o) (List.replicate n (qu ie)).flatten base.toList := by
      by_cases hn : n = 0
      · subst hn
        simpa [base] using (Reads.nil (w := w) (T := fun b o => M b o \/ Oth b o))
      · by_cases hs0 : ie.size = 0
        · have e1 : base.toList = [] := by simp [base, hs0]
          have e2 : (List.replicate n (qu ie)).flatten = [] := by
            have : qu ie = [] := List.eq_nil_of_length_eq_zero (by simp [qu, (hI _ _ hie).zsz, hs0])
            rw [this]
            simp
          rw [e1, e2]
          exact Reads.nil
        have hne : ¬ n * ie.size = 0 := by
          intro h0
          rcases Nat.mul_eq_zero.1 h0 with h | h <;> omega
        have : base.toList = (List.replicate n z.cells.toList).flatten := by
          simp only [base, hne, if_false]
          rw [<- hzs]
          exact zgd z.cells n (by omega)
        rw [this, hz2]
        have e : (List.replicate n (qu ie)).flatten = (List.replicate n ie.zero).flatten.map AV.s := by
          rw [List.map_flatten]
          simp [qu]
        rw [e]
        exact Reads.map_s _
    have hparts : ((parts.toList.map fun p => (p.1, A.ev p.2))).length = (parts.map fun (p : Nat × Operand) => (p.1, a.eval p.2)).toList.length ∧
        ∀ (i : Nat) (p : Nat × LV) (v : Nat × Value), (parts.toList.map fun p => (p.1, A.ev p.2))[i]? = some p -> (parts.map fun (p : Nat × Operand) => (p.1, a.eval p.2)).toList[i]? = some v -> p.1 = v.1 /\ LRel w (fun b o => M b o \/ Oth b o) β p.2 v.2 := by
      refine ⟨by simp, fun i p v hp hv => ?_⟩
      rw [Array.toList_map, List.getElem?_map] at hv
      rw [List.getElem?_map] at hp
      cases hq : parts.toList[i]? with
      | none => rw [hq] at hp; cases hp
      | some q =>
        rw [hq] at hp hv
        simp at hp hv
        subst hp hv
        exact ⟨rfl, sim.ev _⟩
    obtain ⟨ds, hds1, hds2⟩ := zd8 (β := β) (place := fun i => some (i * ie.size, ie.size)) _ _ _ base rows.flatten hparts.1 hparts.2 hbase hf1
    have hrun : (execOp a.eval o).run P w = .ok (.value (.slice (some ⟨w.heap.size, 0, none⟩) n n)) (w.alloc (.cells ds e)) := by
      have h1 : ¬ n * ie.size > 2 ^ 24 := by omega
      simp only [execOp, ho, Instr.buildSlice, Sem.run_bind, zn (yb (hI _ _ hi) hty), Result.andThen_ok, zu (hI _ _ hie), h1, if_false]
      by_cases hn0 : n * ie.size = 0
      · have h2 : Instr.fill (fun i => some (i * ie.size, ie.size)) (Array.map (fun x => (#[] : Array Value)[x % (#[] : Array Value).size]!) (Array.range (n * ie.size))) (Array.map (fun (x : Nat × Operand) => (x.1, a.eval x.2)) parts).toList = some ds := by
          have := hds1
          simp only [base, hn0, if_true] at this ⊢
          exact this
        rw [if_pos hn0]
        simp only [Sem.run_bind, Sem.run_pure, Result.andThen_ok, h2]
        simp [newRow]
      · have h2 : Instr.fill (fun i => some (i * ie.size, ie.size)) (Array.map (fun x => z.cells[x % z.cells.size]!) (Array.range (n * ie.size))) (Array.map (fun (x : Nat × Operand) => (x.1, a.eval x.2)) parts).toList = some ds := by
          have := hds1
          simp only [base, hn0, if_false] at this ⊢
          exact this
        rw [if_neg hn0]
        simp only [Sem.run_bind, hz1, Sem.run_pure, Result.andThen_ok, h2]
        simp [newRow]
    unfold Oper.wp
    rw [hrun, Oper.upon_value, hd]
    have hlen := yj hf2
    have hdsz : ds.size = n * ie.size := by
      have := hds2.1
      rw [hlen, hf3] at this
      simpa using this.symm
    have hread : ∀ (i : Nat) (x : AV), rows.flatten[i]? = some x -> ∃ v, ds[i]? = some v /\ VRel w (fun b o => M b o \/ Oth b o) x v /\ z8 v = true := fun i x hx => by
      obtain ⟨v, hv, hvr⟩ := hds2.getElem? hx
      exact ⟨v, by simpa using hv, hvr, zok hvr (List.all_eq_true.1 hone _ (List.mem_of_getElem? hx))⟩
    have hnoT : ∀ o, ¬ (M w.heap.size o \/ Oth w.heap.size o) := fun o h => by
      rcases h with h | h
      · have := sim.sto.mlt _ _ h; omega
      · have := sim.sto.olt _ _ h; omega
    subst hf3
    cases rows with
    | nil => exact ⟨_, _, M, hK, ⟨β, (sim.grow (Grow.alloc w _)).put hlt (x := .av .emp) (VRel.emp _ (fun x h => by cases h; rfl))⟩, (Grow.alloc w _).chg M⟩
    | cons r rs =>
      cases hg : c.G.contains d with
      | true =>
        cases hg2 : c.G.contains (d + 1000000) with
        | true =>
          simp only [hg, hg2, cond_true] at hK
          refine ⟨_, _, _, hK w.heap.size (sim.sto.fresh (Nat.le_refl _)), ⟨β, (sim.newObj (.cells ds e) (.cells (r :: rs).flatten) (j3 w e M Oth hds2)).put hlt (VRel.s _)⟩, vf _ _ _⟩
        | false =>
        simp only [hg, hg2, cond_true, cond_false] at hK
        refine ⟨_, _, _, hK w.heap.size (sim.sto.fresh (Nat.le_refl _)), ⟨β, (sim.newTok ds e ((r :: rs).length * ie.size) (by omega)).put hlt ?_⟩, zi5 _ _ _ _⟩
        refine zcb hf2 hread (Nat.le_refl _) _ (zen _ _ _ _ _) (fun o ho hh => ?_) (fun t ht => ?_)
        · rcases hh with (h | h) | h
          · exact hnoT o (.inl h)
          · omega
          · exact hnoT o (.inr h)
        · cases ht; exact ⟨rfl, by simp, by omega⟩
      | false =>
        simp only [hg, cond_false] at hK
        refine ⟨_, _, M, hK, ⟨β, (sim.grow (Grow.alloc w _)).put hlt ?_⟩, (Grow.alloc w _).chg M⟩
        exact zcb hf2 hread (Nat.le_refl _) _ ((Grow.alloc w _).keeps _) (fun o ho hh => hnoT o hh) (fun t ht => by cases ht)
  · exact h.elim
end
end Go.V
namespace Go.V
section
variable {P : Program} {c : Cfg} {K : Fr -> Store -> Prop} {A : Fr} {st : Store}
theorem zoa (n : Nat) (w : World) : (askRoom n).run P w = .ok () w := by
  unfold askRoom
  split <;> simp [mark, Sem.run]
theorem zhj (need old e : Nat) (w : World) : ∃ n, need <= n /\ (need <= 140737488355328 -> n <= 9223372036854775807) /\ (choose (.appendCap need old e)).run P w = .ok n w.drew := by
  refine ⟨need + w.tape w.drawn (.appendCap need old e) % (2 ^ 63 - need), Nat.le_add_right _ _, fun h => ?_, rfl⟩
  have := Nat.mod_lt (w.tape w.drawn (.appendCap need old e)) (show 0 < 2 ^ 63 - need by omega)
  omega
structure AppArgs (P : Program) (c : Cfg) (argTypes : Array TypeId) (args : Array Value) (t e : TypeId) (ie : TI) (base : Option Addr) (sLen sCap : Nat) (xv : Value) : Prop where
  ht : argTypes[0]? = some t
  ht1 : ∃ t1 e1, argTypes[1]? = some t1 /\ P.underlying t1 = some (.slice e1)
  hty : P.underlying t = some (.slice e)
  hie : TIok P e ie
  h0 : args[0]? = some (.slice base sLen sCap)
  h1 : args[1]? = some xv
theorem jv {argTypes : Array TypeId} {args : Array Value} {t e : TypeId} {ie : TI} {base : Option Addr} {sLen sCap n : Nat} {xv : Value} (ty : TypeId) (h : AppArgs P c argTypes args t e ie base sLen sCap xv) {w : World} {old new : Array Value}
    (hlen : (Builtin.lenOf xv).run P w = .ok n w) (hnew : (Builtin.firstCells ie.size n xv).run P w.drew = .ok new w.drew) (hold : (Builtin.firstCells ie.size sLen (.slice base sLen sCap)).run P w.drew = .ok old w.drew)
    (hneed : sCap < sLen + n) (hroom : room (sLen + n) ie.bytes) :
    ∃ newCap rest, sLen + n <= newCap /\ newCap <= 9223372036854775807 /\ rest.size = (newCap - (sLen + n)) * ie.size ∧
      (Builtin.append_ argTypes ty args).run P w = .ok (.slice (some ⟨w.heap.size, 0, none⟩) (sLen + n) newCap) (w.drew.alloc (.cells (old ++ new ++ rest) e)) := by
  obtain ⟨newCap, hcap, hcap2, hch⟩ := zhj (P := P) (sLen + n) sCap e w
  obtain ⟨z, hz1, hz2⟩ := zcx h.hie w.drew
  obtain ⟨t1, e1, ht1, hu1⟩ := h.ht1
  obtain ⟨inf, hinf, hsz, hby, _⟩ := h.hie.info
  have hzs : z.cells.size = ie.size := by rw [<- h.hie.zsz, <- hz2]; simp
  refine ⟨newCap, Builtin.zeroCells z.cells (newCap - (sLen + n)), hcap, hcap2 hroom.2, by simp [Builtin.zeroCells, hzs], ?_⟩
  obtain ⟨hr1, hr2⟩ := hroom
  have hc1 : ¬ (sLen + n <= sCap) := by omega
  have hc2 : ¬ (((sLen + n : Nat) : Int) > IntKind.i64.max) := by
    simp [IntKind.max, IntKind.signed, IntKind.bits]
    omega
  have hc3 : ¬ (Builtin.nextslicecap (sLen + n) sCap * ie.bytes > 2 ^ 48) := by
    have h1 := nextslicecap_le hneed
    have h2 : Builtin.nextslicecap (sLen + n) sCap * ie.bytes <= 2 * (sLen + n) * ie.bytes := Nat.mul_le_mul_right _ h1
    rw [Nat.mul_assoc] at h2
    omega
  have hti : ∀ w : World, (typeInfo e).run P w = .ok inf w := fun w => by simp [typeInfo, hinf]
  simp only [Builtin.append_, h.ht, h.h0, h.h1, Sem.run_bind, zn h.hty, Result.andThen_ok, zu h.hie, ht1, zn hu1, Sem.run_pure]
  simp only [Bool.false_eq_true, if_false, hlen, Result.andThen_ok, hc1, hc2, false_and, Sem.run_bind, hti, hby, hc3, hch, zoa, hold, hnew, Bool.not_false, if_true, hz1]
  simp [newRow]
  rfl
theorem vh {argTypes : Array TypeId} {args : Array Value} {t e : TypeId} {ie : TI} {base : Option Addr} {sLen sCap n : Nat} {xv : Value} (ty : TypeId) (h : AppArgs P c argTypes args t e ie base sLen sCap xv) {w w' : World} {new : Array Value}
    (hlen : (Builtin.lenOf xv).run P w = .ok n w) (hnew : (Builtin.firstCells ie.size n xv).run P w = .ok new w)
    (hneed : sLen + n <= sCap) (hst : ∀ a, base = some a -> (storeCells (a.add (sLen * ie.size)) new.toList).run P w = .ok () w') (hno : base = none -> w' = w) :
    (Builtin.append_ argTypes ty args).run P w = .ok (.slice base (sLen + n) sCap) w' := by
  obtain ⟨t1, e1, ht1, hu1⟩ := h.ht1
  simp only [Builtin.append_, h.ht, h.h0, h.h1, Sem.run_bind, zn h.hty, Result.andThen_ok, zu h.hie, ht1, zn hu1, Sem.run_pure]
  simp only [Bool.false_eq_true, if_false, hlen, Result.andThen_ok, hneed, if_true, Bool.not_false, Sem.run_bind, hnew]
  cases base with
  | none => rw [hno rfl]; simp
  | some a => simp [hst a rfl]
theorem zah {α : Type} {k : Nat} : ∀ {rows : List (List α)} (_ : ∀ row ∈ rows, row.length = k) {p : Nat} {x : α}, rows.flatten[p]? = some x -> ∃ (i j : Nat) (row : List α), p = i * k + j /\ rows[i]? = some row /\ row[j]? = some x := by
  intro rows
  induction rows with
  | nil => intro _ p x h; simp at h
  | cons r rows ih =>
    intro hk p x h
    have hr : r.length = k := hk r (by simp)
    simp only [List.flatten_cons] at h
    by_cases hp : p < r.length
    · rw [List.getElem?_append_left hp] at h
      exact ⟨0, p, r, by omega, rfl, h⟩
    · rw [List.getElem?_append_right (by omega)] at h
      obtain ⟨i, j, row, h1, h2, h3⟩ := ih (fun row h => hk row (by simp [h])) h
      exact ⟨i + 1, j, row, by rw [Nat.add_mul]; omega, by simpa using h2, h3⟩
theorem zda {w w' : World} (h : w'.heap = w.heap) (a : Addr) : w'.cell? a = w.cell? a := by simp only [World.cell?, h]
/-- The source of an append. -/
theorem ks {w : World} {T : Nat -> Nat -> Prop} {β : Nat -> Nat} {k : Nat} {x : LV} {xv : Value} {rows : List (List AV)} (hx : LRel w T β x xv) (h : qf k x = some rows) :
    (Builtin.lenOf xv).run P w = .ok rows.length w /\ (∀ row ∈ rows, row.length = k) ∧
      ∃ new : Array Value, Reads w T rows.flatten new.toList /\ (∀ v ∈ new.toList, z8 v = true) /\ new.size = rows.length * k /\ ∀ w', w'.heap = w.heap -> (Builtin.firstCells k rows.length xv).run P w' = .ok new w' := by
  unfold qf at h
  split at h
  · rename_i k' rows' tok
    cases hb : Nat.beq k' k with
    | false => rw [hb] at h; cases h
    | true =>
      rw [hb] at h
      simp only [cond_true, Option.some.injEq] at h
      subst h
      obtain rfl := (yp _ _).1 hb
      rcases zcm hx with ⟨ad, cap, hv, h2, _, rfl⟩ | ⟨b, off, cap, hv, hcap, hk, f, hf⟩
      · subst h2
        exact ⟨by simp [hv, Builtin.lenOf], by simp, #[], Reads.nil, by simp, by simp, fun w' _ => by cases ad <;> simp [hv, Builtin.firstCells, loadCells, loadCellsFrom]⟩
      · have hk' : ∀ row ∈ rows', row.length = k' := fun row hr => by
          obtain ⟨i, hi⟩ := List.mem_iff_getElem?.1 hr
          exact hk i row hi
        refine ⟨by simp [hv, Builtin.lenOf], hk', ((List.range' 0 (rows'.length * k')).map f).toArray, ⟨?_, ?_⟩, fun v hv => ?_, by simp, fun w' hw => ?_⟩
        · rw [yj hk']; simp
        · intro p x y hp hy
          obtain ⟨i, j, row, h1, h2, h3⟩ := zah hk' hp
          have hlt := (List.getElem?_eq_some_iff.1 hp).1
          rw [yj hk'] at hlt
          simp [hlt] at hy
          subst hy
          subst h1
          exact (hf i row j x h2 h3).2.2.1
        · simp only [List.mem_map] at hv
          obtain ⟨p, hp, rfl⟩ := hv
          have hlt : p < rows'.flatten.length := by rw [yj hk']; simpa using hp
          obtain ⟨i, j, row, h1, h2, h3⟩ := zah hk' (List.getElem?_eq_getElem hlt)
          subst h1
          exact (hf i row j _ h2 h3).2.2.2
        · have := yu (P := P) ⟨b, off, none⟩ w' f (rows'.length * k') 0 #[] (fun p _ hp => by
            rw [x5, zda hw]
            have hlt : p < rows'.flatten.length := by rw [yj hk']; omega
            obtain ⟨i, j, row, h1, h2, h3⟩ := zah hk' (List.getElem?_eq_getElem hlt)
            subst h1
            exact (hf i row j _ h2 h3).1)
          simp only [hv, Builtin.firstCells, loadCells]
          simpa using this
  · simp at h
    subst h
    have hv : xv = .slice none 0 _ := VRel.eq_s hx
    exact ⟨by simp [hv, Builtin.lenOf], by simp, #[], Reads.nil, by simp, by simp, fun w' _ => by simp [hv, Builtin.firstCells]⟩
  · simp at h
    subst h
    have hv : ∃ a, xv = .slice a 0 0 := by
      cases hx with
      | emp a h => exact ⟨a, rfl⟩
    obtain ⟨a, hv⟩ := hv
    refine ⟨by simp [hv, Builtin.lenOf], by simp, #[], Reads.nil, by simp, by simp, fun w' _ => ?_⟩
    cases a with
    | none => simp [hv, Builtin.firstCells]
    | some a => simp [hv, Builtin.firstCells, loadCells, loadCellsFrom]
  · cases h
theorem Owned.nil (k : Nat) (st : Store) : Owned k st .emp [] st := .inl ⟨rfl, rfl, rfl⟩
/-- An append that makes a new block. -/
theorem SimB.appendNew {n : Nat} {Oth M : Nat -> Nat -> Prop} {β : Nat -> Nat} {a : Act} {w : World} (sim : SimB n Oth β A st M a w) {rows : List (List AV)} {k : Nat} (hk : ∀ row ∈ rows, row.length = k) (hne : rows ≠ [])
    {cs : Array Value} {e : TypeId} {cap : Nat} (hr : ∀ (i : Nat) (x : AV), rows.flatten[i]? = some x -> ∃ v, cs[i]? = some v /\ VRel w (fun b o => M b o \/ Oth b o) x v /\ z8 v = true) (hcap : rows.length <= cap) (hsz : cap * k <= cs.size) :
    ∃ st' M', Owned k st (.lst k rows (some w.heap.size)) rows st' /\ SimB n Oth β A st' M' a (w.drew.alloc (.cells cs e)) /\ Chg M w M' (w.drew.alloc (.cells cs e)) ∧
      VRel (w.drew.alloc (.cells cs e)) (fun b o => M' b o \/ Oth b o) (.lst k rows (some w.heap.size)) (.slice (some ⟨w.heap.size, 0, none⟩) rows.length cap) := by
  have hle : rows.length * k <= cap * k := Nat.mul_le_mul_right k hcap
  refine ⟨_, _, .inr ⟨hne, w.heap.size, sim.sto.fresh (Nat.le_refl _), rfl, rfl⟩, (sim.grow (Grow.drew w)).newTok cs e (rows.length * k) (by omega), ((Grow.drew w).chg M).trans (zi5 w.drew _ M _), ?_⟩
  refine zcb (w := w.drew) (M := M) (Oth := Oth) hk (fun i x hx => ?_) hcap _ (zen w.drew _ _ _ _) (fun o ho hh => ?_) (fun t ht => ?_)
  · obtain ⟨v, h1, h2, h3⟩ := hr i x hx
    exact ⟨v, h1, h2.keep ((Grow.drew w).keeps _), h3⟩
  · rcases hh with (h | h) | h
    · have := sim.sto.mlt _ _ h; exact absurd this (Nat.lt_irrefl _)
    · omega
    · have := sim.sto.olt _ _ h; exact absurd this (Nat.lt_irrefl _)
  · cases ht; exact ⟨rfl, hne, hsz⟩
theorem getElem?_append3 {old new rest : Array Value} {i : Nat} {v : Value} (h : (old.toList ++ new.toList)[i]? = some v) : (old ++ new ++ rest)[i]? = some v := by
  have hlt := (List.getElem?_eq_some_iff.1 h).1
  rw [<- Array.getElem?_toList, Array.toList_append, Array.toList_append, List.getElem?_append_left hlt]
  exact h
theorem zyo {w : World} {T : Nat -> Nat -> Prop} {k : Nat} {rows : List (List AV)} {b : Nat} {base : Option Addr} {sLen sCap : Nat} (h : VRel w T (.lst k rows (some b)) (.slice base sLen sCap)) :
    base = some ⟨b, 0, none⟩ /\ sLen = rows.length /\ rows.length <= sCap /\ rows ≠ [] /\ (∀ row ∈ rows, row.length = k) /\ (∃ c e fr, w.heap[b]? = some (.cells c e fr) /\ sCap * k <= c.size) /\ ∃ f : Nat -> Value,
      (∀ (i : Nat) (row : List AV) (j : Nat) (x : AV), rows[i]? = some row -> row[j]? = some x -> w.cell? ⟨b, i * k + j, none⟩ = some (f (i * k + j)) /\ ¬ T b (i * k + j) /\ VRel w T x (f (i * k + j)) /\ z8 (f (i * k + j)) = true) := by
  cases h with
  | lst _ _ b' off cap _ f hcap hk htok hc h0 hx =>
    obtain ⟨rfl, rfl, h1, h2⟩ := htok b rfl
    refine ⟨rfl, rfl, hcap, h1, fun row hr => ?_, h2, f, fun i row j x h3 h4 => ?_⟩
    · obtain ⟨i, hi⟩ := List.mem_iff_getElem?.1 hr
      exact hk i row hi
    · have := hc i row j x h3 h4
      simp only [Nat.zero_add] at this
      exact ⟨this.1, this.2, hx i row j x h3 h4, h0 i row j x h3 h4⟩
/-- The whole of an append: to what is empty, or to a slice that nobody else may append to. -/
theorem zbl {n : Nat} {Oth M : Nat -> Nat -> Prop} {β : Nat -> Nat} {a : Act} {w : World} (sim : SimB n Oth β A st M a w) {argTypes : Array TypeId} {args : Array Value} {t e : TypeId} {ie : TI} {base : Option Addr} {sLen sCap : Nat} {xv : Value} (ty : TypeId)
    (h : AppArgs P c argTypes args t e ie base sLen sCap xv) {x : LV} (hx : LRel w (fun b o => M b o \/ Oth b o) β x xv) {rows' : List (List AV)} (hs : qf ie.size x = some rows') :
    ((sLen = 0 /\ sCap = 0 /\ ∀ x, base = some x -> x.spot = none) -> room rows'.length ie.bytes -> ∃ v w' r st' M', (Builtin.append_ argTypes ty args).run P w = .ok v w' /\ Owned ie.size st r rows' st' /\ SimB n Oth β A st' M' a w' /\ Chg M w M' w' /\ VRel w' (fun b o => M' b o \/ Oth b o) r v) ∧
    (∀ rows b, 0 < ie.size -> VRel w (fun b o => M b o \/ Oth b o) (.lst ie.size rows (some b)) (.slice base sLen sCap) -> st.tok b = some (rows.length * ie.size) -> room (rows ++ rows').length ie.bytes ->
      ∃ v w' r st' M', (Builtin.append_ argTypes ty args).run P w = .ok v w' /\ Owned ie.size (st.setTok b none) r (rows ++ rows') st' /\ SimB n Oth β A st' M' a w' /\ Chg M w M' w' /\ VRel w' (fun b o => M' b o \/ Oth b o) r v) := by
  obtain ⟨hlen, hk', new, hnr, hone, hns, hnew⟩ := ks (P := P) hx hs
  constructor
  · rintro ⟨rfl, rfl, hspot⟩ hroom
    by_cases hn : rows' = []
    · subst hn
      refine ⟨_, w, .emp, st, M, vh ty h (w' := w) hlen (hnew w rfl) (by simp) (fun a ha => ?_) (fun _ => rfl), Owned.nil _ _, sim, Chg.refl M w, VRel.emp _ hspot⟩
      have : new.toList = [] := by
        apply List.eq_nil_of_length_eq_zero
        rw [Array.length_toList, hns]
        simp
      rw [this]
      simp [storeCells]
    · have hpos : 0 < rows'.length := List.length_pos_iff.2 hn
      obtain ⟨newCap, rest, h1, _, h2, h3⟩ := jv ty h (old := #[]) hlen (hnew w.drew rfl) (by cases base <;> simp [Builtin.firstCells, loadCells, loadCellsFrom]) (by omega) (by simpa using hroom)
      simp only [Nat.zero_add] at h1 h2 h3
      obtain ⟨st', M', ho, hsim, hchg, hv⟩ := sim.appendNew (cs := #[] ++ new ++ rest) (e := e) (cap := newCap) hk' hn (fun i x hx => by
        obtain ⟨v, hv, hvr⟩ := hnr.getElem? hx
        exact ⟨v, getElem?_append3 (by simpa using hv), hvr, hone v (List.mem_of_getElem? hv)⟩) h1 (by
          simp only [Array.size_append, hns, h2, Array.size_empty]
          have := Nat.mul_le_mul_right ie.size h1
          rw [Nat.sub_mul]
          omega)
      exact ⟨_, _, _, st', M', h3, ho, hsim, hchg, hv⟩
  · intro rows b hpos hsv htb hroom
    obtain ⟨rfl, rfl, hcap, hne, hk, ⟨c0, e0, fr0, hblk, hcsz⟩, f, hf⟩ := zyo hsv
    have hkk : ∀ row ∈ rows ++ rows', row.length = ie.size := fun row hr => by
      rcases List.mem_append.1 hr with h | h
      · exact hk row h
      · exact hk' row h
    obtain ⟨c1, e1, fr1, hb1, hunf, htop, hMtop⟩ := sim.sto.tok b _ htb
    rw [hblk] at hb1
    cases hb1
    -- the first cell
    have hfirst : ¬ M b 0 := by
      cases rows with
      | nil => exact absurd rfl hne
      | cons r rs =>
        have hr : r.length = ie.size := hk r (by simp)
        cases r with
        | nil => simp at hr; omega
        | cons y ys =>
          have := (hf 0 (y :: ys) 0 y rfl rfl).2.1
          simp at this
          exact this.1
    have hold : ∀ p, p < rows.length * ie.size -> w.cell? ⟨b, p, none⟩ = some (f p) /\ ¬ (M b p \/ Oth b p) /\ z8 (f p) = true /\ ∀ x, rows.flatten[p]? = some x -> VRel w (fun b o => M b o \/ Oth b o) x (f p) := fun p hp => by
      have hlt : p < rows.flatten.length := by rw [yj hk]; omega
      obtain ⟨i, j, row, h1, h2, h3⟩ := zah hk (List.getElem?_eq_getElem hlt)
      have := hf i row j _ h2 h3
      rw [<- h1] at this
      refine ⟨this.1, this.2.1, this.2.2.2, fun x hx => ?_⟩
      rw [List.getElem?_eq_getElem hlt] at hx
      cases hx
      exact this.2.2.1
    have holdR : Reads w (fun b o => M b o \/ Oth b o) rows.flatten ((List.range' 0 (rows.length * ie.size)).map f) := by
      refine ⟨by rw [yj hk]; simp, fun p x y hp hy => ?_⟩
      have hlt := (List.getElem?_eq_some_iff.1 hp).1
      rw [yj hk] at hlt
      simp [hlt] at hy
      subst hy
      exact (hold p hlt).2.2.2 x hp
    by_cases hstay : rows.length + rows'.length <= sCap
    · have hle : (rows.length + rows'.length) * ie.size <= sCap * ie.size := Nat.mul_le_mul_right _ hstay
      have hdist : (rows.length + rows'.length) * ie.size = rows.length * ie.size + rows'.length * ie.size := Nat.add_mul _ _ _
      have h9 : new.toList.length = rows'.length * ie.size := by simpa using hns
      have h10 : rows.length * ie.size + 0 + new.toList.length <= c0.size := by omega
      obtain ⟨w', hrun, hw⟩ := qo (P := P) w b (rows.length * ie.size) new.toList 0 w c0 e0 fr0 hblk hunf h10 hone
      simp only [Nat.add_zero] at hw
      have happ := vh (P := P) ty h (w' := w') hlen (hnew w rfl) hstay (fun a ha => by cases ha; rw [x5]; simpa using hrun) (fun hh => by cases hh)
      let M' : Nat -> Nat -> Prop := fun b' o => M b' o /\ ¬ (b' = b /\ o < (rows.length + rows'.length) * ie.size)
      obtain ⟨c', hblk', hl', hs'⟩ := hw.blk _ _ _ hblk
      have hcellb : ∀ o, o < rows.length * ie.size -> w'.cell? ⟨b, o, none⟩ = w.cell? ⟨b, o, none⟩ := fun o ho => by
        simp only [World.cell?, hblk', hblk]
        rw [<- Array.getElem?_toList, hl', List.append_assoc, List.getElem?_append_left (by simp; omega), List.getElem?_take]
        simp [ho]
      have hcelln : ∀ j v, new[j]? = some v -> w'.cell? ⟨b, rows.length * ie.size + j, none⟩ = some v := fun j v hv => by
        have hj := (Array.getElem?_eq_some_iff.1 hv).1
        simp only [World.cell?, hblk']
        have hm : min (rows.length * ie.size) c0.size = rows.length * ie.size := by omega
        have : c'.toList[rows.length * ie.size + j]? = some v := by
          rw [hl', List.append_assoc, List.getElem?_append_right (by simp; omega)]
          simp only [List.length_take, Array.length_toList, hm]
          rw [Nat.add_sub_cancel_left, List.getElem?_append_left (by simpa using hj)]
          simpa using hv
        simpa using this
      have hkeep : Keeps w (fun b o => M b o \/ Oth b o) w' (fun b o => M' b o \/ Oth b o) :=
        { cell := fun b' o' v hv hT => by
            by_cases he : b' = b
            · subst he
              have ho : o' < rows.length * ie.size := by
                rcases Nat.lt_or_ge o' (rows.length * ie.size) with h | h
                · exact h
                · exact absurd (hMtop o' h) fun h => hT (.inl h)
              rw [hcellb o' ho]
              exact hv
            · rw [qc (hw.other b' he)]
              exact hv
          out := fun b' o' v hv hT hT' => hT (hT'.imp (fun h => h.1) id)
          shp := fun b' c e fr hc => by
            by_cases he : b' = b
            · subst he
              rw [hblk] at hc
              cases hc
              exact ⟨c', fr0, hblk', hs'⟩
            · exact ⟨c, fr, by rw [hw.other b' he]; exact hc, rfl⟩ }
      have hobjb : st.obj b = none := by
        cases ho : st.obj b with
        | none => rfl
        | some x => exact absurd ((sim.sto.obj b x ho).2 0) hfirst
      have hbxb : ∀ k l, A.bx k = some l -> β k ≠ b := fun k l hl => sim.sep k b (by rw [hl]; simp) (.inr (by rw [htb]; simp))
      have hsim : SimB n Oth β A ((st.setTok b none).setTok b (some ((rows ++ rows').length * ie.size))) M' a w' :=
        { tsz := sim.tsz
          dfr := sim.dfr.step fun D _ _ h2 => ⟨hw.other D fun e => (h2 _).1 (e ▸ hMtop _ (Nat.le_refl _)), fun o hm => (h2 o).1 hm.1⟩
          tm := fun i => (sim.tm i).keep hkeep
          bx := fun k l hl => ⟨(sim.bx k l hl).1.same hkeep (hw.other _ (hbxb k l hl)), fun o => ⟨(sim.bx k l hl).2 o, fun hh => hbxb k l hl hh.1⟩⟩
          inj := sim.inj
          sep := fun k b' hk hb => by
            refine sim.sep k b' hk ?_
            by_cases he : b' = b
            · subst he; exact .inr (by rw [htb]; simp)
            · simpa [Store.setTok, nbeq he] using hb
          sto :=
            { obj := fun b' x hx => by
                have hx' : st.obj b' = some x := hx
                have he : b' ≠ b := fun e => by rw [e, hobjb] at hx'; cases hx'
                exact ⟨ObjRel.same (sim.sto.obj b' x hx').1 hkeep (hw.other b' he), fun o => ⟨(sim.sto.obj b' x hx').2 o, fun hh => he hh.1⟩⟩
              tok := fun b' top ht => by
                by_cases he : b' = b
                · subst he
                  simp only [Store.setTok, Nat.beq_refl, cond_true, Option.some.injEq] at ht
                  subst ht
                  refine ⟨c', e0, fr0, hblk', by rw [hs']; exact hunf, ?_, fun o ho => ⟨hMtop o ?_, fun hh => ?_⟩⟩
                  · rw [hs', List.length_append]; omega
                  · rw [List.length_append] at ho; omega
                  · rw [List.length_append] at ho; omega
                · simp only [Store.setTok, nbeq he, cond_false] at ht
                  obtain ⟨c, e, fr, h1, h2, h3, h4⟩ := sim.sto.tok b' top ht
                  exact ⟨c, e, fr, by rw [hw.other b' he]; exact h1, h2, h3, fun o ho => ⟨h4 o ho, fun hh => he hh.1⟩⟩
              mlt := fun b' o hm => by rw [hw.size]; exact sim.sto.mlt b' o hm.1
              olt := fun b' o hm => by rw [hw.size]; exact sim.sto.olt b' o hm
              dis := fun b' o hO hM => sim.sto.dis b' o hO hM.1 } }
      have hchg : Chg M w M' w' :=
        { size := by rw [hw.size]; exact Nat.le_refl _
          keep := fun b' o hb hm => by
            by_cases he : b' = b
            · subst he
              have ho : o < rows.length * ie.size := by
                rcases Nat.lt_or_ge o (rows.length * ie.size) with h | h
                · exact h
                · exact absurd (hMtop o h) hm
              exact hcellb o ho
            · exact qc (hw.other b' he) o
          blk := fun b' hb hm => hw.other b' fun e => hm (rows.length * ie.size) (by subst e; exact hMtop _ (Nat.le_refl _))
          shp := hkeep.shp
          sub := fun b' o hm _ => hm.1
          tape := hw.tape
          os := hw.os
          output := hw.output }
      refine ⟨_, w', .lst ie.size (rows ++ rows') (some b), _, M', happ, .inr ⟨by simp [hne], b, ⟨hobjb, by simp [Store.setTok]⟩, rfl, rfl⟩, hsim, hchg, ?_⟩
      rw [<- List.length_append]
      have hget : ∀ p x, (rows ++ rows').flatten[p]? = some x -> ∃ v, w'.cell? ⟨b, p, none⟩ = some v /\ ¬ (M' b p \/ Oth b p) /\ z8 v = true /\ VRel w' (fun b o => M' b o \/ Oth b o) x v := fun p x hp => by
        rw [List.flatten_append] at hp
        by_cases hlt : p < rows.length * ie.size
        · rw [List.getElem?_append_left (by rw [yj hk]; exact hlt)] at hp
          obtain ⟨h1, h2, h4, h3⟩ := hold p hlt
          exact ⟨f p, by rw [hcellb p hlt]; exact h1, fun hh => h2 (hh.imp (fun h => h.1) id), h4, (h3 x hp).keep hkeep⟩
        · rw [List.getElem?_append_right (by rw [yj hk]; omega), yj hk] at hp
          obtain ⟨v, hv, hvr⟩ := hnr.getElem? hp
          have hpl := (List.getElem?_eq_some_iff.1 hp).1
          rw [yj hk'] at hpl
          have := hcelln _ v (by simpa using hv)
          have e : rows.length * ie.size + (p - rows.length * ie.size) = p := by omega
          rw [e] at this
          refine ⟨v, this, fun hh => ?_, hone v (List.mem_of_getElem? hv), hvr.keep hkeep⟩
          rcases hh with hh | hh
          · exact hh.2 ⟨rfl, by omega⟩
          · exact sim.sto.dis b p hh (hMtop p (by omega))
      have hlt2 : ∀ (i : Nat) (row : List AV) (j : Nat) (x : AV), (rows ++ rows')[i]? = some row -> row[j]? = some x -> (rows ++ rows').flatten[i * ie.size + j]? = some x := fun i row j x h1 h2 => xr hkk h1 h2
      refine VRel.lst _ _ b 0 sCap ie.size (fun j => (w'.cell? ⟨b, j, none⟩).getD undef) (by rw [List.length_append]; exact hstay) (fun i row hr => hkk row (List.mem_of_getElem? hr)) (fun t ht => ?_) (fun i row j x h1 h2 => ?_) (fun i row j x h1 h2 => ?_) (fun i row j x h1 h2 => ?_)
      · cases ht; exact ⟨rfl, rfl, by simp [hne], c', e0, fr0, hblk', by rw [hs']; exact hcsz⟩
      · obtain ⟨v, h3, h4, h6, h5⟩ := hget _ x (hlt2 i row j x h1 h2)
        simp only [Nat.zero_add, h3, Option.getD_some]
        exact ⟨Tv, h4⟩
      · obtain ⟨v, h3, h4, h6, h5⟩ := hget _ x (hlt2 i row j x h1 h2)
        simp only [h3, Option.getD_some]
        exact h6
      · obtain ⟨v, h3, h4, h6, h5⟩ := hget _ x (hlt2 i row j x h1 h2)
        simp only [h3, Option.getD_some]
        exact h5
    · have hold2 : (Builtin.firstCells ie.size rows.length (.slice (some ⟨b, 0, none⟩) rows.length sCap)).run P w.drew = .ok (((List.range' 0 (rows.length * ie.size)).map f).toArray) w.drew := by
        have := yu (P := P) ⟨b, 0, none⟩ w.drew f (rows.length * ie.size) 0 #[] (fun p _ hp => by
          rw [x5, Nat.zero_add]
          exact (hold p (by omega)).1)
        simp only [Builtin.firstCells, loadCells]
        simpa using this
      obtain ⟨newCap, rest, h1, _, h2, h3⟩ := jv ty h hlen (hnew w.drew rfl) hold2 (by omega) (by simpa using hroom)
      have htokless : SimB n Oth β A (st.setTok b none) M a w :=
        { sim with
          sep := fun k b' hk hb => sim.sep k b' hk (hb.imp id fun h => by
            by_cases he : b' = b
            · subst he; rw [htb]; simp
            · simpa [Store.setTok, nbeq he] using h)
          sto := sim.sto.weaken ⟨fun _ _ h => h, fun b' x hx => by
            by_cases he : b' = b
            · subst he; simp [Store.setTok] at hx
            · simpa [Store.setTok, nbeq he] using hx⟩ }
      obtain ⟨st', M', ho, hsim, hchg, hv⟩ := htokless.appendNew (cs := ((List.range' 0 (rows.length * ie.size)).map f).toArray ++ new ++ rest) (e := e) (cap := newCap) hkk (by simp [hne]) (fun i x hx => by
        rw [List.flatten_append] at hx
        obtain ⟨v, hv, hvr⟩ := (holdR.append hnr).getElem? hx
        refine ⟨v, getElem?_append3 (by simpa using hv), hvr, ?_⟩
        rcases List.mem_append.1 (List.mem_of_getElem? hv) with hm | hm
        · simp only [List.mem_map] at hm
          obtain ⟨p, hp, rfl⟩ := hm
          exact (hold p (by simpa using hp)).2.2.1
        · exact hone v hm) (by rw [List.length_append]; exact h1) (by
          simp only [Array.size_append, hns, h2, List.size_toArray, List.length_map, List.length_range']
          have := Nat.mul_le_mul_right ie.size h1
          rw [Nat.sub_mul, <- Nat.add_mul]
          omega)
      rw [List.length_append] at hv
      exact ⟨_, _, _, st', M', h3, ho, hsim, hchg, hv⟩
end
end Go.V
namespace Go.V
section
variable {P : Program} {c : Cfg} {K : Fr -> Store -> Prop} {A : Fr} {st : Store} {Oth M : Nat -> Nat -> Prop}
theorem qk {w : World} {b : Nat} {cs : Array Value} {e : TypeId} {fr : Nat × Nat} (h : w.heap[b]? = some (.cells cs e fr)) (hf : x9 fr cs.size) :
    ∃ fr', x9 fr' cs.size /\ (w.freeze ⟨b, cs.size, none⟩ 1).heap[b]? = some (.cells cs e fr') /\ ∀ i, i ≠ b -> (w.freeze ⟨b, cs.size, none⟩ 1).heap[i]? = w.heap[i]? := by
  obtain ⟨lo, hi⟩ := fr
  refine ⟨if lo == hi then (cs.size, cs.size + 1) else (min lo cs.size, max hi (cs.size + 1)), ?_, ?_, fun i hi => ?_⟩
  · unfold x9 at hf ⊢
    split
    · right; simp
    · rename_i hne
      simp at hne hf ⊢
      omega
  · unfold World.freeze
    rw [if_neg (by decide)]
    simp only [Array.getElem?_modify, if_true, h, Option.map_some]
  · unfold World.freeze
    rw [if_neg (by decide)]
    simp only [Array.getElem?_modify]
    rw [if_neg (Ne.symm hi)]
theorem zgu {w : World} {b : Nat} {cs : Array Value} {e : TypeId} {fr : Nat × Nat} (h : w.heap[b]? = some (.cells cs e fr)) (hf : x9 fr cs.size) (b' o : Nat) :
    (w.freeze ⟨b, cs.size, none⟩ 1).cell? ⟨b', o, none⟩ = w.cell? ⟨b', o, none⟩ := by
  obtain ⟨fr', _, h2, h3⟩ := qk h hf
  by_cases hb : b' = b
  · subst hb
    simp only [World.cell?, h2, h]
  · simp only [World.cell?, h3 b' hb]
theorem zci (w : World) (a : Addr) (n : Nat) : (w.freeze a n).heap.size = w.heap.size := by
  unfold World.freeze
  split
  · rfl
  · simp
theorem x4 {w : World} {b : Nat} {cs : Array Value} {e : TypeId} {fr : Nat × Nat} (h : w.heap[b]? = some (.cells cs e fr)) (hf : x9 fr cs.size) (T : Nat -> Nat -> Prop) :
    Keeps w T (w.freeze ⟨b, cs.size, none⟩ 1) T where
  cell b' o x hc _ := by rw [zgu h hf]; exact hc
  out _ _ _ _ hT := hT
  shp b' c' e' f' hw := by
    obtain ⟨fr', _, h2, h3⟩ := qk h hf
    by_cases hb : b' = b
    · subst hb
      rw [h] at hw
      cases hw
      exact ⟨_, _, h2, rfl⟩
    · exact ⟨_, _, by rw [h3 b' hb]; exact hw, rfl⟩
theorem zep {w : World} {b : Nat} {cs : Array Value} {e : TypeId} {fr : Nat × Nat} (h : w.heap[b]? = some (.cells cs e fr)) (hf : x9 fr cs.size) {T : Nat -> Nat -> Prop} {l : List AV} {b' : Nat} (hb : b' ≠ b) (hr : CellsRel w T l b') :
    CellsRel (w.freeze ⟨b, cs.size, none⟩ 1) T l b' := by
  obtain ⟨fr', h1, h2, h3⟩ := qk h hf
  obtain ⟨c', e', f', h4, h5, h6, h7⟩ := hr
  exact ⟨c', e', f', by rw [h3 b' hb]; exact h4, h5, h6, fun i x y hx hy => (h7 i x y hx hy).keep (x4 h hf T)⟩
theorem SimB.freeze {n : Nat} {β : Nat -> Nat} {a : Act} {w : World} (s : SimB n Oth β A st M a w) {b : Nat} {cs : Array Value} {e : TypeId} {fr : Nat × Nat} (h : w.heap[b]? = some (.cells cs e fr)) (hf : x9 fr cs.size) (hno : ∃ o, ¬ M b o) :
    SimB n Oth β A st M a (w.freeze ⟨b, cs.size, none⟩ 1) where
  tsz := s.tsz
  dfr := s.dfr.step fun D hD _ h2 => by
    obtain ⟨fr', _, _, h6⟩ := qk h hf
    exact ⟨h6 D (fun e => by subst e; rw [h] at hD; cases hD), fun o => (h2 o).1⟩
  tm i := (s.tm i).keep (x4 h hf _)
  bx k l hk := ⟨zep h hf (fun e => by obtain ⟨o, ho⟩ := hno; exact ho (e ▸ (s.bx k l hk).2 o)) (s.bx k l hk).1, (s.bx k l hk).2⟩
  inj := s.inj
  sep := s.sep
  sto :=
    { obj := fun b' x hx => by
        refine ⟨?_, (s.sto.obj b' x hx).2⟩
        have hr := (s.sto.obj b' x hx).1
        cases x with
        | cells l => exact zep h hf (fun e => by obtain ⟨o, ho⟩ := hno; exact ho (e ▸ (s.sto.obj b' _ hx).2 o)) hr
        | ghost o gh =>
          obtain ⟨⟨h1, hc⟩, h2⟩ := hr
          have hb : b' ≠ b := fun hh => by subst hh; rw [h] at h1; cases h1; cases hc
          obtain ⟨fr', _, _, h6⟩ := qk h hf
          exact ⟨⟨by rw [h6 b' hb]; exact h1, hc⟩, fun p hp => (h2 p hp).keep (x4 h hf _)⟩
        | iter m since seen last =>
          have h1 : w.heap[b']? = _ := hr
          have hb : b' ≠ b := fun hh => by subst hh; rw [h] at h1; cases h1
          obtain ⟨fr', _, _, h6⟩ := qk h hf
          show _ = _
          rw [h6 b' hb]; exact h1
        | map es bs clock =>
          obtain ⟨ms, h1, h2, h3, h4⟩ := hr
          have hb : b' ≠ b := fun hh => by subst hh; rw [h] at h1; cases h1
          obtain ⟨fr', _, _, h6⟩ := qk h hf
          exact ⟨ms, by rw [h6 b' hb]; exact h1, h2, fun i x y hx hy => ⟨(h3 i x y hx hy).1.keep (x4 h hf _), (h3 i x y hx hy).2.keep (x4 h hf _)⟩, h4⟩
      tok := fun b' top ht => by
        obtain ⟨c', e', f', h1, h2, h3⟩ := s.sto.tok b' top ht
        obtain ⟨fr', h4, h5, h6⟩ := qk h hf
        by_cases hb : b' = b
        · subst hb
          rw [h] at h1
          cases h1
          exact ⟨_, _, _, h5, h4, h3⟩
        · exact ⟨c', e', f', by rw [h6 b' hb]; exact h1, h2, h3⟩
      mlt := fun b' o hm => by rw [zci]; exact s.sto.mlt b' o hm
      olt := fun b' o hm => by rw [zci]; exact s.sto.olt b' o hm
      dis := s.sto.dis }
theorem ztf {w : World} {b : Nat} {cs : Array Value} {e : TypeId} {fr : Nat × Nat} (h : w.heap[b]? = some (.cells cs e fr)) (hf : x9 fr cs.size) (hM : ∃ o, M b o) : Chg M w M (w.freeze ⟨b, cs.size, none⟩ 1) where
  size := by rw [zci]; exact Nat.le_refl _
  keep b' o _ _ := zgu h hf b' o
  blk b' _ hno := by
    obtain ⟨o, ho⟩ := hM
    obtain ⟨fr', h4, h5, h6⟩ := qk h hf
    exact h6 b' fun hh => by subst hh; exact hno o ho
  shp b' c' e' f' hw := (x4 h hf (fun _ _ => False)).shp b' c' e' f' hw
  sub _ _ h _ := h
  tape := by unfold World.freeze; split <;> rfl
  os := by unfold World.freeze; split <;> rfl
  output := by unfold World.freeze; split <;> rfl
theorem yja {o : Oper} {s t : TypeId} {x : Operand} (ho : o.op = .convert s t x) (hI : zw P c.I) (h : yi3 c o s t x K A st) : AOp P c.n o K A st := by
  unfold yi3 at h
  split at h
  · rename_i k rows b hx
    cases hb : Nat.beq s t with
    | false => rw [hb] at h; exact h.elim
    | true =>
    rw [hb] at h
    simp only [cond_true] at h
    obtain rfl := (yp _ _).1 hb
    obtain ⟨i, hi, h⟩ := ze h
    split at h
    · rename_i e hty
      obtain ⟨ie, hie, h⟩ := ze h
      cases hu8 : (isU8 ie.ty && Nat.beq k 1) with
      | false => rw [hu8] at h; exact h.elim
      | true =>
      rw [hu8] at h
      simp only [cond_true] at h
      obtain ⟨top, htop, h⟩ := ze h
      obtain ⟨hu8, hk1⟩ := Bool.and_eq_true_iff.1 hu8
      have hk1 := (yp _ _).1 hk1
      have hiety : ie.ty = .int .u8 := by
        unfold isU8 at hu8
        split at hu8
        · assumption
        · cases hu8
      rintro Oth M a w ⟨β, sim⟩
      obtain ⟨cs, e', fr, h1, h2, h3, h4⟩ := sim.sto.tok b top htop
      have hv : ∃ n cap, a.eval x = .slice (some ⟨b, 0, none⟩) n cap /\ ∃ o, ¬ M b o := by
        have hr := yn sim.env hx
        generalize a.eval x = v at hr
        cases hr with
        | lst _ _ b' off cap _ f hcap hk htok hc h0 hx' =>
          obtain ⟨rfl, rfl, hne, _⟩ := htok b rfl
          refine ⟨_, _, rfl, ?_⟩
          cases rows with
          | nil => exact absurd rfl hne
          | cons r rs =>
            have hr1 := hk 0 r rfl
            cases r with
            | nil => simp at hr1; omega
            | cons y ys => exact ⟨_, fun hm => (hc 0 _ 0 y rfl rfl).2 (.inl hm)⟩
      obtain ⟨n, cap, hv, hnoM⟩ := hv
      have hsh : w.shape? b = some (e', cs.size) := by simp [World.shape?, h1]
      have hrun : (execOp a.eval o).run P w = .ok (.value (a.eval x)) (w.freeze ⟨b, cs.size, none⟩ 1) := by
        simp [execOp, ho, hv, convert, zn (yb (hI _ _ hi) hty), zn (zh1 (hI _ _ hie) hiety), markStringish, hsh]
      have sim' := sim.freeze h1 h2 hnoM
      unfold Oper.wp
      rw [hrun, Oper.upon_value]
      have hvr : LRel (w.freeze ⟨b, cs.size, none⟩ 1) (fun b o => M b o \/ Oth b o) β (.av (.lst k rows (some b))) (a.eval x) := by
        have := sim'.ev x
        rw [hx] at this
        exact this
      have hchg : Chg M w M (w.freeze ⟨b, cs.size, none⟩ 1) := ztf h1 h2 ⟨top, h4 top (Nat.le_refl _)⟩
      unfold putO at h
      cases hd : o.dst with
      | none => rw [hd] at h; exact ⟨A, st, M, h, ⟨β, sim'⟩, hchg⟩
      | some d =>
        rw [hd] at h
        obtain ⟨hlt, h⟩ := qs h
        exact ⟨_, st, M, h, ⟨β, sim'.put hlt hvr⟩, hchg⟩
    · exact h.elim
  · exact zhe hI (by rw [ho]; exact h)
end
end Go.V
namespace Go.V
section
variable {P : Program} {c : Cfg} {K : Fr -> Store -> Prop} {A : Fr} {st : Store}
theorem ztm {o : Oper} {cl : Call} (ho : o.op = .call cl) (hcl : cl.callee = .builtin .append) (hI : zw P c.I)
    (h : optK cl.argTypes[0]? fun t => optK (c.I t) fun i => optK cl.args[0]? fun s => optK cl.args[1]? fun x => match i.ty with
      | .slice e => bif (cl.argTypes[1]?.bind c.I).any zf2 then
          appendK P c st e (A.ev s) (A.ev x) fun r st' => putO A c.n o.dst (.av r) fun A' => K A' st' else vcX P c o K A st
      | _ => False) : AOp P c.n o K A st := by
  obtain ⟨t, ht, h⟩ := ze h
  obtain ⟨i, hi, h⟩ := ze h
  obtain ⟨s, hs, h⟩ := ze h
  obtain ⟨x, hx, h⟩ := ze h
  split at h
  · rename_i e hty
    cases hb : (cl.argTypes[1]?.bind c.I).any zf2 with
    | false => rw [hb] at h; exact zyc hI h
    | true =>
    rw [hb] at h
    simp only [cond_true] at h
    replace h := h.out
    rintro Oth M a w ⟨β, sim⟩
    have ht1 : ∃ t1 e1, cl.argTypes[1]? = some t1 /\ P.underlying t1 = some (.slice e1) := by
      cases h1 : cl.argTypes[1]? with
      | none => rw [h1] at hb; simp at hb
      | some t1 =>
        rw [h1] at hb
        simp only [Option.bind_some] at hb
        cases h2 : c.I t1 with
        | none => rw [h2] at hb; simp at hb
        | some j =>
          rw [h2] at hb
          simp only [Option.any_some] at hb
          unfold zf2 at hb
          split at hb
          · rename_i e1 h3; exact ⟨t1, e1, rfl, yb (hI _ _ h2) h3⟩
          · cases hb
    have hrun : (execOp a.eval o).run P w = ((Builtin.append_ cl.argTypes o.type (cl.args.map a.eval)).run P w).andThen fun v w' => .ok (.value v) w' := by
      simp [execOp, ho, resolve, hcl, invoke, builtin]
    have fin : ∀ v w', (∃ r st' M', (putO A c.n o.dst (.av r) fun A' => K A' st') /\ VRel w' (fun b o => M' b o \/ Oth b o) r v /\ SimB c.n Oth β A st' M' a w' /\ Chg M w M' w') ->
        ∃ A' st' M', K A' st' /\ Sim c.n Oth A' st' M' (a.put o.dst v) w' /\ Chg M w M' w' := by
      rintro v w' ⟨r, st', M', hk, hv, hs, hchg⟩
      unfold putO at hk
      cases hd : o.dst with
      | none => rw [hd] at hk; exact ⟨A, st', M', hk, ⟨β, hs⟩, hchg⟩
      | some d =>
        rw [hd] at hk
        obtain ⟨hlt, hk⟩ := qs hk
        exact ⟨_, st', M', hk, ⟨β, hs.put hlt hv⟩, hchg⟩
    have h1 : (cl.args.map a.eval)[1]? = some (a.eval x) := by rw [Array.getElem?_map, hx]; rfl
    unfold Oper.wp
    rw [hrun]
    rcases h with h | ⟨s', x', hes, hex, h⟩
    rotate_left
    · have hvs := yn sim.env hes
      have hvx := yn sim.env hex
      have h0 : (cl.args.map a.eval)[0]? = some (a.eval s) := by rw [Array.getElem?_map, hs]; rfl
      obtain ⟨ie, hie⟩ := h.has
      obtain ⟨v, w', hr, hp⟩ := h.out ie hie _ _ w _ _ _ o.type _ t sim.inner (hvs.mono zbd) (hvx.mono zbd) ht ht1 (yb (hI _ _ hi) hty) (hI _ _ hie) h0 h1
      rw [hr]
      exact fin v w' (sim.post v w' hp)
    unfold zpl at h
    obtain ⟨ie, hie, h⟩ := ze h
    split at h
    · rename_i hev
      obtain ⟨rows, hrows, hroom, h⟩ := ze h
      have hsv : a.eval s = .slice none 0 0 := VRel.eq_s (yn sim.env hev)
      have h0 : (cl.args.map a.eval)[0]? = some (.slice none 0 0) := by rw [Array.getElem?_map, hs, <- hsv]; rfl
      obtain ⟨v, w', r, st', M', hr, hown, hsim, hchg, hv⟩ := (zbl (c := c) sim o.type ⟨ht, ht1, yb (hI _ _ hi) hty, hI _ _ hie, h0, h1⟩ (sim.ev x) hrows).1 ⟨rfl, rfl, fun x h => by cases h⟩ hroom
      rw [hr]
      exact fin v w' ⟨r, st', M', h r st' hown, hv, hsim, hchg⟩
    · rename_i hev
      obtain ⟨rows, hrows, hroom, h⟩ := ze h
      have hsv : ∃ ad, a.eval s = .slice ad 0 0 /\ ∀ x, ad = some x -> x.spot = none := by
        have := yn sim.env hev
        generalize a.eval s = v at this
        cases this with
        | emp ad h => exact ⟨ad, rfl, h⟩
      obtain ⟨ad, hsv, hspot⟩ := hsv
      have h0 : (cl.args.map a.eval)[0]? = some (.slice ad 0 0) := by rw [Array.getElem?_map, hs, <- hsv]; rfl
      obtain ⟨v, w', r, st', M', hr, hown, hsim, hchg, hv⟩ := (zbl (c := c) sim o.type ⟨ht, ht1, yb (hI _ _ hi) hty, hI _ _ hie, h0, h1⟩ (sim.ev x) hrows).1 ⟨rfl, rfl, hspot⟩ hroom
      rw [hr]
      exact fin v w' ⟨r, st', M', h r st' hown, hv, hsim, hchg⟩
    · rename_i k rows b hev
      cases hkb : (Nat.beq k ie.size && Nat.blt 0 ie.size) with
      | false => rw [hkb] at h; exact h.elim
      | true =>
      rw [hkb] at h
      simp only [cond_true] at h
      rw [Bool.and_eq_true] at hkb
      have hpos : 0 < ie.size := Nat.le_of_ble_eq_true hkb.2
      obtain rfl := (yp _ _).1 hkb.1
      obtain ⟨rows', hrows, htok, hroom, h⟩ := ze h
      have hvr := yn sim.env hev
      obtain ⟨base, sLen, sCap, hsv⟩ : ∃ base sLen sCap, a.eval s = .slice base sLen sCap := by
        generalize a.eval s = v at hvr
        cases hvr <;> exact ⟨_, _, _, rfl⟩
      rw [hsv] at hvr
      have h0 : (cl.args.map a.eval)[0]? = some (.slice base sLen sCap) := by rw [Array.getElem?_map, hs, <- hsv]; rfl
      obtain ⟨v, w', r, st', M', hr, hown, hsim, hchg, hv⟩ := (zbl (c := c) sim o.type ⟨ht, ht1, yb (hI _ _ hi) hty, hI _ _ hie, h0, h1⟩ (sim.ev x) hrows).2 rows b hpos hvr htok hroom
      rw [hr]
      exact fin v w' ⟨r, st', M', h r st' hown, hv, hsim, hchg⟩
    · exact h.elim
  · exact h.elim
theorem zqc {o : Oper} {x : LV} {v : Value} {a : Act} {w : World} {Oth M : Nat -> Nat -> Prop} {β : Nat -> Nat} (sim : SimB c.n Oth β A st M a w) (hv : LRel w (fun b o => M b o \/ Oth b o) β x v)
    (h : putO A c.n o.dst x fun A' => K A' st) : ∃ A' st' M', K A' st' /\ Sim c.n Oth A' st' M' (a.put o.dst v) w /\ Chg M w M' w := by
  unfold putO at h
  cases hd : o.dst with
  | none => rw [hd] at h; exact ⟨A, st, M, h, ⟨β, sim⟩, Chg.refl _ _⟩
  | some d =>
    rw [hd] at h
    obtain ⟨hlt, h⟩ := qs h
    exact ⟨_, st, M, h, ⟨β, sim.put hlt hv⟩, Chg.refl _ _⟩
set_option maxHeartbeats 1000000 in
theorem zrp (w : World) {t e : TypeId} (hu : P.underlying t = some (.slice e)) (ad : Option Addr) (n cap d : Nat) : (Op.equalIn (d + 1) t (.slice ad n cap) (.slice none 0 0)).run P w = .ok ad.isNone w := by
  cases ad <;> simp [Op.equalIn, zn hu]
theorem zf6 (w : World) {t e : TypeId} (hu : P.underlying t = some (.slice e)) (ad : Option Addr) (n cap : Nat) :
    (binOp .eql t (.slice ad n cap) (.slice none 0 0)).run P w = .ok (.bool ad.isNone) w /\ (binOp .neq t (.slice ad n cap) (.slice none 0 0)).run P w = .ok (.bool !ad.isNone) w := by
  have h := zrp w hu ad n cap 9999
  constructor <;> simp only [binOp, Op.equal, Op.maxDepth, Sem.run_bind, h, Result.andThen_ok, Sem.run_pure]
theorem zyd {o : Oper} {op : BinOp} {t yt : TypeId} {x y : Operand} (ho : o.op = .binOp op t x y yt) (hI : zw P c.I)
    (h : zqx c o op t x y yt K A st) : AOp P c.n o K A st := by
  unfold zqx at h
  split at h
  · rename_i k rows tok hx hy
    obtain ⟨i, hi, h⟩ := ze h
    rintro Oth M a w ⟨β, sim⟩
    have hyv : a.eval y = .slice none 0 0 := VRel.eq_s (yn sim.env hy)
    have hxv : ∃ ad n cap, a.eval x = .slice ad n cap /\ (ad.isNone = true -> rows = []) := by
      rcases zcm (yn sim.env hx) with ⟨_, cap, hv, h2, _⟩ | ⟨b, off, cap, hv, _⟩
      · exact ⟨_, _, _, hv, fun _ => h2⟩
      · exact ⟨_, _, _, hv, fun h => by simp at h⟩
    obtain ⟨ad, n, cap, hxv, hnil⟩ := hxv
    cases hty : i.ty with
    | slice e =>
      rw [hty] at h
      have hu := yb (hI _ _ hi) hty
      cases op with
      | eql =>
        have hrun : (execOp a.eval o).run P w = .ok (.value (.bool ad.isNone)) w := by
          simp [execOp, ho, hxv, hyv, eqGuard, (zf6 w hu ad n cap).1]
        unfold Oper.wp
        rw [hrun, Oper.upon_value]
        exact zqc sim (x := j5 ad.isNone) (VRel.s _) (h _ hnil)
      | neq =>
        have hrun : (execOp a.eval o).run P w = .ok (.value (.bool !ad.isNone)) w := by
          simp [execOp, ho, hxv, hyv, eqGuard, (zf6 w hu ad n cap).2]
        unfold Oper.wp
        rw [hrun, Oper.upon_value]
        exact zqc sim (x := j5 !ad.isNone) (VRel.s _) (h _ hnil)
      | _ => exact h.elim
    | _ => rw [hty] at h; exact h.elim
  · exact zhe hI (by rw [ho]; exact h)
theorem znl (hI : zw P c.I) {o : Oper} (h : vcOp P c o K A st) : AOp P c.n o K A st := by
  unfold vcOp at h
  cases hx : isX o.op with
  | true => rw [hx] at h; exact zyc hI h
  | false =>
  rw [hx] at h
  replace h : zhg P c o K A st := h
  unfold zhg at h
  cases ho : o.op with
  | alloc t => simp only [ho, xo] at h; exact zye ho hI h
  | box t x => simp only [ho] at h; exact yoo ho hI h
  | buildSlice t n ps => simp only [ho] at h; exact zca ho hI h
  | store t p x =>
    simp only [ho] at h
    cases hd : o.dst with
    | some d => rw [hd] at h; exact h.elim
    | none => rw [hd] at h; exact zya ho hd hI h
  | binOp op t x y yt => simp only [ho] at h; exact zyd ho hI h
  | convert s t x => simp only [ho] at h; exact yja ho hI h
  | call cl =>
    simp only [ho] at h
    cases hcl : cl.callee with
    | value f => simp only [hcl] at h; exact yjb ho hcl h
    | invoke r m => simp only [hcl] at h; exact ztl ho hcl h
    | builtin b =>
      cases b with
      | append => simp only [hcl] at h; exact ztm ho hcl hI h
      | _ => simp only [hcl] at h; exact zhe hI (by rw [ho]; exact h)
  | _ => simp only [ho] at h; exact zhe hI (by rw [ho]; exact h)
theorem Cfg.noDepth (c : Cfg) : c.F.depth.isSome = true -> 1 <= 0 := fun h => by cases h
theorem zxy {c : Cfg} {f : FuncId} {args : Array Value} {w : World} {R : Ending -> World -> Prop} (h : Calls P f args w R) : CallsIn c.F 0 P f args w R :=
  (callsIn_wide (n := 0)).2 h
theorem yhu {c : Cfg} {row : String} {args : Array Value} {w : World} {R : Value -> World -> Prop} (h : Rows P row args w R) : RowsIn c.F 0 P row args w R :=
  fun x cs _ => let ⟨v, w', r, s⟩ := h x cs; ⟨v, w', r, stepsIn_wide.2 s⟩
theorem Oper.wpIn_F {o : Oper} (hd : ∀ cl, o.op ≠ .defer cl) {a : Act} {w : World} {K : Act -> World -> Prop} {Q : Exit -> Act -> World -> Prop} (h : o.wp P a w K Q) : o.wpIn c.F 0 P a w K Q := by
  refine ⟨fun _ _ => Tv, ?_⟩
  rw [Oper.semAt_eq _ _ _ hd]
  unfold Oper.wp at h
  generalize (execOp a.eval o).run P w = r at *
  cases r with
  | ok x w' =>
    cases x <;> simp only [Oper.upon, Oper.uponIn] at h ⊢ <;>
      first
        | exact h
        | exact ⟨c.noDepth, zxy h⟩
        | exact ⟨c.noDepth, yhu h⟩
        | exact h.elim
  | halt x w' => cases x <;> simp only [Oper.upon, Oper.uponIn] at h ⊢ <;> exact h
theorem yh7 {o : Oper} (h : vcOp P c o K A st) (cl : Call) : o.op ≠ .defer cl := by
  intro e
  unfold vcOp at h
  rw [e] at h
  have h : zhg P c o K A st := h
  unfold zhg at h
  simp only [e] at h
  obtain ⟨d, _, h⟩ := ze h
  obtain ⟨_, h⟩ := qs h
  exact h.elim
theorem zq5 {o : Oper} {l : Nat} (h : znq A o.op = some l) : ∃ cl f fv cap, o.op = .call cl /\ cl.callee = .value f /\ A.ev f = .av (.s (.func (.yield l) fv cap)) /\ fv = #[] /\ cap = #[] := by
  unfold znq at h
  split at h
  · rename_i cl hop
    split at h
    · rename_i f hcl
      split at h
      · rename_i l' fv cap hev
        cases hb : (Nat.beq fv.size 0 && Nat.beq cap.size 0) with
        | false => rw [hb] at h; cases h
        | true =>
          rw [hb] at h
          cases h
          rw [Bool.and_eq_true] at hb
          exact ⟨cl, f, fv, cap, hop, hcl, hev, Array.size_eq_zero_iff.1 ((yp _ _).1 hb.1), Array.size_eq_zero_iff.1 ((yp _ _).1 hb.2)⟩
      · cases h
    · cases h
  · cases h
theorem zux {l : Nat} {f : FuncId} {tmps : Array Value} {assign body : Code} {w : World} {R : Ending -> World -> Prop} (h : RoundIn Fence.wide 0 P l f tmps assign body w R) : RoundIn c.F 0 P l f tmps assign body w R := h
theorem ztn (hI : zw P c.I) {o : Oper} (h : zre P c o K A st) : AOpI P c o K A st := by
  unfold zre at h
  split at h
  rotate_left
  · exact fun Oth M a w sim => Oper.wpIn_F (yh7 h) (znl hI h Oth M a w sim)
  · rename_i l hl
    obtain ⟨cl, f, fv, cap, ho, hcl, hf, rfl, rfl⟩ := zq5 hl
    rintro Oth M a w ⟨β, sim⟩
    obtain ⟨vs, hvs, h⟩ := ze h
    unfold zk0 at hvs
    rw [ho] at hvs
    have hfv : a.eval f = .func (.yield l) #[] #[] := VRel.eq_s (yn sim.env hf)
    obtain ⟨hm1, hm2⟩ := za9 hvs
    have hr1 : Reads w (fun b o => M b o \/ Oth b o) vs (cl.args.map a.eval).toList := by
      refine ⟨by simp [hm1], fun i x y hx hy => ?_⟩
      obtain ⟨z, hz, hzz⟩ := hm2 i x hx
      have hz' : cl.args[i]? = some z := by simpa using hz
      rw [Array.toList_map, List.getElem?_map, hz] at hy
      simp at hy
      subst hy
      exact yn sim.env (zay hzz)
    have hrun : (execOp a.eval o).run P w = (Instr.yield l (cl.args.map a.eval)).run P w := by
      simp [execOp, ho, resolve, hcl, hfv, Deferred.ofValue, invoke]
    obtain ⟨fn, tmps, assign, body, hy, hround⟩ := h.out _ _ w (cl.args.map a.eval) sim.inner ⟨hr1.1, fun i x y hx hy => (hr1.2 i x y hx hy).mono zbd⟩
    refine ⟨fun _ _ => Tv, ?_⟩
    rw [Oper.semAt_eq _ _ _ (by rw [ho]; intro _ e; cases e), hrun, hy, Oper.uponIn_round]
    refine ⟨c.noDepth, zux (hround.mono ?_)⟩
    rintro e w' ⟨v, rfl, hp⟩
    obtain ⟨r, st', M', hk, hv, hs, hchg⟩ := sim.post v w' hp
    show ∃ A' st' M', _
    unfold putO at hk
    cases hd : o.dst with
    | none => rw [hd] at hk; exact ⟨A, st', M', hk, ⟨β, hs⟩, hchg⟩
    | some d =>
      rw [hd] at hk
      obtain ⟨hlt, hk⟩ := qs hk
      exact ⟨_, st', M', hk, ⟨β, hs.put hlt hv⟩, hchg⟩
end
end Go.V
namespace Go.V
def zul (c : Cfg) (o : Oper) (A : Fr) (K : Fr -> Prop) : Prop := putO A c.n o.dst .und K
/-- The operations of a region, one behind the other. -/
def zez (P : Program) (c : Cfg) (ops : Array Oper) (K : Fr -> Store -> Prop) : List Oper -> Fr -> Store -> Prop
  | [], A, st => K A st
  | o :: rest, A, st =>
    match o.guard with
    | none => zre P c o (zez P c ops K rest) A st
    | some (j, want) => optK ((ops[j]?).bind (·.dst)) fun t =>
      match A.t t with
      | .av (.s (.bool b)) => zed b
          (bif want then zre P c o (zez P c ops K rest) (A.put t (j5 true)) st else zul c o (A.put t (j5 true)) fun A' => zez P c ops K rest A' st)
          (bif want then zul c o (A.put t (j5 false)) fun A' => zez P c ops K rest A' st else zre P c o (zez P c ops K rest) (A.put t (j5 false)) st)
      | .und => zul c o A fun A' => zez P c ops K rest A' st
      | _ => False
/-- A piece of code, in words of worlds. -/
structure AWp (P : Program) (c : Cfg) (code : Code) (Q : Exit -> Fr -> Store -> Prop) (A : Fr) (st : Store) : Prop where
  out : ∀ Oth M a w, Sim c.n Oth A st M a w -> code.wpIn c.F 0 P (fun e a' w' => ∃ A' st' M', Q e A' st' /\ Sim c.n Oth A' st' M' a' w' /\ Chg M w M' w') a w
/-- A region whose order is drawn. -/
structure ADraw (P : Program) (c : Cfg) (ops : Array Oper) (K : Fr -> Store -> Prop) (A : Fr) (st : Store) : Prop where
  out : ∀ id, AWp P c (.region id ops true) (fun e A' st' => match e with | .normal => K A' st' | _ => False) A st
def yfp (next : Fr -> Store -> Prop) (Q : Exit -> Fr -> Store -> Prop) : Exit -> Fr -> Store -> Prop
  | .normal => next
  | e => Q e
def zfb (id : Nat) (Q : Exit -> Fr -> Store -> Prop) : Exit -> Fr -> Store -> Prop
  | .exit id' => bif Nat.beq id' id then Q .normal else Q (.exit id')
  | e => Q e
def zv1 (Q : Exit -> Fr -> Store -> Prop) : Exit -> Fr -> Store -> Prop
  | .goto _ => fun _ _ => False
  | e => Q e
def vc (P : Program) (c : Cfg) : Code -> (Exit -> Fr -> Store -> Prop) -> Fr -> Store -> Prop
  | .skip, Q, A, st => Q .normal A st
  | .region _ ops draw, Q, A, st => match draw with
    | false => zez P c ops (Q .normal) ops.toList A st
    | true => ADraw P c ops (Q .normal) A st
  | .seq a b, Q, A, st => vc P c a (yfp (vc P c b Q) Q) A st
  | .cond x a b, Q, A, st => match A.ev x with
    | .av (.s (.bool t)) => zed t (vc P c a Q A st) (vc P c b Q A st)
    | _ => False
  | .block id b, Q, A, st => vc P c b (zfb id Q) A st
  | .loop b, Q, A, st => AWp P c (.loop b) Q A st
  | .exit id, Q, A, st => Q (.exit id) A st
  | .scope b, Q, A, st => vc P c b (zv1 Q) A st
  | .label _, Q, A, st => Q .normal A st
  | .ret, Q, A, st => Q .ret A st
  | _, _, _, _ => False
section
variable {P : Program} {c : Cfg}
theorem Fr.put_self {A : Fr} {d : Nat} {x : LV} (h : A.t d = x) : A.put d x = A := by
  unfold Fr.put
  congr
  funext i
  by_cases hi : i = d
  · subst hi; simp [h]
  · simp [nbeq hi]
theorem zit {ops : Array Oper} {tmps : Array Value} {j t : Nat} {b : Bool} (hd : (ops[j]?).bind (·.dst) = some t) (h : tmps.getD t undef = .bool b) : yielded ops tmps j = some b := by
  unfold yielded
  rw [hd]
  simp only [Option.bind_some]
  rw [Array.getD_eq_getD_getElem?] at h
  cases ht : tmps[t]? with
  | none => rw [ht] at h; simp [undef] at h
  | some v => rw [ht] at h; simp at h; subst h; rfl
theorem zmo {ops : Array Oper} {tmps : Array Value} {j t : Nat} (hd : (ops[j]?).bind (·.dst) = some t) (h : tmps.getD t undef = undef) : yielded ops tmps j = none := by
  unfold yielded
  rw [hd]
  simp only [Option.bind_some]
  rw [Array.getD_eq_getD_getElem?] at h
  cases ht : tmps[t]? with
  | none => rfl
  | some v => rw [ht] at h; simp at h; subst h; rfl
theorem znr {o : Oper} {a : Act} {w : World} {K K' : Act -> World -> Prop} {Q Q' : Exit -> Act -> World -> Prop} (hk : ∀ a w, K a w -> K' a w) (hn : ∀ e a w, e ≠ .normal -> ¬ Q e a w) (h : o.wpIn c.F 0 P a w K Q) : o.wpIn c.F 0 P a w K' Q' := by
  refine ⟨h.1, ?_⟩
  have h := h.2
  generalize (o.semAt c.F.round a.eval).run P w = r at *
  have nq : ∀ (e : Exit) (a : Act) (w : World) {p : Prop}, e ≠ .normal -> Q e a w -> p := fun e a w p hne h => (hn e a w hne h).elim
  cases r with
  | ok x w' =>
    cases x <;> simp only [Oper.uponIn] at h ⊢ <;>
      first
        | exact hk _ _ h
        | exact ⟨h.1, CallsIn.mono h.2 (fun e w'' he => by
            cases e with
            | returned v => exact hk _ _ he
            | panicked ch => exact nq _ _ _ (by simp) he
            | outgrown => obtain ⟨a2, w2, h2⟩ := he; exact nq _ _ _ (by simp) h2)⟩
        | exact ⟨h.1, RowsIn.mono h.2 (fun _ _ he => hk _ _ he)⟩
        | exact ⟨h.1, RoundIn.mono h.2 (fun e w'' he => by
            cases e with
            | returned v => exact hk _ _ he
            | panicked ch => exact nq _ _ _ (by simp) he
            | outgrown => obtain ⟨a2, w2, h2⟩ := he; exact nq _ _ _ (by simp) h2)⟩
        | exact h
  | halt x w' => cases x <;> simp only [Oper.uponIn] at h ⊢ <;> first | exact nq _ _ _ (by simp) h | exact h
theorem znt (hI : zw P c.I) (ops : Array Oper) (K : Fr -> Store -> Prop) : ∀ (l : List Oper) (A : Fr) (st : Store), zez P c ops K l A st ->
    ∀ Oth M a w, Sim c.n Oth A st M a w -> wpListIn c.F 0 P ops (fun e a' w' => e = .normal /\ ∃ A' st' M', K A' st' /\ Sim c.n Oth A' st' M' a' w' /\ Chg M w M' w') l a w := by
  intro l
  induction l with
  | nil => intro A st h Oth M a w sim; exact ⟨rfl, A, st, M, h, sim, Chg.refl M w⟩
  | cons o rest ih =>
    intro A st h Oth M a w sim
    have mono : ∀ (M' : Nat -> Nat -> Prop) (w' : World) (a' : Act) (A' : Fr) (st' : Store), zez P c ops K rest A' st' -> Sim c.n Oth A' st' M' a' w' -> Chg M w M' w' ->
        wpListIn c.F 0 P ops (fun e a' w' => e = .normal /\ ∃ A' st' M', K A' st' /\ Sim c.n Oth A' st' M' a' w' /\ Chg M w M' w') rest a' w' := by
      intro M' w' a' A' st' h1 h2 h3
      have := ih A' st' h1 Oth M' a' w' h2
      clear h h1
      -- weaken the post
      have wm : ∀ (l : List Oper) (a w0) (Q Q' : Exit -> Act -> World -> Prop), (∀ e a w, Q e a w -> Q' e a w) -> (∀ e a w, e ≠ .normal -> ¬ Q e a w) -> wpListIn c.F 0 P ops Q l a w0 -> wpListIn c.F 0 P ops Q' l a w0 := by
        intro l
        induction l with
        | nil => intro a w0 Q Q' hq _ h; exact hq _ _ _ h
        | cons o l ihl =>
          intro a w0 Q Q' hq hn h
          unfold wpListIn at h ⊢
          split
          · rename_i hw
            rw [if_pos hw] at h
            exact znr (fun a w h => ihl a w Q Q' hq hn h) (fun e a w hne h => hn e a w hne h) h
          · rename_i hw
            rw [if_neg hw] at h
            exact ⟨fun _ _ => Tv, ihl _ _ _ _ hq hn h.2⟩
      refine wm rest a' w' _ _ ?_ ?_ this
      · rintro e a w ⟨he, A', st', M'', h4, h5, h6⟩
        exact ⟨he, A', st', M'', h4, h5, h3.trans h6⟩
      · rintro e a w hne ⟨he, _⟩
        exact hne he
    -- an operation that is carried out
    have go : ∀ A1, zre P c o (zez P c ops K rest) A1 st -> Sim c.n Oth A1 st M a w -> Region.wanted o (yielded ops a.tmps) = true ->
        wpListIn c.F 0 P ops (fun e a' w' => e = .normal /\ ∃ A' st' M', K A' st' /\ Sim c.n Oth A' st' M' a' w' /\ Chg M w M' w') (o :: rest) a w := by
      intro A1 h1 sim1 hw
      unfold wpListIn
      rw [if_pos hw]
      exact znr (fun a' w' ⟨A', st', M', h3, h4, h5⟩ => mono M' w' a' A' st' h3 h4 h5) (fun _ _ _ _ h => h) (ztn hI h1 Oth M a w sim1)
    have skip : ∀ A1, (zul c o A1 fun A' => zez P c ops K rest A' st) -> Sim c.n Oth A1 st M a w -> Region.wanted o (yielded ops a.tmps) = false ->
        wpListIn c.F 0 P ops (fun e a' w' => e = .normal /\ ∃ A' st' M', K A' st' /\ Sim c.n Oth A' st' M' a' w' /\ Chg M w M' w') (o :: rest) a w := by
      intro A1 h1 sim1 hw
      unfold wpListIn
      rw [if_neg (by rw [hw]; simp)]
      refine ⟨fun _ _ => Tv, ?_⟩
      obtain ⟨β, sim1⟩ := sim1
      unfold zul putO at h1
      cases hd : o.dst with
      | none => rw [hd] at h1; exact mono M w _ A1 st h1 ⟨β, sim1⟩ (Chg.refl _ _)
      | some d =>
        rw [hd] at h1
        obtain ⟨hlt, h1⟩ := qs h1
        exact mono M w _ _ st h1 ⟨β, sim1.put hlt (x := .und) rfl⟩ (Chg.refl _ _)
    unfold zez at h
    cases hg : o.guard with
    | none =>
      rw [hg] at h
      exact go A h sim (by simp [Region.wanted, hg])
    | some jw =>
      obtain ⟨j, want⟩ := jw
      rw [hg] at h
      obtain ⟨t, ht, h⟩ := ze h
      have hwant : ∀ y, yielded ops a.tmps j = y -> Region.wanted o (yielded ops a.tmps) = (y == some want) := fun y hy => by simp [Region.wanted, hg, hy]
      split at h
      · rename_i b hb
        have htv : a.tmps.getD t undef = .bool b := by
          obtain ⟨β, s⟩ := sim
          have := s.tm t
          rw [hb] at this
          exact VRel.eq_s this
        have hw := hwant _ (zit ht htv)
        cases b with
        | true =>
          rw [Fr.put_self (A := A) (x := j5 true) hb] at h
          cases want with
          | true => exact go A h sim (by rw [hw]; rfl)
          | false => exact skip A h sim (by rw [hw]; rfl)
        | false =>
          rw [Fr.put_self (A := A) (x := j5 false) hb] at h
          cases want with
          | true => exact skip A h sim (by rw [hw]; rfl)
          | false => exact go A h sim (by rw [hw]; rfl)
      · rename_i hb
        have htv : a.tmps.getD t undef = undef := by
          obtain ⟨β, s⟩ := sim
          have := s.tm t
          rw [hb] at this
          exact this
        exact skip A h sim (by rw [hwant _ (zmo ht htv)]; rfl)
      · exact h.elim
end
end Go.V
namespace Go.V
section
variable {P : Program} {c : Cfg}
theorem Code.wpF_mono {F : Fence} {code : Code} {Q Q' : Exit -> Act -> World -> Prop} {a : Act} {w : World} (hq : ∀ e a w, Q e a w -> Q' e a w) (h : code.wpIn F 0 P Q a w) : code.wpIn F 0 P Q' a w := wpIn_mono h hq
theorem ko {F : Fence} {n : Nat} {code : Code} {Q : Exit -> Act -> World -> Prop} {a : Act} {w : World} (h : code.wpIn F n P (Exit.noGoto Q) a w) : (Code.scope code).wpIn F n P Q a w := by
  intro b k cs hro hb hr
  have s1 : step P (lone (b.atR a (.code (.scope code) :: k)) cs w) = .next (lone (b.atR a (.code code :: .inScope code :: k)) cs w) := step_lone_go (by simp [stepG, stepG.exec, Frame.atR])
  have h0 : (lone (b.atR a (.code (.scope code) :: k)) cs w).fenced P F := fenced_calm hb hr rfl
  obtain ⟨e, a₁, w₁, hq, harr⟩ := h b (.inScope code :: k) cs hro hb hr
  cases e with
  | normal =>
    have s2 : step P (lone (b.atR a₁ (.inScope code :: k)) cs w₁) = .next (lone (b.atR a₁ k) cs w₁) := step_lone_go (by simp [stepG, stepG.exec, Frame.atR])
    exact ⟨.normal, a₁, w₁, hq, .head h0 s1 (StepsIn.trans harr (.one (fenced_calm hb hr rfl) s2))⟩
  | exit id =>
    have hx : exitTo id (.inScope code :: k) = exitTo id k := by simp [exitTo]
    exact ⟨.exit id, a₁, w₁, hq, fun k' hk => .head h0 s1 (harr.1 k' (by rw [hx]; exact hk)), fun hr' hk => let ⟨k₁, h1, h2⟩ := harr.2 hr' (by rw [hx]; exact hk); ⟨k₁, h1, .head h0 s1 h2⟩⟩
  | goto l => exact hq.elim
  | ret => exact ⟨_, a₁, w₁, hq, .of_steps (.one h0 s1) harr⟩
  | panic ch => exact ⟨_, a₁, w₁, hq, .of_steps (.one h0 s1) harr⟩
  | outgrown => exact ⟨_, a₁, w₁, hq, .of_steps (.one h0 s1) harr⟩
theorem AWp.mono {code : Code} {Q Q' : Exit -> Fr -> Store -> Prop} {A : Fr} {st : Store} (h : AWp P c code Q A st) (hq : ∀ e A st, Q e A st -> Q' e A st) : AWp P c code Q' A st :=
  ⟨fun Oth M a w sim => Code.wpF_mono (fun e a' w' ⟨A', st', M', h1, h2, h3⟩ => ⟨A', st', M', hq _ _ _ h1, h2, h3⟩) (h.out Oth M a w sim)⟩
theorem ztu {F : Fence} {ops : Array Oper} {id : Nat} {Q : Exit -> Act -> World -> Prop} {R : Act -> World -> Prop} {a : Act} {w : World} (h : wpListIn F 0 P ops (fun e a' w' => e = .normal /\ R a' w') ops.toList a w) (hq : ∀ a w, R a w -> Q .normal a w) : (Code.region id ops false).wpIn F 0 P Q a w :=
  Code.wpF_mono (fun e a' w' ⟨he, hr⟩ => by subst he; exact hq _ _ hr) (wpIn_region_list h)
theorem zjd (hI : zw P c.I) : ∀ (code : Code) (Q : Exit -> Fr -> Store -> Prop) (A : Fr) (st : Store), vc P c code Q A st -> AWp P c code Q A st := by
  intro code
  induction code with
  | skip => intro Q A st h; exact ⟨fun Oth M a w sim => wpIn_skip ⟨A, st, M, h, sim, Chg.refl _ _⟩⟩
  | region id ops draw =>
    intro Q A st h
    cases draw with
    | false => exact ⟨fun Oth M a w sim => ztu (znt hI ops (Q .normal) ops.toList A st h Oth M a w sim) fun _ _ h => h⟩
    | true => exact (ADraw.out h id).mono fun e A' st' h' => by cases e <;> first | exact h' | exact h'.elim
  | seq x y ihx ihy =>
    intro Q A st h
    refine ⟨fun Oth M a w sim => wpIn_seq ?_⟩
    refine Code.wpF_mono ?_ ((ihx _ A st h).out Oth M a w sim)
    rintro e a' w' ⟨A', st', M', h1, h2, h3⟩
    cases e with
    | normal =>
      refine Code.wpF_mono ?_ ((ihy _ A' st' h1).out Oth M' a' w' h2)
      rintro e a'' w'' ⟨A'', st'', M'', h4, h5, h6⟩
      exact ⟨A'', st'', M'', h4, h5, h3.trans h6⟩
    | _ => exact ⟨A', st', M', h1, h2, h3⟩
  | cond x p q ihp ihq =>
    intro Q A st h
    simp only [vc] at h
    split at h
    · rename_i t ht
      refine ⟨fun Oth M a w sim => ?_⟩
      have hv : a.eval x = .bool t := by
        obtain ⟨β, s⟩ := sim
        exact VRel.eq_s (yn s.env ht)
      refine wpIn_cond hv ?_
      cases t with
      | true => exact (ihp Q A st h).out Oth M a w sim
      | false => exact (ihq Q A st h).out Oth M a w sim
    · exact h.elim
  | block id b ih =>
    intro Q A st h
    refine ⟨fun Oth M a w sim => wpIn_block ?_⟩
    refine Code.wpF_mono ?_ ((ih _ A st h).out Oth M a w sim)
    rintro e a' w' ⟨A', st', M', h1, h2, h3⟩
    cases e with
    | exit id' =>
      simp only [zfb] at h1
      simp only [Exit.inBlock]
      by_cases he : id' = id
      · subst he
        simp only [Nat.beq_refl, cond_true] at h1
        rw [if_pos rfl]
        exact ⟨A', st', M', h1, h2, h3⟩
      · simp only [nbeq he, cond_false] at h1
        rw [if_neg he]
        exact ⟨A', st', M', h1, h2, h3⟩
    | _ => exact ⟨A', st', M', h1, h2, h3⟩
  | loop b ih => intro Q A st h; exact h
  | rangeFunc f ps x y ihx ihy => intro Q A st h; exact h.elim
  | exit id => intro Q A st h; exact ⟨fun Oth M a w sim => wpIn_exit ⟨A, st, M, h, sim, Chg.refl _ _⟩⟩
  | scope b ih =>
    intro Q A st h
    refine ⟨fun Oth M a w sim => ko ?_⟩
    refine Code.wpF_mono ?_ ((ih _ A st h).out Oth M a w sim)
    rintro e a' w' ⟨A', st', M', h1, h2, h3⟩
    cases e with
    | goto l => exact h1.elim
    | _ => exact ⟨A', st', M', h1, h2, h3⟩
  | label l => intro Q A st h; exact ⟨fun Oth M a w sim => wpIn_label ⟨A, st, M, h, sim, Chg.refl _ _⟩⟩
  | goto l => intro Q A st h; exact h.elim
  | ret => intro Q A st h; exact ⟨fun Oth M a w sim => wpIn_ret ⟨A, st, M, h, sim, Chg.refl _ _⟩⟩
  | refuse s => intro Q A st h; exact h.elim
/-- What the result variables hold. -/
def resK (c : Cfg) (A : Fr) (st : Store) : List ResultVar -> (List AV -> Prop) -> Prop
  | [], K => K []
  | .tmp t :: rest, K => match A.t t with
    | .av x => resK c A st rest fun l => K (x :: l)
    | _ => False
  | .cell p t :: rest, K => optK (c.I t) fun i => zdl A.bx st (A.t p) fun l => optK (zal i l) fun x => resK c A st rest fun l => K (x :: l)
def ype : List AV -> AV
  | [x] => x
  | l => .tup l
def retK (c : Cfg) (rs : List ResultVar) (R : AV -> Store -> Prop) (A : Fr) (st : Store) : Prop :=
  resK c A st rs fun l => ∃ r st', AV.le (ype l) r /\ st.Has st' /\ R r st'
def retQ (c : Cfg) (rs : List ResultVar) (R : AV -> Store -> Prop) : Exit -> Fr -> Store -> Prop
  | .normal => retK c rs R
  | .ret => retK c rs R
  | _ => fun _ _ => False
def argT (args : List AV) (i : Nat) : LV :=
  match args, i with
  | [], _ => .und
  | x :: _, 0 => .av x
  | _ :: l, i + 1 => argT l i
def zgv (args : List AV) : Fr := ⟨argT args, fun _ => none⟩
theorem yi8 (args : List AV) (i : Nat) : argT args i = match args[i]? with | some x => .av x | none => .und := by
  induction args generalizing i with
  | nil => simp [argT]
  | cons x l ih =>
    cases i with
    | zero => simp [argT]
    | succ i => simp [argT, ih]
theorem zr4 (hI : zw P c.I) {w : World} {T : Nat -> Nat -> Prop} {β : Nat -> Nat} {A : Fr} {st : Store} {a : Act} (he : Env w T β A.ev A.bx st a.eval) : ∀ (rs : List ResultVar) (K : List AV -> Prop), resK c A st rs K ->
    ∃ l vs, K l /\ (rs.mapM (m := Sem) fun | .tmp t => pure (a.tmps.getD t undef) | .cell p t => do loadVar t (<- asAddr (a.tmps.getD p undef))).run P w = .ok vs w /\ Reads w T l vs := by
  intro rs
  induction rs with
  | nil => intro K h; exact ⟨[], [], h, by simp, Reads.nil⟩
  | cons r rs ih =>
    intro K h
    cases r with
    | tmp t =>
      simp only [resK] at h
      split at h
      · rename_i x hx
        obtain ⟨l, vs, h1, h2, h3⟩ := ih _ h
        refine ⟨x :: l, a.tmps.getD t undef :: vs, h1, by simp only [List.mapM_cons, Sem.run_bind, Sem.run_pure, Result.andThen_ok, h2], Reads.cons ?_ h3⟩
        have := he.ev (.tmp t)
        simp only [Fr.ev, hx] at this
        exact this
      · exact h.elim
    | cell p t =>
      simp only [resK] at h
      obtain ⟨i, hi, h⟩ := ze h
      obtain ⟨cl, hcl, _, hs⟩ := zdk (ev := A.ev) h
      obtain ⟨x, hx, hcl⟩ := ze hcl
      obtain ⟨b, off, hv, hav⟩ := hs w T β a.eval he _ (he.ev (.tmp p))
      obtain ⟨v, hr, hvr⟩ := zc6 (P := P) (hI _ _ hi) hav hx
      obtain ⟨l, vs, h1, h2, h3⟩ := ih _ hcl
      have hv' : a.tmps.getD p undef = .pointer (some ⟨b, off, none⟩) := hv
      refine ⟨x :: l, v :: vs, h1, ?_, Reads.cons hvr h3⟩
      have ha : (asAddr (a.tmps.getD p undef)).run P w = .ok ⟨b, off, none⟩ w := by rw [hv']; rfl
      simp only [List.mapM_cons, Sem.run_bind, ha, Sem.run_pure, Result.andThen_ok, hr, h2]
theorem zu8 {w : World} {T : Nat -> Nat -> Prop} {l : List AV} {vs : List Value} (h : Reads w T l vs) : VRel w T (ype l) (if h : vs.toArray.size = 1 then vs.toArray[0] else .tuple vs.toArray) := by
  obtain ⟨hl, hr⟩ := h
  match l, vs, hl with
  | [x], [v], _ => exact hr 0 x v rfl rfl
  | [], [], _ => exact yq ⟨rfl, hr⟩
  | x :: y :: l, u :: v :: vs, hl =>
    have : ¬ (u :: v :: vs).toArray.size = 1 := by simp
    rw [dif_neg this]
    exact yq ⟨by simpa using hl, by simpa using hr⟩
/-- A block of the heap is another object. -/
def putH (w : World) (b : Nat) (o : Obj) : World := { w with heap := w.heap.setIfInBounds b o }
theorem zl1 {w : World} {b : Nat} {o : Obj} (h : b < w.heap.size) : (putH w b o).heap[b]? = some o := by simp [putH, h]
theorem zog {w : World} {b k : Nat} {o : Obj} (h : k ≠ b) : (putH w b o).heap[k]? = w.heap[k]? := by
  simp [putH, Array.getElem?_setIfInBounds_ne (Ne.symm h)]
theorem zvn {w : World} {b : Nat} {o : Obj} : (putH w b o).heap.size = w.heap.size := by simp [putH]
theorem yhr {w : World} {b : Nat} (h : w.heap[b]? = some (.deferred (some []))) : (Instr.takeDeferred b).run P w = .ok [] (putH w b (.deferred none)) := by
  simp [Instr.takeDeferred, getObj, setObj, Sem.run_bind, Sem.run, h, Result.andThen, putH]
/-- Some blocks of deferred calls are shut, nothing else. -/
structure Shut (Oth M : Nat -> Nat -> Prop) (w w' : World) : Prop where
  size : w'.heap.size = w.heap.size
  blk : ∀ b, w'.heap[b]? = w.heap[b]? \/ (w.heap[b]? = some (.deferred (some [])) /\ w'.heap[b]? = some (.deferred none) /\ ∀ o, ¬ M b o /\ ¬ Oth b o)
  tape : w'.tape = w.tape
  os : w'.os = w.os
  output : w'.output = w.output
theorem Shut.keeps {Oth M : Nat -> Nat -> Prop} {w w' : World} (h : Shut Oth M w w') (T : Nat -> Nat -> Prop) : Keeps w T w' T where
  cell b o c hc _ := by
    rcases h.blk b with e | ⟨e, _, _⟩
    · rw [qc e]; exact hc
    · simp [World.cell?, e] at hc
  out _ _ _ _ hT := hT
  shp b c e fr hw := by
    rcases h.blk b with e' | ⟨e', _, _⟩
    · exact ⟨c, fr, by rw [e']; exact hw, rfl⟩
    · rw [e'] at hw; cases hw
theorem Shut.sto {Oth M : Nat -> Nat -> Prop} {w w' : World} {st : Store} (h : Shut Oth M w w') (s : StoreOK st Oth M w) : StoreOK st Oth M w' where
  obj b x hx := by
    have h1 := s.obj b x hx
    refine ⟨ObjRel.same h1.1 (h.keeps _) ?_, h1.2⟩
    rcases h.blk b with e | ⟨_, _, e⟩
    · exact e
    · exact absurd (h1.2 0) (e 0).1
  tok b top ht := by
    obtain ⟨c, e, fr, h1, h2, h3, h4⟩ := s.tok b top ht
    refine ⟨c, e, fr, ?_, h2, h3, h4⟩
    rcases h.blk b with e' | ⟨e', _, _⟩
    · rw [e']; exact h1
    · rw [e'] at h1; cases h1
  mlt b o hm := by rw [h.size]; exact s.mlt b o hm
  olt b o hm := by rw [h.size]; exact s.olt b o hm
  dis := s.dis
/-- On the way out: mark by mark. -/
theorem zmf {Oth M : Nat -> Nat -> Prop} {fn : Func} {tmps : Array Value} {R : Ending -> World -> Prop} : ∀ (ds : List Deferred) (w : World), Marks Oth M w ds ->
    (∀ w', Shut Oth M w w' -> ∃ v, (results fn tmps).run P w' = .ok v w' /\ R (.returned v) w') -> LeavesInM Fence.wide 0 P fn tmps R ds .returning w := by
  intro ds
  induction ds with
  | nil => intro w _ h; exact h w ⟨rfl, fun _ => .inl rfl, rfl, rfl, rfl⟩
  | cons d ds ih =>
    intro w hm h
    obtain ⟨D, rfl, h1, h2⟩ := hm.all d (List.mem_cons_self)
    have hnd := List.pairwise_cons.1 hm.nd
    have hne : ∀ d' ∈ ds, ∀ D', d' = { target := .collected D', args := #[] } -> D' ≠ D := fun d' hd' D' e e2 => hnd.1 d' hd' (by rw [e, e2])
    refine ⟨by simp, .inl ⟨D, putH w D (.deferred none), rfl, yhr h1, ih _ ⟨hnd.2, fun d' hd' => ?_⟩ fun w' hs => h w' ?_⟩⟩
    · obtain ⟨D', e, h3, h4⟩ := hm.all d' (List.mem_cons_of_mem _ hd')
      exact ⟨D', e, (zog (hne d' hd' D' e)).trans h3, h4⟩
    · refine ⟨hs.size.trans zvn, fun b => ?_, hs.tape, hs.os, hs.output⟩
      by_cases hb : b = D
      · subst hb
        refine .inr ⟨h1, ?_, h2⟩
        rcases hs.blk b with e | ⟨e, _, _⟩
        · rw [e]; exact zl1 (z6 h1)
        · rw [zl1 (z6 h1)] at e; cases e
      · rcases hs.blk b with e | ⟨e, e2, e3⟩
        · exact .inl (e.trans (zog hb))
        · exact .inr ⟨(zog hb).symm.trans e, e2, e3⟩
/-- What may not be written of a block that is there: also what lies behind its cells. -/
def othX (Oth M : Nat -> Nat -> Prop) (w : World) : Nat -> Nat -> Prop := fun b o => Oth b o \/ (b < w.heap.size /\ ¬ M b o /\ ∀ c e fr, w.heap[b]? = some (.cells c e fr) -> c.size <= o)
theorem zij {Oth M : Nat -> Nat -> Prop} (w : World) : Keeps w (fun b o => M b o \/ Oth b o) w (fun b o => M b o \/ othX Oth M w b o) where
  cell _ _ _ h _ := h
  out b o v hc hT := by
    rintro (h | h | ⟨_, _, h⟩)
    · exact hT (.inl h)
    · exact hT (.inr h)
    · unfold World.cell? at hc
      cases hb : w.heap[b]? with
      | none => simp [hb] at hc
      | some x =>
        cases x with
        | cells c e fr =>
          have h1 := h c e fr hb
          simp [hb] at hc
          have := (Array.getElem?_eq_some_iff.1 hc).1
          omega
        | _ => simp [hb] at hc
  shp b c e fr h := ⟨c, fr, h, rfl⟩
theorem yh3 {Oth M : Nat -> Nat -> Prop} {w : World} {st : Store} (s : StoreOK st Oth M w) : StoreOK st (othX Oth M w) M w where
  obj b x hx := ⟨ObjRel.same (s.obj b x hx).1 (zij w) rfl, (s.obj b x hx).2⟩
  tok := s.tok
  mlt := s.mlt
  olt b o h := h.elim (s.olt b o) fun h => h.1
  dis b o h := h.elim (s.dis b o) fun h => h.2.1
theorem zvs {Oth M : Nat -> Nat -> Prop} {w : World} {st : Store} {R : AV -> Store -> Prop} {r : AV} {v : Value} {st' : Store} {M' : Nat -> Nat -> Prop} {w' w'' : World} (s : StoreOK st Oth M w) (hR : R r st') (hr : VRel w'' (fun b o => M' b o \/ othX Oth M w b o) r v)
    (sto : StoreOK st' (othX Oth M w) M' w') (hc : Chg M w M' w') (hs : Shut (othX Oth M w) M' w' w'') : zt st R Oth M w v w'' := by
  have hT : ∀ b o, (M' b o \/ Oth b o) -> (M' b o \/ othX Oth M w b o) := fun b o h => h.imp id .inl
  have sto' := hs.sto sto
  refine ⟨r, st', M', hR, hr.mono hT, ⟨fun b x hx => ⟨(sto'.obj b x hx).1.mono hT, (sto'.obj b x hx).2⟩, sto'.tok, sto'.mlt, fun b o h => sto'.olt b o (.inl h), fun b o h => sto'.dis b o (.inl h)⟩, ?_⟩
  refine { size := by rw [hs.size]; exact hc.size, keep := fun b o hb hm => ?_, blk := fun b hb hm => ?_, shp := fun b c e fr hw => ?_, sub := hc.sub, tape := hs.tape.trans hc.tape, os := hs.os.trans hc.os, output := hs.output.trans hc.output }
  · rw [<- hc.keep b o hb hm]
    rcases hs.blk b with e | ⟨e, e2, _⟩
    · exact qc e o
    · simp [World.cell?, e, e2]
  · rcases hs.blk b with e | ⟨_, _, e⟩
    · exact e.trans (hc.blk b hb hm)
    · exfalso
      cases hx : w.heap[b]? with
      | none =>
        rw [Array.getElem?_eq_none_iff] at hx
        omega
      | some x =>
        cases x with
        | cells c e1 fr => exact (e c.size).2 (.inr ⟨hb, hm _, fun c' e' fr' h => by rw [hx] at h; cases h; exact Nat.le_refl _⟩)
        | _ => exact (e 0).2 (.inr ⟨hb, hm _, fun c' e' fr' h => by rw [hx] at h; cases h⟩)
  · obtain ⟨c', fr', h1, h2⟩ := hc.shp b c e fr hw
    refine ⟨c', fr', ?_, h2⟩
    rcases hs.blk b with e' | ⟨e', _, _⟩
    · rw [e']; exact h1
    · rw [e'] at h1; cases h1
theorem ACalls.of_awp (hI : zw P c.I) {g : FuncId} {fn : Func} {code : Code} {args : List AV} {st : Store} {R : AV -> Store -> Prop} (hf : P.funcs[g]? = some fn) (hb : fn.body = some code) (hname : (fn.name == "runtime.NumGoroutine") = false)
    (hn : fn.ntmps = c.n) (hlen : Nat.ble args.length c.n = true) (h : AWp P c code (retQ c fn.results.toList R) (zgv args) st) (hround : c.round = none := by rfl) : ACalls P g args st R := by
  refine ⟨fun Oth M w vs sto hr => ?_⟩
  have hrun : (callFunc g vs).run P w = .ok (.enter g vs) w := by
    have hne : ¬ fn.name = "runtime.NumGoroutine" := by simpa using hname
    simp [callFunc, run_program, hf, hne, hb]
  rw [hrun]
  simp only [zfj]
  have hF : c.F = Fence.wide := by unfold Cfg.F; rw [hround]; rfl
  refine (callsIn_wide (n := 0)).1 (callsIn_of_wp_marks hf hb trivial ?_)
  have hle : args.length <= c.n := Nat.le_of_ble_eq_true hlen
  have hsz : vs.size = args.length := by simpa using hr.1.symm
  let a : Act := { tmps := vs ++ Array.replicate (fn.ntmps - vs.size) undef, defers := [] }
  have sim : SimB c.n (othX Oth M w) (fun _ => 0) (zgv args) st M a w :=
    { tsz := by simp [a, hn]; omega
      dfr := Marks.nil
      tm := fun i => by
        simp only [zgv, yi8, a]
        rw [Array.getD_eq_getD_getElem?]
        by_cases hi : i < vs.size
        · rw [Array.getElem?_append_left hi, Array.getElem?_eq_getElem hi, List.getElem?_eq_getElem (by omega)]
          exact (hr.2 i _ _ (List.getElem?_eq_getElem (by omega)) (by simp [hi])).keep (zij w)
        · rw [List.getElem?_eq_none (by omega)]
          simp only [LRel]
          rw [Array.getElem?_append_right (by omega)]
          simp only [Array.getElem?_replicate]
          split <;> rfl
      bx := fun k l hk => by simp [zgv] at hk
      inj := fun k k' hk => by simp [zgv] at hk
      sep := fun k b hk => by simp [zgv] at hk
      sto := yh3 sto }
  have h2 := h.out (othX Oth M w) M a w ⟨_, sim⟩
  rw [hF] at h2
  refine Code.wpF_mono ?_ h2
  have fin : ∀ a' w' A' st' M', retK c fn.results.toList R A' st' -> Sim c.n (othX Oth M w) A' st' M' a' w' -> Chg M w M' w' ->
      LeavesInM Fence.wide 0 P fn a'.tmps (fun e w' => ∃ v, e = .returned v /\ zt st R Oth M w v w') a'.defers .returning w' := by
    rintro a' w' A' st' M' hret ⟨β, s⟩ hchg
    refine zmf a'.defers w' s.dfr fun w'' hs => ?_
    have hblk : ∀ b o, M' b o -> w''.heap[b]? = w'.heap[b]? := fun b o hm => by
      rcases hs.blk b with e | ⟨_, _, e⟩
      · exact e
      · exact absurd hm (e o).1
    have he : Env w'' (fun b o => M' b o \/ othX Oth M w b o) β A'.ev A'.bx st' a'.eval :=
      ⟨fun x => (s.ev x).keep (hs.keeps _), fun k l hk => (s.bx k l hk).1.same (hs.keeps _) (hblk _ 0 ((s.bx k l hk).2 0)), fun b x hx => ((hs.sto s.sto).obj b x hx).1⟩
    obtain ⟨l, vs, ⟨r, st'', h1, h2, h3⟩, h4, h5⟩ := zr4 hI he _ _ hret
    refine ⟨_, ?_, _, rfl, zvs sto h3 (h1 _ _ _ (zu8 h5)) (s.sto.weaken h2) hchg hs⟩
    unfold results
    rw [Sem.run_bind, Array.mapM_eq_mapM_toList, Sem.run_map]
    exact congrArg (fun r => (Result.andThen (Result.andThen r fun l w => .ok l.toArray w) fun (vs : Array Value) w' => .ok (if h : vs.size = 1 then vs[0] else .tuple vs) w')) h4
  rintro e a' w' ⟨A', st', M', h1, h2, h3⟩
  cases e with
  | normal => exact fin a' w' A' st' M' h1 h2 h3
  | ret => exact fin a' w' A' st' M' h1 h2 h3
  | _ => exact h1.elim
/-- **A function's contract, out of its text.** -/
theorem ACalls.of_body (hI : zw P c.I) {g : FuncId} {fn : Func} {code : Code} {args : List AV} {st : Store} {R : AV -> Store -> Prop} (hf : P.funcs[g]? = some fn) (hb : fn.body = some code) (hname : (fn.name == "runtime.NumGoroutine") = false)
    (hn : fn.ntmps = c.n) (hlen : Nat.ble args.length c.n = true) (h : vc P c code (retQ c fn.results.toList R) (zgv args) st) (hround : c.round = none := by rfl) : ACalls P g args st R :=
  ACalls.of_awp hI hf hb hname hn hlen (zjd hI code _ _ st h) hround
/-- Slots and boxes as they are listed. -/
def yig (l : List (Nat × LV)) (i : Nat) : LV :=
  match l with
  | [] => .any
  | (j, x) :: l => bif Nat.beq i j then x else yig l i
def zmc (l : List (Nat × List AV)) (i : Nat) : Option (List AV) :=
  match l with
  | [] => none
  | (j, x) :: l => bif Nat.beq i j then some x else zmc l i
def mkFr (l : List (Nat × LV)) (b : List (Nat × List AV)) : Fr := ⟨yig l, zmc b⟩
def zs4 (A : Fr) : List (Nat × LV) -> Prop
  | [] => True
  | (j, x) :: l => LV.le (A.t j) x /\ zs4 A l
def zs5 (A : Fr) : List (Nat × List AV) -> Prop
  | [] => True
  | (j, x) :: l => A.bx j = some x /\ zs5 A l
theorem yis {A : Fr} : ∀ {l : List (Nat × LV)}, zs4 A l -> ∀ i, LV.le (A.t i) (yig l i) := by
  intro l
  induction l with
  | nil => intro _ i; exact LV.le_any _
  | cons p l ih =>
    obtain ⟨j, x⟩ := p
    intro h i
    simp only [yig]
    by_cases hi : i = j
    · subst hi; simp only [Nat.beq_refl, cond_true]; exact h.1
    · simp only [nbeq hi, cond_false]; exact ih h.2 i
theorem yit {A : Fr} : ∀ {l : List (Nat × List AV)}, zs5 A l -> ∀ i x, zmc l i = some x -> A.bx i = some x := by
  intro l
  induction l with
  | nil => intro _ i x h; simp [zmc] at h
  | cons p l ih =>
    obtain ⟨j, y⟩ := p
    intro h i x hx
    simp only [zmc] at hx
    by_cases hi : i = j
    · subst hi; simp only [Nat.beq_refl, cond_true] at hx; rw [<- hx]; exact h.1
    · simp only [nbeq hi, cond_false] at hx; exact ih h.2 i x hx
theorem Sim.fits {n : Nat} {Oth M : Nat -> Nat -> Prop} {A : Fr} {st st' : Store} {a : Act} {w : World} (h : Sim n Oth A st M a w) {l : List (Nat × LV)} {b : List (Nat × List AV)} (ht : zs4 A l) (hb : zs5 A b) (hs : st.Has st') : Sim n Oth (mkFr l b) st' M a w := by
  obtain ⟨β, s⟩ := h
  have hbx : ∀ k x, zmc b k = some x -> A.bx k = some x := yit hb
  have hne : ∀ k, zmc b k ≠ none -> A.bx k ≠ none := fun k hk => by
    cases hl : zmc b k with
    | none => exact absurd hl hk
    | some x => rw [hbx k x hl]; simp
  exact ⟨β,
    { tsz := s.tsz
      dfr := s.dfr
      tm := fun i => yis ht i _ _ _ _ (s.tm i)
      bx := fun k x hk => s.bx k x (hbx k x hk)
      inj := fun k k' h1 h2 => s.inj k k' (hne k h1) (hne k' h2)
      sep := fun k b hk hb => s.sep k b (hne k hk) (by
        rcases hb with hb | hb
        · cases ho : st'.obj b with
          | none => exact absurd ho hb
          | some x => exact .inl (by rw [hs.obj b x ho]; simp)
        · cases ho : st'.tok b with
          | none => exact absurd ho hb
          | some x => exact .inr (by rw [hs.tok b x ho]; simp))
      sto := s.sto.weaken hs }⟩
theorem AWp.weaken {code : Code} {Q : Exit -> Fr -> Store -> Prop} {A : Fr} {st st' : Store} {l : List (Nat × LV)} {b : List (Nat × List AV)} (h : AWp P c code Q (mkFr l b) st') (ht : zs4 A l) (hb : zs5 A b) (hs : st.Has st') : AWp P c code Q A st :=
  ⟨fun Oth M a w sim => h.out Oth M a w (sim.fits ht hb hs)⟩
/-- What a loop's head knows: for each 's' the slots, the boxes, and what is said of the store. -/
structure LoopHead (σ : Type) where
  t : σ -> List (Nat × LV)
  bx : σ -> List (Nat × List AV)
  inv : σ -> Store -> Prop
  μ : σ -> Nat
def LoopHead.at {σ : Type} (H : LoopHead σ) (A : Fr) (st : Store) (p : σ -> Prop) : Prop :=
  ∃ s, p s /\ H.inv s st /\ zs4 A (H.t s) /\ zs5 A (H.bx s)
def yjn {σ : Type} (H : LoopHead σ) (s : σ) (Q : Exit -> Fr -> Store -> Prop) : Exit -> Fr -> Store -> Prop
  | .normal => fun A st => H.at A st fun s' => H.μ s' < H.μ s
  | e => Q e
theorem AWp.loop {σ : Type} (H : LoopHead σ) {b : Code} {Q : Exit -> Fr -> Store -> Prop} {A : Fr} {st : Store} (hI : zw P c.I) (h0 : H.at A st fun _ => True)
    (round : ∀ s st, H.inv s st -> vc P c b (yjn H s Q) (mkFr (H.t s) (H.bx s)) st) : AWp P c (.loop b) Q A st := by
  obtain ⟨s0, _, hi0, ht0, hb0⟩ := h0
  refine ⟨fun Oth M a w sim => ?_⟩
  refine wpIn_loop_ghost (fun n a' w' => ∃ s st' M', H.μ s = n /\ H.inv s st' /\ Sim c.n Oth (mkFr (H.t s) (H.bx s)) st' M' a' w' /\ Chg M w M' w') (H.μ s0)
    ⟨s0, st, M, rfl, hi0, sim.fits ht0 hb0 (Store.Has.refl st), Chg.refl M w⟩ ?_
  rintro n a' w' ⟨s, st', M', rfl, hi, hsim, hchg⟩
  refine Code.wpF_mono ?_ ((zjd hI b _ _ st' (round s st' hi)).out Oth M' a' w' hsim)
  rintro e a'' w'' ⟨A'', st'', M'', h1, h2, h3⟩
  cases e with
  | normal =>
    obtain ⟨s', hlt, hi', ht', hb'⟩ := h1
    exact ⟨H.μ s', hlt, s', st'', M'', rfl, hi', h2.fits ht' hb' (Store.Has.refl st''), hchg.trans h3⟩
  | _ => exact ⟨A'', st'', M'', h1, h2, hchg.trans h3⟩
end
end Go.V
namespace Go.V
section
variable {P : Program} {c : Cfg}
theorem AWp.of_vc (hI : zw P c.I) {code : Code} {Q : Exit -> Fr -> Store -> Prop} {A : Fr} {st : Store} (h : vc P c code Q A st) : AWp P c code Q A st := zjd hI code Q A st h
/-- One piece behind the other: the second one may be cut off. -/
theorem AWp.seq {x y : Code} {Q : Exit -> Fr -> Store -> Prop} {A : Fr} {st : Store} (h : AWp P c x (yfp (AWp P c y Q) Q) A st) : AWp P c (.seq x y) Q A st := by
  refine ⟨fun Oth M a w sim => wpIn_seq ?_⟩
  refine Code.wpF_mono ?_ (h.out Oth M a w sim)
  rintro e a' w' ⟨A', st', M', h1, h2, h3⟩
  cases e with
  | normal =>
    refine Code.wpF_mono ?_ ((AWp.out h1) Oth M' a' w' h2)
    rintro e a'' w'' ⟨A'', st'', M'', h4, h5, h6⟩
    exact ⟨A'', st'', M'', h4, h5, h3.trans h6⟩
  | _ => exact ⟨A', st', M', h1, h2, h3⟩
theorem AWp.block {id : Nat} {b : Code} {Q : Exit -> Fr -> Store -> Prop} {A : Fr} {st : Store} (h : AWp P c b (zfb id Q) A st) : AWp P c (.block id b) Q A st := by
  refine ⟨fun Oth M a w sim => wpIn_block ?_⟩
  refine Code.wpF_mono ?_ (h.out Oth M a w sim)
  rintro e a' w' ⟨A', st', M', h1, h2, h3⟩
  cases e with
  | exit id' =>
    simp only [zfb] at h1
    simp only [Exit.inBlock]
    by_cases he : id' = id
    · subst he
      simp only [Nat.beq_refl, cond_true] at h1
      rw [if_pos rfl]
      exact ⟨A', st', M', h1, h2, h3⟩
    · simp only [nbeq he, cond_false] at h1
      rw [if_neg he]
      exact ⟨A', st', M', h1, h2, h3⟩
  | _ => exact ⟨A', st', M', h1, h2, h3⟩
theorem AWp.scope {b : Code} {Q : Exit -> Fr -> Store -> Prop} {A : Fr} {st : Store} (h : AWp P c b (zv1 Q) A st) : AWp P c (.scope b) Q A st := by
  refine ⟨fun Oth M a w sim => ko ?_⟩
  refine Code.wpF_mono ?_ (h.out Oth M a w sim)
  rintro e a' w' ⟨A', st', M', h1, h2, h3⟩
  cases e with
  | goto l => exact h1.elim
  | _ => exact ⟨A', st', M', h1, h2, h3⟩
/-- A place where the ways meet: for each 's' the slots and the boxes that what follows needs. -/
structure Meet (σ : Type) where
  t : σ -> List (Nat × LV)
  bx : σ -> List (Nat × List AV)
  inv : σ -> Store -> Prop
def Meet.at {σ : Type} (H : Meet σ) (A : Fr) (st : Store) : Prop := ∃ s, H.inv s st /\ zs4 A (H.t s) /\ zs5 A (H.bx s)
/-- Once for all ways: 'x' comes to the place, 'y' goes on from it. -/
theorem AWp.meet {σ : Type} (H : Meet σ) (hI : zw P c.I) {x y : Code} {Q : Exit -> Fr -> Store -> Prop} {A : Fr} {st : Store} (hx : vc P c x (yfp H.at Q) A st)
    (hy : ∀ s st', H.inv s st' -> AWp P c y Q (mkFr (H.t s) (H.bx s)) st') : AWp P c (.seq x y) Q A st := by
  refine AWp.seq ((AWp.of_vc hI hx).mono fun e A' st' h => ?_)
  cases e with
  | normal =>
    obtain ⟨s, h1, h2, h3⟩ := h
    exact AWp.weaken (hy s st' h1) h2 h3 (Store.Has.refl st')
  | _ => exact h
end
end Go.V
namespace Go.V
/-- Types of which values are held against one another part by part. -/
def zxm (P : Program) (t : TypeId) : Bool :=
  !P.stoodInHeld t && !P.eqGuardType P.depth t && (match P.underlying t with | some (.struct fs) => fs.toList.all fun f => f.name != "_" | _ => true)
def znp (z : Value) (d : Ty) : Bool := match z with | .agg _ => jd d | _ => !jd d
/-- What the tables say of a type. -/
def infoOf (P : Program) (t : TypeId) (eq : Bool) : Option TI :=
  match P.info? t, P.underlying t with
  | some inf, some d => match inf.zero with
    | some z => bif Nat.beq z.cells.toList.length inf.size && (!eq || zxm P t) && znp z (tyOf d) then some { ty := tyOf d, size := inf.size, bytes := inf.bytes, zero := z.cells.toList, eq := eq } else none
    | none => none
  | _, _ => none
theorem zwn {P : Program} {t : TypeId} {eq : Bool} {i : TI} (h : infoOf P t eq = some i) : TIok P t i := by
  unfold infoOf at h
  split at h
  · rename_i inf d hinf hd
    split at h
    · rename_i z hz
      cases hb : (Nat.beq z.cells.toList.length inf.size && (!eq || zxm P t) && znp z (tyOf d)) with
      | false => rw [hb] at h; cases h
      | true =>
        rw [hb] at h
        simp only [cond_true, Option.some.injEq] at h
        subst h
        simp only [Bool.and_eq_true] at hb
        obtain ⟨⟨h2, h3⟩, h4⟩ := hb
        refine ⟨⟨inf, hinf, rfl, rfl, z, hz, rfl⟩, ⟨d, hd, rfl⟩, (yp _ _).1 h2, fun inf' z' hi' hz' => ?_, fun he => ?_⟩
        · rw [hinf] at hi'
          cases hi'
          rw [hz] at hz'
          cases hz'
          cases z with
          | agg cs => exact .inl ⟨h4, cs, rfl⟩
          | _ => exact .inr ⟨by simpa [znp] using h4, rfl⟩
        simp only at he
        subst he
        simp only [Bool.not_true, Bool.false_or, zxm, Bool.and_eq_true, Bool.not_eq_true'] at h3
        obtain ⟨⟨h4, h5⟩, h6⟩ := h3
        refine ⟨h4, h5, fun fs hfs f hf => ?_⟩
        rw [hfs] at h6
        simp only [List.all_eq_true, bne_iff_ne, ne_eq] at h6
        exact h6 f hf
    · cases h
  · cases h
inductive Tr where
  | nil
  | node (k : Nat) (l : Tr) (x : TI) (r : Tr)
def Tr.get : Tr -> Nat -> Option TI
  | .nil, _ => none
  | .node k l x r, t => bif Nat.beq t k then some x else bif Nat.blt t k then l.get t else r.get t
def Tr.all (P : Program) : Tr -> Prop
  | .nil => True
  | .node k l x r => infoOf P k x.eq = some x /\ l.all P /\ r.all P
theorem Tr.ok {P : Program} : ∀ (tr : Tr), tr.all P -> zw P tr.get := by
  intro tr
  induction tr with
  | nil => intro _ t i h; cases h
  | node k l x r ihl ihr =>
    rintro ⟨h1, h2, h3⟩ t i h
    simp only [Tr.get] at h
    by_cases ht : t = k
    · subst ht
      simp only [Nat.beq_refl, cond_true, Option.some.injEq] at h
      subst h
      exact zwn h1
    · simp only [nbeq ht, cond_false] at h
      cases hb : Nat.blt t k with
      | true => rw [hb] at h; exact ihl h2 t i h
      | false => rw [hb] at h; exact ihr h3 t i h
end Go.V
namespace Go.V
/-- A slice that grows by appends: nil at first. -/
def App (k : Nat) (st : Store) (v : AV) (rows : List (List AV)) (st' : Store) : Prop :=
  (v = .s (.slice none 0 0) /\ rows = [] /\ st' = st) \/ Owned k st v rows st'
theorem App.start (k : Nat) (st : Store) : App k st (.s (.slice none 0 0)) [] st := .inl ⟨rfl, rfl, rfl⟩
theorem zn9 {st : Store} {b : Nat} {x : Option Nat} (h : st.tok b = none) : (st.setTok b x).setTok b none = st := by
  unfold Store.setTok
  congr
  funext i
  by_cases hi : i = b
  · subst hi; simp [h]
  · simp [nbeq hi]
theorem App.has {k : Nat} {st st' : Store} {v : AV} {rows : List (List AV)} (h : App k st v rows st') : st'.Has st := by
  rcases h with ⟨_, _, rfl⟩ | ⟨_, _, rfl⟩ | ⟨_, b, hb, _, rfl⟩
  · exact Store.Has.refl _
  · exact Store.Has.refl _
  · refine ⟨fun _ _ h => h, fun i x h => ?_⟩
    have : i ≠ b := fun e => by rw [e, hb.2] at h; cases h
    simpa [Store.setTok, nbeq this] using h
theorem App.le {k : Nat} {st st' : Store} {v : AV} {rows : List (List AV)} (h : App k st v rows st') : AV.le v (.lst k rows none) := by
  rcases h with ⟨rfl, rfl, _⟩ | ⟨rfl, rfl, _⟩ | ⟨_, b, hb, rfl, _⟩
  · exact AV.le_nil k
  · intro w T v h
    cases h with
    | emp a h =>
      cases a with
      | none => exact .nil k none
      | some a =>
        obtain ⟨b, off, spot⟩ := a
        have := h _ rfl
        simp only at this
        subst this
        exact VRel.empty w T k b off 0
  · exact AV.le_tok _ _ _
theorem ql {c : Cfg} {st st' : Store} {e : TypeId} {ie : TI} {v : AV} {x : LV} {K : AV -> Store -> Prop} {rows rows' : List (List AV)} (h : App ie.size st v rows st') (hie : c.I e = some ie) (hx : qf ie.size x = some rows')
    (hroom : room (rows.length + rows'.length) ie.bytes) (hK : ∀ v2 st2, App ie.size st v2 (rows ++ rows') st2 -> K v2 st2) {P : Program} (hp : Nat.blt 0 ie.size = true := by rfl) : appendK P c st' e (.av v) x K := by
  refine ⟨.inl (za ie hie ?_)⟩
  rcases h with ⟨rfl, rfl, rfl⟩ | ⟨rfl, rfl, rfl⟩ | ⟨hne, b, hb, rfl, rfl⟩
  · exact za rows' hx ⟨by simpa using hroom, fun v st2 ho => hK v st2 (.inr (by simpa using ho))⟩
  · exact za rows' hx ⟨by simpa using hroom, fun v st2 ho => hK v st2 (.inr (by simpa using ho))⟩
  · show (bif Nat.beq ie.size ie.size && Nat.blt 0 ie.size then _ else False)
    rw [Nat.beq_refl, hp, Bool.and_self, cond_true]
    refine za rows' hx ⟨by simp [Store.setTok], by simpa using hroom, fun v st2 ho => hK v st2 (.inr ?_)⟩
    rwa [zn9 hb.2] at ho
end Go.V
