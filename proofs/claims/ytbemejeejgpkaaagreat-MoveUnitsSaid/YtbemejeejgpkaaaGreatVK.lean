/- The ground on which laws of thronglaw24 are proved: contracts of functions and plain lemmas; no condition beyond the row's own. -/
import Derived.Test.YtbemejeejgpkaaaGreatVE
import Derived.Test.YtbemejeejgpkaaaGreatVC
set_option linter.unusedSimpArgs false
set_option linter.unusedVariables false
namespace Go.V
section
variable {P : Program} {c : Cfg} {st : Store}
/-- What an append's source reads as. -/
structure SrcOK (P : Program) (st : Store) (k m : Nat) (x : AV) (xs : List AV) : Prop where
  out : ∀ (Oth M : Nat -> Nat -> Prop) (w : World) (xv : Value), StoreOK st Oth M w -> VRel w (fun b o => M b o \/ Oth b o) x xv ->
    (Builtin.lenOf xv).run P w = .ok m w /\ ∃ new : Array Value, Reads w (fun b o => M b o \/ Oth b o) xs new.toList /\ (∀ v ∈ new.toList, z8 v = true) /\ new.size = m * k /\ ∀ w', w'.heap = w.heap -> (Builtin.firstCells k m xv).run P w' = .ok new w'
/-- A slice over an object, anywhere in it. -/
theorem SrcOK.obj {k m o b cp : Nat} {l : List AV} (ho : st.obj b = some (.cells l)) (hl : o + m * k <= l.length) (h1 : ∀ y ∈ (l.drop o).take (m * k), y.one = true) : SrcOK P st k m (.s (.slice (some ⟨b, o, none⟩) m cp)) ((l.drop o).take (m * k)) := by
  refine ⟨fun Oth M w xv sto hxv => ?_⟩
  have hxv := VRel.eq_s hxv
  subst hxv
  obtain ⟨cs, e, fr, hb, _, hlen, hrel⟩ := (sto.obj b _ ho).1
  have hreads : Reads w (fun b o => M b o \/ Oth b o) ((l.drop o).take (m * k)) ((List.range' 0 (m * k)).map fun i => cs.getD (o + i) undef) := by
    refine ⟨by simp; omega, fun i x y hx hy => ?_⟩
    have hi : i < m * k := by
      have := (List.getElem?_eq_some_iff.1 hx).1
      simp at this; omega
    rw [List.getElem?_take_of_lt hi, List.getElem?_drop] at hx
    simp [hi] at hy
    subst hy
    refine hrel (o + i) x _ hx ?_
    rw [Array.getElem?_eq_getElem (by omega)]
    simp [show o + i < cs.size by omega]
  refine ⟨by simp [Builtin.lenOf], ((List.range' 0 (m * k)).map fun i => cs.getD (o + i) undef).toArray, by simpa using hreads, by simpa using zik hreads h1, by simp, fun w' hw => ?_⟩
  have := yu (P := P) ⟨b, o, none⟩ w' (fun i => cs.getD (o + i) undef) (m * k) 0 #[] (fun p hp0 hp => by
    rw [x5, zda hw]
    simp only [World.cell?, hb]
    have : o + p < cs.size := by omega
    simp [this])
  simp only [Builtin.firstCells, loadCells]
  simpa using this
end
section
variable {P : Program} {c : Cfg} {st : Store}
end
end Go.V
namespace Go.V
/-- An object that is done with is a plain list in a box. -/
theorem AWp.freezeBx {P : Program} {c : Cfg} {code : Code} {Q : Exit -> Fr -> Store -> Prop} {A : Fr} {st : Store} {d j b n cap k : Nat} {l : List AV} {rows : List (List AV)} {pad : List AV}
    (hA : A.bx d = some l) (hl : l[j]? = some (.s (.slice (some ⟨b, 0, none⟩) n cap))) (ho : st.obj b = some (.cells (rows.flatten ++ pad))) (ht : st.tok b = none) (hn : rows.length = n) (hcap : n <= cap)
    (hk : ∀ row ∈ rows, row.length = k) (hall : ∀ row ∈ rows, ∀ x ∈ row, ∃ v, x = AV.s v /\ z8 v = true)
    (h : AWp P c code Q (A.setBx d (l.set j (.lst k rows none))) (st.delObj b)) : AWp P c code Q A st := by
  refine ⟨fun Oth M a w ⟨β, sim⟩ => ?_⟩
  have hs : ∀ b' o, ((M b' o /\ b' ≠ b) \/ Oth b' o) -> (M b' o \/ Oth b' o) := fun _ _ h => h.imp (·.1) id
  have hbd : β d ≠ b := sim.sep d b (fun e => by rw [hA] at e; cases e) (.inl (by rw [ho]; simp))
  obtain ⟨hcell, hM⟩ := sim.sto.obj b _ ho
  have sim' : SimB c.n Oth β (A.setBx d (l.set j (.lst k rows none))) (st.delObj b) (fun b' o => M b' o /\ b' ≠ b) a w := by
    refine { tsz := sim.tsz, dfr := sim.dfr.sub fun _ _ h => h.1, tm := fun i => ?_, bx := fun q l' hq => ?_, inj := fun q q' h1 h2 => ?_, sep := fun q b' hq hb' => ?_, sto := ?_ }
    · have h1 := sim.tm i
      show LRel w _ β (A.t i) _
      generalize A.t i = x at h1
      cases x with
      | any => trivial
      | und => exact h1
      | av x => exact VRel.mono hs h1
      | bx k off => exact h1
    · have hq2 : (bif Nat.beq q d then some (l.set j (.lst k rows none)) else A.bx q) = some l' := hq
      clear hq
      cases hb : Nat.beq q d with
      | true =>
        rw [hb] at hq2
        have hqd := (yp _ _).1 hb
        subst hqd
        have hq3 : l.set j (.lst k rows none) = l' := Option.some.inj hq2
        subst hq3
        obtain ⟨⟨cs, e, fr, h1, h2, h3, h4⟩, h5⟩ := sim.bx q l hA
        refine ⟨⟨cs, e, fr, h1, h2, by rw [List.length_set]; exact h3, fun i x y hx hy => ?_⟩, fun o => ⟨h5 o, hbd⟩⟩
        rw [List.getElem?_set] at hx
        by_cases e9 : j = i
        · subst e9
          rw [if_pos rfl] at hx
          have hjl := (List.getElem?_eq_some_iff.1 hl).1
          rw [if_pos hjl] at hx
          have hx := Option.some.inj hx
          subst hx
          have h6 := h4 j _ y hl hy
          cases h6
          exact zi7 hcell (fun o hT => hT.elim (fun q => q.2 rfl) (fun q => sim.sto.dis _ _ q (hM o))) hn hcap hk hall
        · rw [if_neg e9] at hx
          exact (h4 i x y hx hy).mono hs
      | false =>
        rw [hb] at hq2
        have hqb : β q ≠ b := sim.sep q b (fun e => by rw [show A.bx q = some l' from hq2] at e; cases e) (.inl (by rw [ho]; simp))
        obtain ⟨⟨cs, e, fr, h1, h2, h3, h4⟩, h5⟩ := sim.bx q l' hq2
        exact ⟨⟨cs, e, fr, h1, h2, h3, fun i x y hx hy => (h4 i x y hx hy).mono hs⟩, fun o => ⟨h5 o, hqb⟩⟩
    · refine sim.inj q q' (fun e => ?_) (fun e => ?_)
      · refine h1 ?_
        show (bif Nat.beq q d then some (l.set j (.lst k rows none)) else A.bx q) = none
        cases hb : Nat.beq q d with
        | true =>
          have := (yp _ _).1 hb
          subst this
          rw [hA] at e; cases e
        | false => exact e
      · refine h2 ?_
        show (bif Nat.beq q' d then some (l.set j (.lst k rows none)) else A.bx q') = none
        cases hb : Nat.beq q' d with
        | true =>
          have := (yp _ _).1 hb
          subst this
          rw [hA] at e; cases e
        | false => exact e
    · refine sim.sep q b' (fun e => ?_) ?_
      · refine hq ?_
        show (bif Nat.beq q d then some (l.set j (.lst k rows none)) else A.bx q) = none
        cases hb : Nat.beq q d with
        | true =>
          have := (yp _ _).1 hb
          subst this
          rw [hA] at e; cases e
        | false => exact e
      · rcases hb' with hb' | hb'
        · cases hx : (st.delObj b).obj b' with
          | none => exact absurd hx hb'
          | some y => exact .inl (by rw [(xb hx).2]; simp)
        · exact .inr hb'
    · exact { obj := fun b' y hy => ⟨(sim.sto.obj b' y (xb hy).2).1.mono hs, fun o => ⟨(sim.sto.obj b' y (xb hy).2).2 o, (xb hy).1⟩⟩
              tok := fun b' top htk => by
                obtain ⟨c, e, fr, h1, h2, h3, h4⟩ := sim.sto.tok b' top htk
                exact ⟨c, e, fr, h1, h2, h3, fun o ho => ⟨h4 o ho, fun e => by subst e; rw [show st.tok b' = some top from htk] at ht; cases ht⟩⟩
              mlt := fun b' o hm => sim.sto.mlt b' o hm.1, olt := sim.sto.olt, dis := fun b' o ho hm => sim.sto.dis b' o ho hm.1 }
  refine Code.wpF_mono ?_ (h.out Oth _ a w ⟨β, sim'⟩)
  rintro e a' w' ⟨A', st', M', h1, h2, h3⟩
  exact ⟨A', st', M', h1, h2, { size := h3.size, keep := fun b' o hb hm => h3.keep b' o hb fun h => hm h.1, blk := fun b' hb hm => h3.blk b' hb fun o h => hm o h.1, shp := h3.shp, sub := fun b' o hm hb => (h3.sub b' o hm hb).1, tape := h3.tape, os := h3.os, output := h3.output }⟩
end Go.V
namespace Go.V
section
variable {P : Program} {c : Cfg} {w : World} {st : Store} {Oth M : Nat -> Nat -> Prop}
theorem ztr {o : Oper} {t : TypeId} {x : Operand} (ho : o.op = .makeInterface t x) {d : TypeDesc} (hd : zw P c.I -> P.underlying t = some d) (hn : ∀ m, d ≠ .interface m) {y : AV} {u : Value}
    (hy : ∀ (w : World) (T : Nat -> Nat -> Prop) (v : Value), VRel w T y v -> v = u) {R : AV -> Store -> Prop} (h : R (.s (.iface t u)) st) : AEff P c o [y] st R := by
  refine ⟨fun Oth M w ρ hI sto hr => ?_⟩
  rw [ho] at hr
  have hr : Reads w (fun b o => M b o \/ Oth b o) [y] [ρ x] := by simpa [Op.operands] using hr
  obtain ⟨v, he, h1⟩ := zlx hr
  simp only [List.cons.injEq, and_true] at he
  rw [<- he] at h1
  have h1 := hy _ _ _ h1
  have hund := zn (P := P) (hd hI)
  have hrun : (execOp ρ o).run P w = .ok (.value (.iface t u)) w := by
    simp only [execOp, ho, Instr.makeInterface, Sem.run_bind, hund, Result.andThen_ok, h1]
    cases d <;> simp at hn ⊢
  rw [hrun]
  exact ⟨_, _, _, h, .s _, sto, Chg.refl M w⟩
/-- A struct without fields behind an interface. -/
theorem zpo {o : Oper} {t : TypeId} {x : Operand} (ho : o.op = .makeInterface t x) {it : TI} (hit : c.I t = some it) (hty : it.ty = .struct []) {R : AV -> Store -> Prop} (h : R (.s (.iface t (.agg #[]))) st) : AEff P c o [.agg []] st R := by
  refine ztr (y := .agg []) ho (d := .struct #[]) (fun hI => ?_) (fun m h => by cases h) (u := .agg #[]) (fun w T v hv => ?_) h
  · obtain ⟨a, h1, h2⟩ := wg (hI _ _ hit) hty
    have : a = #[] := by
      apply Array.ext'
      simpa using h2.symm
    rw [h1, this]
  · obtain ⟨cv, rfl, hl, _⟩ := x8 hv
    have : cv = #[] := by
      apply Array.ext'
      simp at hl
      simpa using hl.symm
    rw [this]
end
end Go.V
namespace Go.V
theorem zqa {P : Program} {t : TypeId} {inf : TypeInfo} (h : P.info? t = some inf) (w : World) : (typeInfo t).run P w = .ok inf w := by
  simp [typeInfo, run_program, h]
/-- A method of a value that is no pointer, told by its row. -/
theorem Meets.val {P : Program} {t : TypeId} {v : Value} {m : String} {g : FuncId} {x : AV} {inf : TypeInfo} {row : Method} {d : TypeDesc} (hi : P.info? t = some inf) (hf : inf.methods.find? (·.name == m) = some row) (hp : row.path = #[])
    (hr : row.func = some (g, false)) (hu : P.underlying t = some d) (hd : ∀ e, d ≠ .pointer e) (hx : ∀ w T, VRel w T x v) : Meets P t v m g x := by
  refine ⟨v, fun w => ?_, hx⟩
  have hdep : P.types.size + Made.depth = (P.types.size + 99) + 1 := rfl
  rw [hdep]
  generalize P.types.size + 99 = n
  have e : row.path.toList = [] := by rw [hp]
  unfold method
  rw [Sem.run_bind, zqa hi, Result.andThen_ok, hf]
  dsimp only
  rw [e]
  unfold follow
  rw [Sem.run_bind, Sem.run_pure, Result.andThen_ok]
  dsimp only
  rw [hr]
  dsimp only
  unfold receiverAt
  cases d <;> simp [zn hu, Place.get] at hd ⊢
/-- A pointer's method, behind an interface that holds the pointer. -/
theorem Meets.ptr {P : Program} {t : TypeId} {v : Value} {m : String} {g : FuncId} {x : AV} {inf : TypeInfo} {row : Method} {e : TypeId} (hi : P.info? t = some inf) (hf : inf.methods.find? (·.name == m) = some row) (hp : row.path = #[])
    (hr : row.func = some (g, true)) (hu : P.underlying t = some (.pointer e)) (hx : ∀ w T, VRel w T x v) : Meets P t v m g x := by
  refine ⟨v, fun w => ?_, hx⟩
  have hdep : P.types.size + Made.depth = (P.types.size + 99) + 1 := rfl
  rw [hdep]
  generalize P.types.size + 99 = n
  have e : row.path.toList = [] := by rw [hp]
  unfold method
  rw [Sem.run_bind, zqa hi, Result.andThen_ok, hf]
  dsimp only
  rw [e]
  unfold follow
  rw [Sem.run_bind, Sem.run_pure, Result.andThen_ok]
  dsimp only
  rw [hr]
  dsimp only
  unfold receiverAt
  simp [zn hu, Place.get]
/-- Asked of the program. -/
def zma (P : Program) (t : TypeId) (m : String) (g : FuncId) (ptr : Bool) : Bool :=
  match P.info? t, P.underlying t with
  | some inf, some d => (match inf.methods.find? (·.name == m) with
    | some row => row.path.isEmpty && (match row.func with | some (f, b) => Nat.beq f g && (b == ptr) | none => false)
    | none => false) && (match d with | .pointer _ => ptr | _ => !ptr)
  | _, _ => false
theorem zsh {P : Program} {t : TypeId} {m : String} {g : FuncId} {ptr : Bool} (h : zma P t m g ptr = true) : ∃ inf row d, P.info? t = some inf /\ inf.methods.find? (·.name == m) = some row /\ row.path = #[] /\ row.func = some (g, ptr) /\ P.underlying t = some d /\ (match d with | .pointer _ => ptr | _ => !ptr) = true := by
  unfold zma at h
  split at h
  · rename_i inf d h1 h2
    rw [Bool.and_eq_true] at h
    obtain ⟨h3, h4⟩ := h
    split at h3
    · rename_i row h5
      rw [Bool.and_eq_true] at h3
      obtain ⟨h6, h7⟩ := h3
      split at h7
      · rename_i f b h8
        rw [Bool.and_eq_true] at h7
        obtain ⟨h9, h10⟩ := h7
        have e1 : f = g := Nat.eq_of_beq_eq_true h9
        have e2 : b = ptr := eq_of_beq h10
        subst e1 e2
        exact ⟨inf, row, d, h1, h5, Array.isEmpty_iff.1 h6, h8, h2, h4⟩
      · cases h7
    · cases h3
  · cases h
theorem Meets.valB {P : Program} {t : TypeId} {v : Value} {m : String} {g : FuncId} {x : AV} (h : zma P t m g false = true) (hx : ∀ w T, VRel w T x v) : Meets P t v m g x := by
  obtain ⟨inf, row, d, h1, h2, h3, h4, h5, h6⟩ := zsh h
  exact Meets.val h1 h2 h3 h4 h5 (fun e he => by subst he; cases h6) hx
end Go.V
namespace Go.V
section
variable {P : Program} {c : Cfg} {st : Store}
/-- What a copy's source reads as: the first n elements of m. -/
structure SrcN (P : Program) (st : Store) (k m n : Nat) (x : AV) (xs : List AV) : Prop where
  out : ∀ (Oth M : Nat -> Nat -> Prop) (w : World) (xv : Value), StoreOK st Oth M w -> VRel w (fun b o => M b o \/ Oth b o) x xv ->
    (Builtin.lenOf xv).run P w = .ok m w /\ ∃ new : Array Value, Reads w (fun b o => M b o \/ Oth b o) xs new.toList /\ (∀ v ∈ new.toList, z8 v = true) /\ new.size = n * k /\ (Builtin.firstCells k n xv).run P w = .ok new w
/-- A slice over an object, anywhere in it. -/
theorem SrcN.obj {k m n o b cp : Nat} {l : List AV} (ho : st.obj b = some (.cells l)) (hl : o + n * k <= l.length) (h1 : ∀ y ∈ (l.drop o).take (n * k), y.one = true) : SrcN P st k m n (.s (.slice (some ⟨b, o, none⟩) m cp)) ((l.drop o).take (n * k)) := by
  refine ⟨fun Oth M w xv sto hxv => ?_⟩
  have hxv := VRel.eq_s hxv
  subst hxv
  obtain ⟨cs, e, fr, hb, _, hlen, hrel⟩ := (sto.obj b _ ho).1
  have hreads : Reads w (fun b o => M b o \/ Oth b o) ((l.drop o).take (n * k)) ((List.range' 0 (n * k)).map fun i => cs.getD (o + i) undef) := by
    refine ⟨by simp; omega, fun i x y hx hy => ?_⟩
    have hi : i < n * k := by
      have := (List.getElem?_eq_some_iff.1 hx).1
      simp at this; omega
    rw [List.getElem?_take_of_lt hi, List.getElem?_drop] at hx
    simp [hi] at hy
    subst hy
    refine hrel (o + i) x _ hx ?_
    rw [Array.getElem?_eq_getElem (by omega)]
    simp [show o + i < cs.size by omega]
  refine ⟨by simp [Builtin.lenOf], ((List.range' 0 (n * k)).map fun i => cs.getD (o + i) undef).toArray, by simpa using hreads, by simpa using zik hreads h1, by simp, ?_⟩
  have := yu (P := P) ⟨b, o, none⟩ w (fun i => cs.getD (o + i) undef) (n * k) 0 #[] (fun p hp0 hp => by
    rw [x5]
    simp only [World.cell?, hb]
    have : o + p < cs.size := by omega
    simp [this])
  simp only [Builtin.firstCells, loadCells]
  simpa using this
/-- A list, whole. -/
theorem SrcN.rows {k : Nat} {x : AV} {rows : List (List AV)} (h : qf k (.av x) = some rows) : SrcN P st k rows.length rows.length x rows.flatten := by
  refine ⟨fun Oth M w xv sto hxv => ?_⟩
  obtain ⟨h1, h2, new, h3, h4, h5, h6⟩ := ks (P := P) (β := fun _ => 0) (k := k) (x := .av x) hxv h
  exact ⟨h1, new, h3, h4, h5, h6 w rfl⟩
/-- 'copy' into an object. -/
theorem znn {o : Oper} {cl : Call} {t e : TypeId} {x y : Operand} (ho : o.op = .call cl) (hcl : cl.callee = .builtin .copy) (hargs : cl.args = #[x, y]) (hat : cl.argTypes[0]? = some t)
    {it ie : TI} (hit : c.I t = some it) (hty : it.ty = .slice e) (hie : c.I e = some ie) {b off d cap m n : Nat} {l xs : List AV} {src : AV} (hsrc : SrcN P st ie.size m n src xs) (hn : n = min m d) (hb : st.obj b = some (.cells l)) (hl : off + n * ie.size <= l.length)
    {R : AV -> Store -> Prop} (h : R (.s (.int .i64 (n : Int))) (st.setObj b (.cells (zo l off xs)))) : AEff P c o [.s (.slice (some ⟨b, off, none⟩) d cap), src] st R := by
  refine ⟨fun Oth M w ρ hI sto hr => ?_⟩
  have hops : o.op.operands = #[x, y] := by rw [ho]; simp [Op.operands, Call.operands, hcl, hargs]
  rw [hops] at hr
  have hr : Reads w (fun b o => M b o \/ Oth b o) [.s (.slice (some ⟨b, off, none⟩) d cap), src] [ρ x, ρ y] := by simpa using hr
  have h1 := VRel.eq_s (hr.2 0 _ (ρ x) rfl rfl)
  have h2 := hr.2 1 _ (ρ y) rfl rfl
  have ht := yb (hI _ _ hit) hty
  have hie := hI _ _ hie
  obtain ⟨g1, new, g2, g3, g4, g5⟩ := hsrc.out Oth M w (ρ y) sto h2
  obtain ⟨⟨cs, e0, fr, hb0, huf, hlen, hrel⟩, hM⟩ := sto.obj b _ hb
  obtain ⟨w', hw1, hw2⟩ := qo (P := P) w b off new.toList 0 w cs e0 fr hb0 (.inl huf) (by rw [Array.length_toList, g4, <- hlen]; omega) g3
  have hund := zn (P := P) ht
  have hmin : Nat.min m d = n := hn.symm
  have hrun : (execOp ρ o).run P w = .ok (.value (.int .i64 (n : Int))) w' := by
    simp [execOp, ho, resolve, hcl, invoke, builtin, hargs, Builtin.copy_, hat, hund, h1, g1, hmin, zu hie, g5, hw1, goInt]
  rw [hrun]
  obtain ⟨k1, k2⟩ := jx sto hb g2 (by rw [Nat.add_zero] at hw2; exact hw2)
  exact ⟨_, _, M, h, .s _, k1, k2⟩
end
end Go.V
