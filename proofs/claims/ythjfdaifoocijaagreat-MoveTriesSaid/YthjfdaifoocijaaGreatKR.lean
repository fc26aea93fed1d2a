/- Ground of laws of thronglaw24: contracts and plain lemmas; no condition beyond the row's own. -/
import Derived.Test.YthjfdaifoocijaaGreatKJ
set_option linter.unusedSimpArgs false
set_option linter.unusedVariables false
namespace Go.V
def atD (d : List Int) (u : Nat) : Int := d.getD u (-1)
def K8 (g : Gnd) (ok : Nat -> Bool) (c : Int) (goal : Nat) (d : List Int) : Bool :=
 decide (d.length = g.T.length) && d.all (fun x => decide (x = -1 \/ 0 <= x)) && decide (atD d goal = 0) &&
 (List.range g.T.length).all (fun u => decide (u = goal) || decide (atD d u < 0) || (ok u && (List.range g.T.length).any fun t => ok t && decide (0 <= atD d t) && (List.range 8).any fun way =>
  decide (zx g t way = u) && decide (0 < yl g ok c t way) && decide (atD d t + yl g ok c t way <= atD d u))) &&
 (List.range g.T.length).all (fun t => decide (atD d t < 0) || !ok t || (List.range 8).all fun way => decide (yl g ok c t way <= 0) ||
  (decide (0 <= atD d (zx g t way).toNat) && decide (atD d (zx g t way).toNat <= atD d t + yl g ok c t way)))
theorem zrt {g : Gnd} {ok : Nat -> Bool} {c : Int} {goal : Nat} {d : List Int} (h : K8 g ok c goal d = true) : FarOK (ju g ok c) goal (atD d) := by
 unfold K8 at h
 simp only [Bool.and_eq_true, decide_eq_true_eq, List.all_eq_true, List.any_eq_true, Bool.or_eq_true, Bool.not_eq_true', List.mem_range] at h
 obtain ⟨⟨⟨⟨h1, h2⟩, h3⟩, h4⟩, h5⟩ := h
 have out : ∀ u, g.T.length <= u -> atD d u = -1 := fun u hu => by
  unfold atD
  rw [List.getD_eq_getElem?_getD, List.getElem?_eq_none (by omega)]
  rfl
 refine ⟨fun u => ?_, h3, fun u hu hl => ?_, fun t u k ht hE => ?_⟩
 ·by_cases hu : u < g.T.length
  ·have hd : u < d.length := by omega
   have : atD d u = d[u] := by unfold atD; rw [List.getD_eq_getElem?_getD, List.getElem?_eq_getElem hd]; rfl
   rw [this]
   exact h2 _ (List.getElem_mem hd)
  ·exact .inl (out u (by omega))
 ·have hun : u < g.T.length := by
   apply Decidable.byContradiction
   intro hx
   rw [out u (by omega)] at hl
   omega
  rcases h4 u hun with (h6 | h6) | ⟨h6, t, htn, ⟨h7, h8⟩, way, hw, ⟨h9, h10⟩, h11⟩
  ·exact absurd h6 hu
  ·omega
  ·exact ⟨t, yl g ok c t way, h8, ⟨h7, htn, way, hw, h9, h6, rfl, h10⟩, h11⟩
 ·obtain ⟨hok, htn, way, hw, hb, hok2, hk, hp⟩ := hE
  rcases h5 t htn with (h6 | h6) | h6
  ·omega
  ·rw [hok] at h6; cases h6
  ·rcases h6 way hw with h7 | ⟨h7, h8⟩
   ·omega
   ·rw [hb, Int.toNat_natCast] at h7 h8
    rw [hk]
    exact ⟨h7, h8⟩
theorem zrs {g : Gnd} {ok : Nat -> Bool} {c : Int} {goal : Nat} (hok : ok goal = true) {d : List Int} (h : K8 g ok c goal d = true) : xd g ok c goal = atD d := cw hok (zrt h)
/-- The next tile, as its costs are told. -/
def Wq (w : Wld) (u : Unt) (own : Nat) (d : Nat -> Int) : Int :=
 if u.pos ≠ qf w.G own then own else
  (let way := if d own <= 0 then -1 else match (List.range 8).find? fun way => decide (0 < yl w.G (okU w u) (yh u.kind) own way /\ 0 <= d (zx w.G own way).toNat /\ yl w.G (okU w u) (yh u.kind) own way + d (zx w.G own way).toNat = d own) with
   | some way => (way : Int)
   | none => -1
   if way < 0 then -1 else zx w.G own way.toNat)
def zqt (w : Wld) (u : Unt) (d : Nat -> Int) : Wld :=
 if u.pos = qf w.G u.goal.toNat then ya w (j6 2 u)
 else if Dk w u (ja w.G u.pos) then
  (if Wq w u (ja w.G u.pos) d < 0 then ya w (j6 3 u) else Bx w { u with next := Wq w u (ja w.G u.pos) d })
 else Bx w u
def R0 (w : Wld) (u : Unt) (d : Nat -> Int) : Wld := if u.goal = -1 then Ag w u else zqt w u d
theorem lh {w : Wld} {u : Unt} {d : Nat -> Int} (h : xd w.G (okU w u) (yh u.kind) u.goal.toNat = d) : kl w u = R0 w u d := by
 subst h
 rfl
def wkG : Gnd := ⟨2, 1, [0, 0]⟩
def gw : Wld := { tick := 0, players := 1, next := 2, G := wkG, B := [], U := [{ id := 1, owner := 1, kind := 0, pos := (32768, 32768), goal := 1, next := -1, stuck := 0, inn := 0, state := 1 }] }
def wkD : List Int := [20, 0]
def ld : Unt := { id := 0, owner := 0, kind := 0, pos := (0, 0), goal := 0, next := 0, stuck := 0, inn := 0, state := 0 }
def k9 (w : Wld) : Unt := w.U.headD ld
def wkS : Nat -> Wld
 | 0 => gw
 | n + 1 => R0 (wkS n) (k9 (wkS n)) (atD wkD)
theorem Ig : ∀ n, n < 6 -> yg (wkS n) := by decide +kernel
theorem Br : ∀ n, n < 6 -> (wkS n).U = [k9 (wkS n)] /\ (k9 (wkS n)).id = 1 /\ (k9 (wkS n)).inn = 0 /\ (wkS n).G = wkG /\ (wkS n).B = [] := by decide +kernel
theorem gp : ∀ n, n < 5 -> okU (wkS n) (k9 (wkS n)) (k9 (wkS n)).goal.toNat = true /\ K8 (wkS n).G (okU (wkS n) (k9 (wkS n))) (yh (k9 (wkS n)).kind) (k9 (wkS n)).goal.toNat wkD = true := by decide +kernel
theorem gq : (k9 (wkS 5)).pos = qf wkG 1 /\ (k9 (wkS 5)).state = 2 := by decide +kernel
theorem gr : qf wkG 0 = (32768, 32768) := by decide +kernel
theorem gk {n : Nat} (hn : n < 5) : kl (wkS n) (k9 (wkS n)) = wkS (n + 1) := by
 obtain ⟨h1, h2⟩ := gp n hn
 exact lh (zrs h1 h2)
theorem Rl : zl wkG := by decide +kernel
/-- An object that is done with is a plain list in a box. -/
theorem AWp.freezeBx {P : Program} {c : Cfg} {code : Code} {Q : Exit -> Fr -> Store -> Prop} {A : Fr} {st : Store} {d j b n cap k : Nat} {l : List AV} {rows : List (List AV)} {pad : List AV}
    (hA : A.bx d = some l) (hl : l[j]? = some (.s (.slice (some ⟨b, 0, none⟩) n cap))) (ho : st.obj b = some (.cells (rows.flatten ++ pad))) (ht : st.tok b = none) (hn : rows.length = n) (hcap : n <= cap)
    (hk : ∀ row ∈ rows, row.length = k) (hall : ∀ row ∈ rows, ∀ x ∈ row, ∃ v, x = AV.s v /\ y6 v = true)
    (h : AWp P c code Q (A.setBx d (l.set j (.lst k rows none))) (st.delObj b)) : AWp P c code Q A st := by
  refine ⟨fun Oth M a w ⟨β, sim⟩ => ?_⟩
  have hs : ∀ b' o, ((M b' o /\ b' ≠ b) \/ Oth b' o) -> (M b' o \/ Oth b' o) := fun _ _ h => h.imp (·.1) id
  have hbd : β d ≠ b := sim.sep d b (fun e => by rw [hA] at e; cases e) (.inl (by rw [ho]; simp))
  obtain ⟨hcell, hM⟩ := sim.sto.obj b _ ho
  have sim' : SimB c.N Oth β (A.setBx d (l.set j (.lst k rows none))) (st.delObj b) (fun b' o => M b' o /\ b' ≠ b) a w := by
    refine { tsz := sim.tsz, dfr := sim.dfr.sub fun _ _ h => h.1, tm := fun i => ?_, bx := fun q l' hq => ?_, inj := fun q q' h1 h2 => ?_, sep := fun q b' hq hb' => ?_, sto := ?_ }
    · have h1 := sim.tm i
      show LRel w _ β (A.t i) _
      generalize A.t i = x at h1
      cases x with
      | any => trivial
      | und => exact h1
      | av x => exact VRel.mono hs h1
      | bx k off => exact h1
    · have hq2 : (bif Nat.beq q d then some (l.set j (.lst k rows none)) else A.bx q) = some l' := hq
      clear hq
      cases hb : Nat.beq q d with
      | true =>
        rw [hb] at hq2
        have hqd := (qs _ _).1 hb
        subst hqd
        have hq3 : l.set j (.lst k rows none) = l' := Option.some.inj hq2
        subst hq3
        obtain ⟨⟨cs, e, fr, h1, h2, h3, h4⟩, h5⟩ := sim.bx q l hA
        refine ⟨⟨cs, e, fr, h1, h2, by rw [List.length_set]; exact h3, fun i x y hx hy => ?_⟩, fun o => ⟨h5 o, hbd⟩⟩
        rw [List.getElem?_set] at hx
        by_cases e9 : j = i
        · subst e9
          rw [if_pos rfl] at hx
          have hjl := (List.getElem?_eq_some_iff.1 hl).1
          rw [if_pos hjl] at hx
          have hx := Option.some.inj hx
          subst hx
          have h6 := h4 j _ y hl hy
          cases h6
          exact ez hcell (fun o hT => hT.elim (fun q => q.2 rfl) (fun q => sim.sto.dis _ _ q (hM o))) hn hcap hk hall
        · rw [if_neg e9] at hx
          exact (h4 i x y hx hy).mono hs
      | false =>
        rw [hb] at hq2
        have hqb : β q ≠ b := sim.sep q b (fun e => by rw [show A.bx q = some l' from hq2] at e; cases e) (.inl (by rw [ho]; simp))
        obtain ⟨⟨cs, e, fr, h1, h2, h3, h4⟩, h5⟩ := sim.bx q l' hq2
        exact ⟨⟨cs, e, fr, h1, h2, h3, fun i x y hx hy => (h4 i x y hx hy).mono hs⟩, fun o => ⟨h5 o, hqb⟩⟩
    · refine sim.inj q q' (fun e => ?_) (fun e => ?_)
      · refine h1 ?_
        show (bif Nat.beq q d then some (l.set j (.lst k rows none)) else A.bx q) = none
        cases hb : Nat.beq q d with
        | true =>
          have := (qs _ _).1 hb
          subst this
          rw [hA] at e; cases e
        | false => exact e
      · refine h2 ?_
        show (bif Nat.beq q' d then some (l.set j (.lst k rows none)) else A.bx q') = none
        cases hb : Nat.beq q' d with
        | true =>
          have := (qs _ _).1 hb
          subst this
          rw [hA] at e; cases e
        | false => exact e
    · refine sim.sep q b' (fun e => ?_) ?_
      · refine hq ?_
        show (bif Nat.beq q d then some (l.set j (.lst k rows none)) else A.bx q) = none
        cases hb : Nat.beq q d with
        | true =>
          have := (qs _ _).1 hb
          subst this
          rw [hA] at e; cases e
        | false => exact e
      · rcases hb' with hb' | hb'
        · cases hx : (st.delObj b).obj b' with
          | none => exact absurd hx hb'
          | some y => exact .inl (by rw [(Cq hx).2]; simp)
        · exact .inr hb'
    · exact { obj := fun b' y hy => ⟨(sim.sto.obj b' y (Cq hy).2).1.mono hs, fun o => ⟨(sim.sto.obj b' y (Cq hy).2).2 o, (Cq hy).1⟩⟩
              tok := fun b' top htk => by
                obtain ⟨c, e, fr, h1, h2, h3, h4⟩ := sim.sto.tok b' top htk
                exact ⟨c, e, fr, h1, h2, h3, fun o ho => ⟨h4 o ho, fun e => by subst e; rw [show st.tok b' = some top from htk] at ht; cases ht⟩⟩
              mlt := fun b' o hm => sim.sto.mlt b' o hm.1, olt := sim.sto.olt, dis := fun b' o ho hm => sim.sto.dis b' o ho hm.1 }
  refine Code.wpF_mono ?_ (h.out Oth _ a w ⟨β, sim'⟩)
  rintro e a' w' ⟨A', st', M', h1, h2, h3⟩
  exact ⟨A', st', M', h1, h2, { size := h3.size, keep := fun b' o hb hm => h3.keep b' o hb fun h => hm h.1, blk := fun b' hb hm => h3.blk b' hb fun o h => hm o h.1, shp := h3.shp, sub := fun b' o hm hb => (h3.sub b' o hm hb).1, tape := h3.tape, os := h3.os, output := h3.output }⟩
section
variable {P : Program} {c : Cfg} {w : World} {st : Store} {Oth M : Nat -> Nat -> Prop}
theorem zuy {o : Oper} {t : TypeId} {x : Operand} (ho : o.op = .makeInterface t x) {d : TypeDesc} (hd : ye P c.I -> P.underlying t = some d) (hn : ∀ m, d ≠ .interface m) {y : AV} {u : Value}
    (hy : ∀ (w : World) (T : Nat -> Nat -> Prop) (v : Value), VRel w T y v -> v = u) {R : AV -> Store -> Prop} (h : R (.s (.iface t u)) st) : AEff P c o [y] st R := by
  refine ⟨fun Oth M w ρ hI sto hr => ?_⟩
  rw [ho] at hr
  have hr : Reads w (fun b o => M b o \/ Oth b o) [y] [ρ x] := by simpa [Op.operands] using hr
  obtain ⟨v, he, h1⟩ := He hr
  simp only [List.cons.injEq, and_true] at he
  rw [<- he] at h1
  have h1 := hy _ _ _ h1
  have hund := zz (P := P) (hd hI)
  have hrun : (execOp ρ o).run P w = .ok (.value (.iface t u)) w := by
    simp only [execOp, ho, Instr.makeInterface, Sem.run_bind, hund, Result.andThen_ok, h1]
    cases d <;> simp at hn ⊢
  rw [hrun]
  exact ⟨_, _, _, h, .s _, sto, Chg.refl M w⟩
/-- A struct without fields behind an interface. -/
theorem fy {o : Oper} {t : TypeId} {x : Operand} (ho : o.op = .makeInterface t x) {it : TI} (hit : c.I t = some it) (hty : it.ty = .struct []) {R : AV -> Store -> Prop} (h : R (.s (.iface t (.agg #[]))) st) : AEff P c o [.agg []] st R := by
  refine zuy (y := .agg []) ho (d := .struct #[]) (fun hI => ?_) (fun m h => by cases h) (u := .agg #[]) (fun w T v hv => ?_) h
  · obtain ⟨a, h1, h2⟩ := Fa (hI _ _ hit) hty
    have : a = #[] := by
      apply Array.ext'
      simpa using h2.symm
    rw [h1, this]
  · obtain ⟨cv, rfl, hl, _⟩ := ww hv
    have : cv = #[] := by
      apply Array.ext'
      simp at hl
      simpa using hl.symm
    rw [this]
end
theorem Vm {P : Program} {t : TypeId} {inf : TypeInfo} (h : P.info? t = some inf) (w : World) : (typeInfo t).run P w = .ok inf w := by
  simp [typeInfo, run_program, h]
/-- A method of a value that is no pointer, told by its row. -/
theorem Meets.val {P : Program} {t : TypeId} {v : Value} {m : String} {g : FuncId} {x : AV} {inf : TypeInfo} {row : Method} {d : TypeDesc} (hi : P.info? t = some inf) (hf : inf.methods.find? (·.name == m) = some row) (hp : row.path = #[])
    (hr : row.func = some (g, false)) (hu : P.underlying t = some d) (hd : ∀ e, d ≠ .pointer e) (hx : ∀ w T, VRel w T x v) : Meets P t v m g x := by
  refine ⟨v, fun w => ?_, hx⟩
  have hdep : P.types.size + Made.depth = (P.types.size + 99) + 1 := rfl
  rw [hdep]
  generalize P.types.size + 99 = n
  have e : row.path.toList = [] := by rw [hp]
  unfold method
  rw [Sem.run_bind, Vm hi, Result.andThen_ok, hf]
  dsimp only
  rw [e]
  unfold follow
  rw [Sem.run_bind, Sem.run_pure, Result.andThen_ok]
  dsimp only
  rw [hr]
  dsimp only
  unfold receiverAt
  cases d <;> simp [zz hu, Place.get] at hd ⊢
/-- A pointer's method, behind an interface that holds the pointer. -/
theorem Meets.ptr {P : Program} {t : TypeId} {v : Value} {m : String} {g : FuncId} {x : AV} {inf : TypeInfo} {row : Method} {e : TypeId} (hi : P.info? t = some inf) (hf : inf.methods.find? (·.name == m) = some row) (hp : row.path = #[])
    (hr : row.func = some (g, true)) (hu : P.underlying t = some (.pointer e)) (hx : ∀ w T, VRel w T x v) : Meets P t v m g x := by
  refine ⟨v, fun w => ?_, hx⟩
  have hdep : P.types.size + Made.depth = (P.types.size + 99) + 1 := rfl
  rw [hdep]
  generalize P.types.size + 99 = n
  have e : row.path.toList = [] := by rw [hp]
  unfold method
  rw [Sem.run_bind, Vm hi, Result.andThen_ok, hf]
  dsimp only
  rw [e]
  unfold follow
  rw [Sem.run_bind, Sem.run_pure, Result.andThen_ok]
  dsimp only
  rw [hr]
  dsimp only
  unfold receiverAt
  simp [zz hu, Place.get]
/-- Asked of the program. -/
def Hm (P : Program) (t : TypeId) (m : String) (g : FuncId) (ptr : Bool) : Bool :=
  match P.info? t, P.underlying t with
  | some inf, some d => (match inf.methods.find? (·.name == m) with
    | some row => row.path.isEmpty && (match row.func with | some (f, b) => Nat.beq f g && (b == ptr) | none => false)
    | none => false) && (match d with | .pointer _ => ptr | _ => !ptr)
  | _, _ => false
theorem zot {P : Program} {t : TypeId} {m : String} {g : FuncId} {ptr : Bool} (h : Hm P t m g ptr = true) : ∃ inf row d, P.info? t = some inf /\ inf.methods.find? (·.name == m) = some row /\ row.path = #[] /\ row.func = some (g, ptr) /\ P.underlying t = some d /\ (match d with | .pointer _ => ptr | _ => !ptr) = true := by
  unfold Hm at h
  split at h
  · rename_i inf d h1 h2
    rw [Bool.and_eq_true] at h
    obtain ⟨h3, h4⟩ := h
    split at h3
    · rename_i row h5
      rw [Bool.and_eq_true] at h3
      obtain ⟨h6, h7⟩ := h3
      split at h7
      · rename_i f b h8
        rw [Bool.and_eq_true] at h7
        obtain ⟨h9, h10⟩ := h7
        have e1 : f = g := Nat.eq_of_beq_eq_true h9
        have e2 : b = ptr := eq_of_beq h10
        subst e1 e2
        exact ⟨inf, row, d, h1, h5, Array.isEmpty_iff.1 h6, h8, h2, h4⟩
      · cases h7
    · cases h3
  · cases h
theorem Meets.valB {P : Program} {t : TypeId} {v : Value} {m : String} {g : FuncId} {x : AV} (h : Hm P t m g false = true) (hx : ∀ w T, VRel w T x v) : Meets P t v m g x := by
  obtain ⟨inf, row, d, h1, h2, h3, h4, h5, h6⟩ := zot h
  exact Meets.val h1 h2 h3 h4 h5 (fun e he => by subst he; cases h6) hx
def jc : Nat -> (Nat -> Nat) -> Nat
 | 0, _ => 0
 | n + 1, f => jc n f + f n
theorem M4 {f g : Nat -> Nat} : ∀ n, (∀ t, t < n -> f t = g t) -> jc n f = jc n g
 | 0, _ => rfl
 | n + 1, h => by
  show jc n f + f n = jc n g + g n
  rw [M4 n (fun t ht => h t (by omega)), h n (by omega)]
theorem Mz {f g : Nat -> Nat} : ∀ n, (∀ t, t < n -> f t <= g t) -> jc n f <= jc n g
 | 0, _ => Nat.le_refl _
 | n + 1, h => by
  show jc n f + f n <= jc n g + g n
  have := Mz n (fun t ht => h t (by omega))
  have := h n (by omega)
  omega
theorem M3 (c : Nat) : ∀ n, jc n (fun _ => c) = n * c
 | 0 => by simp [jc]
 | n + 1 => by
  show jc n (fun _ => c) + c = _
  rw [M3 c n, Nat.succ_mul]
/-- One place is another. -/
theorem Iw {f g : Nat -> Nat} {u : Nat} : ∀ n, u < n -> (∀ t, t < n -> t ≠ u -> f t = g t) -> jc n f + g u = jc n g + f u
 | 0, hu, _ => by omega
 | n + 1, hu, h => by
  show jc n f + f n + g u = jc n g + g n + f u
  by_cases e : u = n
  ·subst e
   rw [M4 u (fun t ht => h t (by omega) (by omega))]
   omega
  ·have := Iw (f := f) (g := g) n (by omega) (fun t ht hne => h t (by omega) hne)
   have := h n (by omega) (Ne.symm e)
   omega
/-- How many are told. -/
def we (n : Nat) (d : Nat -> Int) : Nat := jc n fun t => if 0 <= d t then 1 else 0
theorem l4 (n : Nat) (d : Nat -> Int) : we n d <= n := by
 have := Mz (f := fun t => if 0 <= d t then 1 else 0) (g := fun _ => 1) n (fun t _ => by split <;> omega)
 rw [M3] at this
 unfold we
 omega
theorem l3 {n : Nat} {d : Nat -> Int} {u : Nat} (hu : u < n) (h : d u < 0) {x : Int} (hx : 0 <= x) : we n (yd d u x) = we n d + 1 := by
 have := Iw (f := fun t => if 0 <= yd d u x t then 1 else 0) (g := fun t => if 0 <= d t then 1 else 0) n hu (fun t _ hne => by simp only [xi hne])
 simp only [j9, if_pos hx, if_neg (show ¬ 0 <= d u by omega)] at this
 unfold we
 omega
theorem l2 {n : Nat} {d : Nat -> Int} {u : Nat} (h : 0 <= d u) {x : Int} (hx : 0 <= x) : we n (yd d u x) = we n d := by
 unfold we
 refine M4 n fun t _ => ?_
 by_cases e : t = u
 ·subst e; rw [j9, if_pos hx, if_pos h]
 ·rw [xi e]
/-- Costs stay small. -/
def Dx (n : Nat) (d : Nat -> Int) : Prop := ∀ t, d t <= 84 * (we n d : Int) - 84 \/ d t < 0
theorem zsy {n goal : Nat} (hg : goal < n) {d : Nat -> Int} (hd : ∀ u, d u = if u = goal then 0 else -1) : Dx n d := by
 intro t
 have h1 : 1 <= we n d := by
  have := Iw (f := fun t => if 0 <= d t then 1 else 0) (g := fun t => if t = goal then 0 else if 0 <= d t then 1 else 0) n hg (fun t _ hne => by rw [if_neg hne])
  have h0 : (if 0 <= d goal then 1 else 0) = 1 := by rw [hd, if_pos rfl]; rfl
  simp only [if_true, h0] at this
  unfold we
  omega
 rw [hd]
 split
 ·left; omega
 ·right; omega
theorem du {n : Nat} {d : Nat -> Int} (h : Dx n d) {t u : Nat} {c : Int} (hu : u < n) (ht : 0 <= d t) (hc : 0 < c /\ c <= 84) (hl : d u < 0 \/ d t + c < d u) : Dx n (yd d u (d t + c)) := by
 have hdt := h t
 by_cases hn : d u < 0
 ·have e := l3 (n := n) hu hn (show 0 <= d t + c by omega)
  intro v
  rw [e]
  by_cases ev : v = u
  ·subst ev; rw [j9]; omega
  ·rw [xi ev]
   have := h v
   omega
 ·have e := l2 (n := n) (d := d) (u := u) (by omega) (show 0 <= d t + c by omega)
  intro v
  rw [e]
  by_cases ev : v = u
  ·subst ev; rw [j9]
   have := h v
   omega
  ·rw [xi ev]; exact h v
theorem Pq {n : Nat} {d : Nat -> Int} (h : Dx n d) (t : Nat) : d t <= 84 * (n : Int) := by
 have := h t
 have := l4 n d
 omega
/-- How many are not done. -/
def wh (n : Nat) (dn : Nat -> Bool) : Nat := jc n fun t => if dn t then 0 else 1
theorem znq {n : Nat} {dn : Nat -> Bool} {t : Nat} (ht : t < n) (h : dn t = false) : wh n (yd dn t true) + 1 = wh n dn := by
 have := Iw (f := fun v => if yd dn t true v = true then 0 else 1) (g := fun v => if dn v = true then 0 else 1) n ht (fun v _ hne => by simp only [xi hne])
 simp only [j9, h, if_true, Bool.false_eq_true, if_false] at this
 unfold wh
 omega
theorem zml {l : List (Int × Int)} (h : xr l) (x : Int × Int) : UpF (qat (l ++ [x])) (l ++ [x]).length l.length := by
 have h2 : D6 (qat (l ++ [x])) l.length := fun j h0 hj => by
  rw [V5 l x j hj, V5 l x (par j) (by have := k8 h0; omega)]
  exact h j h0 hj
 have := i7 h2
 simpa using this
theorem zmi {l : List (Int × Int)} {i : Nat} (h : UpF (qat l) l.length i) (h0 : 0 < i) (hi : i < l.length) (hl : qlt (qat l i) (qat l (par i))) :
  UpF (qat (xk l i (par i))) (xk l i (par i)).length (par i) /\ (xk l i (par i)).Perm l := by
 have hp := k8 h0
 rw [V4 hi (by omega), Ff]
 exact ⟨i6 h h0 hi hl, Sk hi (by omega)⟩
theorem V2 {l : List (Int × Int)} {i : Nat} (h : UpF (qat l) l.length i) (hi : i = 0 \/ ¬ qlt (qat l i) (qat l (par i))) : xr l := i8 h hi
theorem zmk (l : List (Int × Int)) (x : Int × Int) : (l ++ [x]).Perm (x :: l) := List.perm_append_singleton x l
/-- The last one comes to the top. -/
theorem zmn {l : List (Int × Int)} {n : Nat} (hl : l.length = n + 1) : l.Perm (qat l 0 :: (l.set 0 (qat l n)).take n) := by
 obtain ⟨a, t, rfl⟩ : ∃ a t, l = a :: t := by
  cases l with
  | nil => simp at hl
  | cons a t => exact ⟨a, t, rfl⟩
 simp only [List.length_cons, Nat.add_right_cancel_iff] at hl
 have e0 : qat (a :: t) 0 = a := rfl
 rw [e0]
 refine List.Perm.cons a ?_
 cases n with
 | zero =>
  have : t = [] := List.eq_nil_of_length_eq_zero hl
  subst this
  simp
 | succ n =>
  have e1 : qat (a :: t) (n + 1) = t[n]'(by omega) := by
   rw [I9 (by simp; omega)]
   rfl
  rw [e1]
  show t.Perm ((t[n]'(by omega) :: t).take (n + 1))
  rw [List.take_succ_cons]
  have e2 : t = t.take n ++ [t[n]'(by omega)] := by
   have h1 := List.take_append_drop n t
   have h2 : t.drop n = [t[n]'(by omega)] := by
    rw [List.drop_eq_getElem_cons (by omega), List.drop_eq_nil_of_le (by omega)]
   rw [h2] at h1
   exact h1.symm
  exact (List.Perm.of_eq e2).trans (List.perm_append_singleton _ _)
theorem zmp {l : List (Int × Int)} {n : Nat} (hl : l.length = n + 1) (h : xr l) : Bq (qat ((l.set 0 (qat l n)).take n)) ((l.set 0 (qat l n)).take n).length 0 := by
 have hlen : ((l.set 0 (qat l n)).take n).length = n := by simp; omega
 rw [hlen]
 have h2 : D6 (qat l) (n + 1) := by rw [<- hl]; exact h
 have key : ∀ j, 0 < j -> j < n -> qat ((l.set 0 (qat l n)).take n) j = qat l j := fun j h0 hj => by
  unfold qat
  simp only [List.getD, List.getElem?_take_of_lt hj]
  rw [List.getElem?_set_ne (by omega)]
 refine ⟨fun j h0 hj hp => ?_, fun j h0 hj hp h1 => by omega⟩
 rw [key j h0 hj, key (par j) (by omega) (by have := k8 h0; omega)]
 exact h2 j h0 (by omega)
theorem zmo {l : List (Int × Int)} (h : xr l) : ∀ e ∈ l, ¬ qlt e (qat l 0) := fun e he => by
 obtain ⟨j, hj, rfl⟩ := List.getElem_of_mem he
 rw [<- I9 hj]
 exact zpz h j hj
theorem zmq {l : List (Int × Int)} {i : Nat} (h : Bq (qat l) l.length i) (hc : l.length <= 2 * i + 1) : xr l :=
 dh h fun j h0 hj hp => by
  rcases (Hj h0).1 hp with e | e <;> omega
/-- The lesser child k. -/
theorem Nq {l : List (Int × Int)} {i k : Nat} (h : Bq (qat l) l.length i) (hk : ∀ j, 0 < j -> j < l.length -> par j = i -> ¬ qlt (qat l j) (qat l k)) (hs : ¬ qlt (qat l k) (qat l i)) : xr l :=
 dh h fun j h0 hj hp => I7 hs (hk j h0 hj hp)
theorem Nr {l : List (Int × Int)} {i k : Nat} (h : Bq (qat l) l.length i) (hk0 : 0 < k) (hk : k < l.length) (hki : par k = i) (hmin : ∀ j, 0 < j -> j < l.length -> par j = i -> ¬ qlt (qat l j) (qat l k)) (hl : qlt (qat l k) (qat l i)) :
  Bq (qat (xk l i k)) (xk l i k).length k /\ (xk l i k).Perm l := by
 have hp := k8 hk0
 rw [V4 (by omega) hk, Ff]
 exact ⟨zr6 h hk0 hk hki hmin hl, Sk (by omega) hk⟩
theorem Pt {f : Nat -> Int × Int} {n i k : Nat} (hk : k = 2 * i + 1 /\ (2 * i + 2 < n -> ¬ qlt (f (2 * i + 2)) (f (2 * i + 1))) \/ k = 2 * i + 2 /\ qlt (f (2 * i + 2)) (f (2 * i + 1))) : ∀ j, 0 < j -> j < n -> par j = i -> ¬ qlt (f j) (f k) := by
 intro j h0 hj hp
 rcases (Hj h0).1 hp with e | e
 ·subst e
  rcases hk with ⟨rfl, _⟩ | ⟨rfl, h2⟩
  ·exact Nt _
  ·exact I8 h2
 ·subst e
  rcases hk with ⟨rfl, h1⟩ | ⟨rfl, h2⟩
  ·exact h1 hj
  ·exact Nt _
def itC (x : Int × Int) : List AV := [int x.1, int x.2]
theorem Dp (x : Int × Int) : (itC x).length = 2 := rfl
structure QAt (F : Store) (p b cap : Nat) (l : List (Int × Int)) (L : List AV) : Prop where
 hp : F.obj p = some (.cells [.s (.slice (some ⟨b, 0, none⟩) l.length cap)])
 hb : F.obj b = some (.cells ((rws itC l).flatten ++ L))
 ne : b ≠ p
 h1 : l.length <= cap
 h2 : cap * 2 <= l.length * 2 + L.length
 h3 : cap <= 9223372036854775807
def QOf (F : Store) (p : Nat) (l : List (Int × Int)) : Prop := (F.obj p = some (.cells [.s (.slice none 0 0)]) /\ l = []) \/ ∃ b cap L, QAt F p b cap l L
theorem QOf.rows {F : Store} {p : Nat} {l : List (Int × Int)} (h : QOf F p l) : ∃ v, F.obj p = some (.cells [v]) /\ RowsO 2 itC F v l /\ ∀ b c0, v = .s (.slice (some ⟨b, 0, none⟩) l.length c0) -> b ≠ p := by
 rcases h with ⟨h, rfl⟩ | ⟨b, cap, L, h⟩
 ·exact ⟨_, h, .inl ⟨rfl, rfl⟩, fun b c0 e => by simp at e⟩
 ·refine ⟨_, h.hp, .inr ⟨b, cap, L, rfl, h.hb, h.h1, h.h2, h.h3⟩, fun b' c0 e => ?_⟩
  simp only [AV.s.injEq, Value.slice.injEq, Option.some.injEq, Addr.mk.injEq] at e
  exact e.1.1 ▸ h.ne
theorem QOf.pos {F : Store} {p : Nat} {l : List (Int × Int)} (h : QOf F p l) (hl : 0 < l.length) : ∃ b cap L, QAt F p b cap l L := by
 rcases h with ⟨h, rfl⟩ | h
 ·exact absurd hl (Nat.lt_irrefl 0)
 ·exact h
/-- One element is written. -/
theorem zo8 {l : List (Int × Int)} {i : Nat} (hi : i < l.length) (x : Int × Int) (L : List AV) : zy ((rws itC l).flatten ++ L) (0 + i * 2) (itC x) = (rws itC (l.set i x)).flatten ++ L := by
 have := Fi (f := itC) (k := 2) Dp hi (j := 0) (x' := x) (ys := itC x) (L := L) (by show 0 + 2 <= 2; omega) (by
  unfold zy
  rw [Dp]
  rfl)
 rw [Nat.add_zero] at this
 rw [Nat.zero_add]
 exact this
theorem xm {l : List (Int × Int)} {L : List AV} {i : Nat} (hi : i < l.length) : List.drop (0 + i * 2) ((rws itC l).flatten ++ L) = itC (qat l i) ++ ((rws itC (l.drop (i + 1))).flatten ++ L) := by
 have h1 : (rws itC (l.take i)).flatten.length = i * 2 := by rw [k7 Dp, List.length_take, Nat.min_eq_left (by omega)]
 rw [Nat.zero_add, Iz hi, List.append_assoc, <- h1, List.drop_left, List.append_assoc, I9 hi]
theorem Bg {l : List (Int × Int)} {L : List AV} {i : Nat} (hi : i < l.length) (x : Int × Int) : 0 + i * 2 + (itC x).length <= ((rws itC l).flatten ++ L).length := by
 rw [List.length_append, k7 Dp, Dp]
 omega
theorem QAt.set {F : Store} {p b cap : Nat} {l : List (Int × Int)} {L : List AV} (h : QAt F p b cap l L) {i : Nat} (hi : i < l.length) (x : Int × Int) : QAt (F.setObj b (.cells (zy ((rws itC l).flatten ++ L) (0 + i * 2) (itC x)))) p b cap (l.set i x) L := by
 rw [zo8 hi]
 exact ⟨by rw [zq (Ne.symm h.ne), List.length_set]; exact h.hp, zd _ _ _, h.ne, by rw [List.length_set]; exact h.h1, by rw [List.length_set]; exact h.h2, h.h3⟩
/-- The last one is cut off. -/
theorem QAt.cut {F : Store} {p b cap : Nat} {l : List (Int × Int)} {L : List AV} (h : QAt F p b cap l L) {n : Nat} (hn : n <= l.length) : QAt (F.setObj p (.cells [.s (.slice (some ⟨b, 0, none⟩) n cap)])) p b cap (l.take n) ((rws itC (l.drop n)).flatten ++ L) := by
 have e : (rws itC (l.take n)).flatten ++ ((rws itC (l.drop n)).flatten ++ L) = (rws itC l).flatten ++ L := by
  rw [<- List.append_assoc, <- I0, List.take_append_drop]
 have hl : (l.take n).length = n := by rw [List.length_take]; omega
 refine ⟨by rw [zd, hl], by rw [zq h.ne, e]; exact h.hb, h.ne, by rw [hl]; have := h.h1; omega, ?_, h.h3⟩
 have := h.h2
 rw [hl, List.length_append, k7 Dp, List.length_drop]
 omega
def jx (v : Int) (k : Nat) (t : Nat) : Int := if t < k then v else 0
theorem zl9 {n k m : Nat} {v : Int} (hk : m <= k) (hn : k + m <= n) : zy (il n (jx v k)) (0 + k * 1) ((List.drop (0 + 0 * 1) (il n (jx v k))).take (m * 1)) = il n (jx v (k + m)) := by
 have e : (List.drop (0 + 0 * 1) (il n (jx v k))).take (m * 1) = List.replicate m (int v) := by
  rw [show 0 + 0 * 1 = 0 from rfl, List.drop_zero, Nat.mul_one]
  apply List.ext_getElem
  ·rw [List.length_take, qc, List.length_replicate]; omega
  ·intro i h1 h2
   rw [List.length_replicate] at h2
   rw [List.getElem_take, List.getElem_replicate]
   simp only [il, List.getElem_map, List.getElem_range]
   rw [jx, if_pos (by omega)]
 rw [e]
 unfold zy
 rw [List.length_replicate, show 0 + k * 1 = k by omega]
 apply List.ext_getElem?
 intro i
 by_cases h1 : i < k
 ·rw [List.append_assoc, List.getElem?_append_left (by rw [List.length_take, qc]; omega), List.getElem?_take_of_lt h1, wk (by omega), wk (by omega), jx, jx, if_pos h1, if_pos (by omega)]
 ·by_cases h2 : i < k + m
  ·rw [List.append_assoc, List.getElem?_append_right (by rw [List.length_take, qc]; omega), List.length_take, qc, List.getElem?_append_left (by rw [List.length_replicate]; omega), List.getElem?_replicate, if_pos (by omega), wk (by omega), jx, if_pos h2]
  ·rw [List.getElem?_append_right (by rw [List.length_append, List.length_take, qc, List.length_replicate]; omega), List.length_append, List.length_take, qc, List.length_replicate, List.getElem?_drop, show k + m + (i - (min k n + m)) = i by omega]
   by_cases h3 : i < n
   ·rw [wk h3, wk h3, jx, jx, if_neg h1, if_neg h2]
   ·rw [List.getElem?_eq_none (by rw [qc]; omega), List.getElem?_eq_none (by rw [qc]; omega)]
theorem zpq (n : Nat) (v : Int) : il n (jx v n) = il n fun _ => v := Hr fun t ht => if_pos ht
/-- A tile's neighbours, in an array. -/
def Gj (g : Gnd) (t : Nat) : AV := .agg (il 8 (zx g t))
def wu (g : Gnd) (t i : Nat) (j : Nat) : Int := if j < i then zx g t j else 0
theorem zt7 (g : Gnd) (t : Nat) : il 8 (wu g t 8) = il 8 (zx g t) := Hr fun j hj => if_pos hj
theorem zt8 (g : Gnd) (t : Nat) {i : Nat} (hi : i < 8) : zx g t i = Dj g ((t : Int) % g.W) ((t : Int) / g.W) (dirL.getD i (0, 0)) := by
 unfold zx Ae
 rw [List.getD_eq_getElem?_getD, List.getElem?_map, List.getD_eq_getElem?_getD, List.getElem?_eq_getElem (show i < dirL.length from hi)]
 rfl
theorem zt6 (g : Gnd) (t : Nat) {i : Nat} (v : Int) (hv : v = zx g t i) : setI (wu g t i) i v = wu g t (i + 1) := funext fun j => by
 unfold setI wu
 by_cases h : j = i
 ·subst h
  rw [if_pos rfl, if_pos (by omega), hv]
 ·rw [if_neg h]
  by_cases h2 : j < i
  ·rw [if_pos h2, if_pos (by omega)]
  ·rw [if_neg h2, if_neg (by omega)]
def dirC : List AV := (dirL.map Cx).flatten
theorem zsh {i : Nat} (hi : i < 8) : dirC.drop (i * 2) = Cx (dirL.getD i (0, 0)) ++ dirC.drop (i * 2 + 2) := by
 have h : i = 0 \/ i = 1 \/ i = 2 \/ i = 3 \/ i = 4 \/ i = 5 \/ i = 6 \/ i = 7 := by omega
 rcases h with rfl | rfl | rfl | rfl | rfl | rfl | rfl | rfl <;> rfl
theorem zsg {i : Nat} (hi : i < 8) : (-1 <= (dirL.getD i (0, 0)).1 /\ (dirL.getD i (0, 0)).1 <= 1) /\ -1 <= (dirL.getD i (0, 0)).2 /\ (dirL.getD i (0, 0)).2 <= 1 := by
 have h : i = 0 \/ i = 1 \/ i = 2 \/ i = 3 \/ i = 4 \/ i = 5 \/ i = 6 \/ i = 7 := by omega
 rcases h with rfl | rfl | rfl | rfl | rfl | rfl | rfl | rfl <;> decide
def D7 (g : Gnd) (ok : Nat -> Bool) (c : Int) (t i : Nat) : Nat -> Nat -> Int -> Prop := fun a u k => a = t /\ ∃ w, i <= w /\ w < 8 /\ zx g t w = (u : Int) /\ k = yl g ok c t w
theorem Pg {E : Nat -> Nat -> Int -> Prop} {n goal : Nat} {d : Nat -> Int} {dn : Nat -> Bool} {q q' : List (Int × Int)} {cur : Int} {O : Nat -> Nat -> Int -> Prop} (h : DJ E n goal d dn q cur O) (hp : q.Perm q') : DJ E n goal d dn q' cur O :=
 ⟨h.lab, h.gl, h.pre, h.rel, h.mono, fun e he => h.ent e (hp.mem_iff.2 he), fun u hu hn => hp.mem_iff.1 (h.wait u hu hn)⟩
section
variable {g : Gnd} {ok : Nat -> Bool} {c : Int} {n goal : Nat} {d : Nat -> Int} {dn : Nat -> Bool} {q : List (Int × Int)} {cur : Int}
theorem ia {t : Nat} (h : DJ (ju g ok c) n goal d dn q cur (fun a _ _ => a = t)) : DJ (ju g ok c) n goal d dn q cur (D7 g ok c t 0) :=
 Ph h fun a u k ha hn hE => by
  obtain ⟨_, _, w, hw, h1, _, h2, _⟩ := hE
  subst ha
  exact absurd ⟨rfl, w, Nat.zero_le _, hw, h1, h2⟩ hn
theorem ib {t : Nat} (h : DJ (ju g ok c) n goal d dn q cur (D7 g ok c t 8)) : DJ (ju g ok c) n goal d dn q cur Dh :=
 Ph h fun a u k ha hn hE => by
  obtain ⟨_, w, h1, h2, _⟩ := ha
  omega
theorem L9 {t i : Nat} (h : DJ (ju g ok c) n goal d dn q cur (D7 g ok c t i)) (hp : ∀ u : Nat, zx g t i = u -> 0 < yl g ok c t i -> 0 <= d u /\ d u <= d t + yl g ok c t i) : DJ (ju g ok c) n goal d dn q cur (D7 g ok c t (i + 1)) :=
 Ph h fun a u k ha hn hE => by
  obtain ⟨rfl, w, h1, h2, h3, rfl⟩ := ha
  by_cases hw : w = i
  ·subst hw
   exact hp u h3 (Lb _ _ _ hE)
  ·exact absurd ⟨rfl, w, by omega, h2, h3, rfl⟩ hn
theorem zr9 {O : Nat -> Nat -> Int -> Prop} (h : DJ (ju g ok c) n goal d dn q cur O) (hgoal : ok goal = true) {u : Nat} (hu : 0 <= d u) : ok u = true := by
 by_cases e : u = goal
 ·rw [e]; exact hgoal
 ·obtain ⟨t, k, _, _, hE, _⟩ := h.pre u e hu
  obtain ⟨_, _, _, _, _, h1, _⟩ := hE
  exact h1
end
/-- What is popped: nothing, or the least. -/
def Oj : Option (Int × Int) -> Int
 | none => 0
 | some x => x.1
def Ik : Option (Int × Int) -> Int
 | none => 0
 | some x => x.2
/-- Costs and marks in memory. -/
def y4 (S : Store) (b b2 n : Nat) (d : Nat -> Int) (dn : Nat -> Bool) : Store := (S.setObj b (.cells (il n d))).setObj b2 (.cells (bl n dn))
section
variable {S : Store} {b b2 n : Nat}
theorem cf (hb : b ≠ b2) (d : Nat -> Int) (dn : Nat -> Bool) : (y4 S b b2 n d dn).obj b = some (.cells (il n d)) := by
 unfold y4
 rw [zq hb, zd]
theorem zq6 (d : Nat -> Int) (dn : Nat -> Bool) : (y4 S b b2 n d dn).obj b2 = some (.cells (bl n dn)) := zd _ _ _
theorem zq5 {i : Nat} {x : AObj} (hf : Fresh S b) (hf2 : Fresh (S.setObj b x) b2) {y : AObj} (h : S.obj i = some y) (d : Nat -> Int) (dn : Nat -> Bool) : (y4 S b b2 n d dn).obj i = some y := by
 have h1 : i ≠ b := fun e => by rw [e, hf.1] at h; cases h
 have h2 : i ≠ b2 := fun e => by
  have := hf2.1
  rw [<- e, zq h1, h] at this; cases this
 unfold y4
 rw [zq h2, zq h1]
 exact h
theorem ce (hb : b ≠ b2) (d d' : Nat -> Int) (dn : Nat -> Bool) : (y4 S b b2 n d dn).setObj b (.cells (il n d')) = y4 S b b2 n d' dn := by
 unfold y4
 rw [Df hb, yr]
theorem zq4 (d : Nat -> Int) (dn dn' : Nat -> Bool) : (y4 S b b2 n d dn).setObj b2 (.cells (bl n dn')) = y4 S b b2 n d dn' := yr _ _ _ _
theorem fld_has {d : Nat -> Int} {dn : Nat -> Bool} {i : Nat} : (y4 S b b2 n d dn).has i ↔ i = b2 \/ i = b \/ S.has i := by
 unfold y4
 rw [has_setObj_iff, has_setObj_iff]
theorem zq7 {F : Store} {d d' : Nat -> Int} {dn dn' : Nat -> Bool} (h : zi F (y4 S b b2 n d dn)) : zi F (y4 S b b2 n d' dn') := fun i h1 h2 => h i h1 (fld_has.2 (fld_has.1 h2))
theorem zq8 (hf : Fresh S b) {x : AObj} (hf2 : Fresh (S.setObj b x) b2) {F : Store} (hb : b ≠ b2) {d : Nat -> Int} {dn : Nat -> Bool} : (F.un (y4 S b b2 n d dn)).Has (S.setObj b (.cells (il n d))) := by
 have hn : (S.setObj b (.cells (il n d))).obj b2 = none := by
  have := hf2.1
  rw [zq (Ne.symm hb)] at this ⊢
  exact this
 exact ⟨fun i y hi => zf ((Ah hn).obj i y hi), fun i y hi => wy hi⟩
end
theorem Ko (n : Nat) (d : Nat -> Int) (u : Nat) (v : Int) (hu : u < n) : zy (il n d) (0 + u * 1) [int v] = il n (yd d u v) := by
 rw [show 0 + u * 1 = u by omega, Ck hu]
 rfl
theorem zt0 (n : Nat) (d : Nat -> Bool) (u : Nat) (v : Bool) (hu : u < n) : zy (bl n d) (0 + u * 1) [bool v] = bl n (yd d u v) := by
 rw [show 0 + u * 1 = u by omega]
 have := wt (f := d) hu (yd d u v) (fun s hs => xi hs)
 rw [j9] at this
 exact this
theorem Ot {n : Nat} {f : Nat -> Int} {t : Nat} (h : t < n) : ((il n f).drop (t * 1)).head? = some (int (f t)) := by
 have := kr (f := f) h
 rwa [Nat.zero_add] at this
theorem znt (n : Nat) (dn : Nat -> Bool) : wh n dn <= n := by
 have := Mz (f := fun t => if dn t = true then 0 else 1) (g := fun _ => 1) n (fun t _ => by split <;> omega)
 rw [M3] at this
 unfold wh
 omega
def Bi (g : Gnd) (ok : Nat -> Bool) (c : Int) (d : Nat -> Int) (t w : Nat) : Prop := 0 < yl g ok c t w /\ 0 <= d (zx g t w).toNat /\ yl g ok c t w + d (zx g t w).toNat = d t
theorem zrk {p : Nat -> Bool} {n j : Nat} (hj : j < n) (hp : p j = true) (hn : ∀ w, w < j -> p w = false) : (List.range n).find? p = some j := by
 rw [List.find?_range_eq_some]
 exact ⟨hp, List.mem_range.2 hj, fun w hw => by rw [hn w hw]; rfl⟩
theorem zrj {p : Nat -> Bool} {n : Nat} (hn : ∀ w, w < n -> p w = false) : (List.range n).find? p = none := by
 rw [List.find?_eq_none]
 intro w hw
 rw [hn w (List.mem_range.1 hw)]
 decide
section
variable {g : Gnd} {ok : Nat -> Bool} {c : Int} {d : Nat -> Int} {t : Nat}
theorem ii (h : d t <= 0) : qh g ok c d t = -1 := by
 unfold qh
 rw [if_pos h]
theorem ic (h : ¬ d t <= 0) {j : Nat} (hj : j < 8) (hp : Bi g ok c d t j) (hn : ∀ w, w < j -> ¬ Bi g ok c d t w) : qh g ok c d t = (j : Int) := by
 unfold qh
 rw [if_neg h, zrk hj (by exact decide_eq_true hp) (fun w hw => by exact decide_eq_false (hn w hw))]
theorem ig (h : ¬ d t <= 0) (hn : ∀ w, w < 8 -> ¬ Bi g ok c d t w) : qh g ok c d t = -1 := by
 unfold qh
 rw [if_neg h, zrj (fun w hw => by exact decide_eq_false (hn w hw))]
end
theorem ij (g : Gnd) (ok : Nat -> Bool) (c : Int) (d : Nat -> Int) (t : Nat) : qh g ok c d t = -1 \/ ∃ j : Nat, j < 8 /\ qh g ok c d t = (j : Int) /\ Bi g ok c d t j := by
 unfold qh
 split
 ·exact .inl rfl
 ·cases h : (List.range 8).find? fun way => decide (0 < yl g ok c t way /\ 0 <= d (zx g t way).toNat /\ yl g ok c t way + d (zx g t way).toNat = d t) with
  | none => exact .inl rfl
  | some j =>
   have h1 := List.mem_of_find?_eq_some h
   have h2 := List.find?_some h
   exact .inr ⟨j, List.mem_range.1 h1, rfl, by simp only [decide_eq_true_eq] at h2; exact h2⟩
/-- The ways of the first tiles. -/
noncomputable def jv (g : Gnd) (ok : Nat -> Bool) (c : Int) (d : Nat -> Int) (i t : Nat) : Int := if t < i then qh g ok c d t else -1
theorem Ro {g : Gnd} {ok : Nat -> Bool} {c : Int} {d : Nat -> Int} {i : Nat} : jv g ok c d (i + 1) = yd (jv g ok c d i) i (qh g ok c d i) := funext fun t => by
 unfold jv yd
 dsimp only
 by_cases h : t = i
 ·subst h; rw [if_pos (by omega), if_pos rfl]
 ·rw [if_neg h]
  by_cases h2 : t < i
  ·rw [if_pos h2, if_pos (by omega)]
  ·rw [if_neg h2, if_neg (by omega)]
theorem Rn {g : Gnd} {ok : Nat -> Bool} {c : Int} {d : Nat -> Int} {i : Nat} (h : qh g ok c d i = -1) : jv g ok c d (i + 1) = jv g ok c d i := by
 rw [Ro, h]
 funext t
 unfold yd jv
 by_cases h : t = i
 ·subst h; rw [if_pos rfl, if_neg (by omega)]
 ·rw [if_neg h]
theorem g8 (g : Gnd) (ok : Nat -> Bool) (c : Int) (d : Nat -> Int) : jv g ok c d 0 = fun _ => -1 := funext fun t => if_neg (Nat.not_lt_zero t)
theorem g9 (g : Gnd) (ok : Nat -> Bool) (c : Int) (d : Nat -> Int) (n : Nat) : il n (jv g ok c d n) = il n (qh g ok c d) := Hr fun t ht => if_pos ht
/-- Two lists of numbers in memory. -/
def xj (S : Store) (b b2 n : Nat) (d f : Nat -> Int) : Store := (S.setObj b (.cells (il n d))).setObj b2 (.cells (il n f))
section
variable {S : Store} {b b2 n : Nat}
theorem lr (hb : b ≠ b2) (d f : Nat -> Int) : (xj S b b2 n d f).obj b = some (.cells (il n d)) := by
 unfold xj
 rw [zq hb, zd]
theorem lq (d f : Nat -> Int) : (xj S b b2 n d f).obj b2 = some (.cells (il n f)) := zd _ _ _
theorem ln {i : Nat} {x : AObj} (hf : Fresh S b) (hf2 : Fresh (S.setObj b x) b2) {y : AObj} (h : S.obj i = some y) (d f : Nat -> Int) : (xj S b b2 n d f).obj i = some y := by
 have h1 : i ≠ b := fun e => by rw [e, hf.1] at h; cases h
 have h2 : i ≠ b2 := fun e => by
  have := hf2.1
  rw [<- e, zq h1, h] at this; cases this
 unfold xj
 rw [zq h2, zq h1]
 exact h
theorem lm (d f f' : Nat -> Int) : (xj S b b2 n d f).setObj b2 (.cells (il n f')) = xj S b b2 n d f' := yr _ _ _ _
theorem lp {x : AObj} (hb : b ≠ b2) (hf2 : Fresh (S.setObj b x) b2) : Fresh S b2 := by
 have := hf2
 unfold Fresh at this ⊢
 rw [zq (Ne.symm hb)] at this
 exact this
theorem ls (hf : Fresh S b) (hb : b ≠ b2) (d f : Nat -> Int) : (xj S b b2 n d f).Has (S.setObj b2 (.cells (il n f))) := by
 unfold xj
 rw [Df (Ne.symm hb)]
 refine Ah ?_
 rw [zq hb]
 exact hf.1
end
theorem zn7 (g : Gnd) (t : Nat) : Ae g t = (List.range 8).map (zx g t) := by
 apply List.ext_getElem
 ·rw [Kf, List.length_map, List.length_range]
 ·intro i h1 h2
  rw [Kf] at h1
  simp only [List.getElem_map, List.getElem_range]
  unfold zx
  rw [List.getD_eq_getElem?_getD, List.getElem?_eq_getElem (by rw [Kf]; exact h1)]
  rfl
theorem zn9 (g : Gnd) (t : Nat) (x : Int) : (Ae g t).contains x = (List.range 8).any fun j => zx g t j == x := by
 rw [zn7, List.contains_eq_any_beq, List.any_map]
 congr 1
 funext j
 show (x == zx g t j) = _
 rw [Bool.eq_iff_iff, beq_iff_eq, beq_iff_eq]
 exact eq_comm
theorem zus {p : Nat -> Bool} {n k : Nat} (hk : k < n) (hp : p k = true) : (List.range n).any p = true := List.any_eq_true.2 ⟨k, List.mem_range.2 hk, hp⟩
theorem zur {p : Nat -> Bool} {n : Nat} (hp : ∀ k, k < n -> p k = false) : (List.range n).any p = false := by
 rw [List.any_eq_false]
 intro k hk
 rw [hp k (List.mem_range.1 hk)]
 decide
end Go.V
