/- Ground of laws of thronglaw21: contracts and plain lemmas; no condition beyond the row's own. -/
import Derived.RangeFuncLeaves
import Derived.Test.YthjfdaifoocijaaGreatKB
set_option linter.unusedSimpArgs false
set_option linter.unusedVariables false
namespace Go.V
def Av (c : Cfg) (o : Oper) (A : Fr) (K : Fr -> Prop) : Prop := z8 A c.n o.dst .und K
/-- The operations of a region, one behind the other. -/
def xw (P : Program) (c : Cfg) (ops : Array Oper) (K : Fr -> Store -> Prop) : List Oper -> Fr -> Store -> Prop
  | [], A, st => K A st
  | o :: rest, A, st =>
    match o.guard with
    | none => v8 P c o (xw P c ops K rest) A st
    | some (j, want) => optK ((ops[j]?).bind (·.dst)) fun t =>
      match A.t t with
      | .av (.s (.bool b)) => xu b
          (bif want then v8 P c o (xw P c ops K rest) (A.put t (yn true)) st else Av c o (A.put t (yn true)) fun A' => xw P c ops K rest A' st)
          (bif want then Av c o (A.put t (yn false)) fun A' => xw P c ops K rest A' st else v8 P c o (xw P c ops K rest) (A.put t (yn false)) st)
      | .und => Av c o A fun A' => xw P c ops K rest A' st
      | _ => False
/-- A piece of code, in words of worlds. -/
structure AWp (P : Program) (c : Cfg) (code : Code) (Q : Exit -> Fr -> Store -> Prop) (A : Fr) (st : Store) : Prop where
  out : ∀ Oth M a w, Sim c.N Oth A st M a w -> code.wpIn c.F 0 P (fun e a' w' => ∃ A' st' M', Q e A' st' /\ Sim c.N Oth A' st' M' a' w' /\ Chg M w M' w') a w
/-- A region whose order is drawn. -/
structure ADraw (P : Program) (c : Cfg) (ops : Array Oper) (K : Fr -> Store -> Prop) (A : Fr) (st : Store) : Prop where
  out : ∀ id, AWp P c (.region id ops true) (fun e A' st' => match e with | .normal => K A' st' | _ => False) A st
def Ch (next : Fr -> Store -> Prop) (Q : Exit -> Fr -> Store -> Prop) : Exit -> Fr -> Store -> Prop
  | .normal => next
  | e => Q e
def Db (id : Nat) (Q : Exit -> Fr -> Store -> Prop) : Exit -> Fr -> Store -> Prop
  | .exit id' => bif Nat.beq id' id then Q .normal else Q (.exit id')
  | e => Q e
def Ke (Q : Exit -> Fr -> Store -> Prop) : Exit -> Fr -> Store -> Prop
  | .goto _ => fun _ _ => False
  | e => Q e
def vc (P : Program) (c : Cfg) : Code -> (Exit -> Fr -> Store -> Prop) -> Fr -> Store -> Prop
  | .skip, Q, A, st => Q .normal A st
  | .region _ ops draw, Q, A, st => match draw with
    | false => xw P c ops (Q .normal) ops.toList A st
    | true => ADraw P c ops (Q .normal) A st
  | .seq a b, Q, A, st => vc P c a (Ch (vc P c b Q) Q) A st
  | .cond x a b, Q, A, st => match A.ev x with
    | .av (.s (.bool t)) => xu t (vc P c a Q A st) (vc P c b Q A st)
    | _ => False
  | .block id b, Q, A, st => vc P c b (Db id Q) A st
  | .loop b, Q, A, st => AWp P c (.loop b) Q A st
  | .exit id, Q, A, st => Q (.exit id) A st
  | .scope b, Q, A, st => vc P c b (Ke Q) A st
  | .label _, Q, A, st => Q .normal A st
  | .ret, Q, A, st => Q .ret A st
  | _, _, _, _ => False
section
variable {P : Program} {c : Cfg}
theorem Fr.put_self {A : Fr} {d : Nat} {x : LV} (h : A.t d = x) : A.put d x = A := by
  unfold Fr.put
  congr
  grind[ya]
theorem K0 {ops : Array Oper} {tmps : Array Value} {j t : Nat} {b : Bool} (hd : (ops[j]?).bind (·.dst) = some t) (h : tmps.getD t undef = .bool b) : yielded ops tmps j = some b := by
  unfold yielded
  rw [hd]
  simp only [Option.bind_some]
  rw [Array.getD_eq_getD_getElem?] at h
  grind[undef]
theorem Kz {ops : Array Oper} {tmps : Array Value} {j t : Nat} (hd : (ops[j]?).bind (·.dst) = some t) (h : tmps.getD t undef = undef) : yielded ops tmps j = none := by
  unfold yielded
  rw [hd]
  simp only [Option.bind_some]
  rw [Array.getD_eq_getD_getElem?] at h
  cases ht : tmps[t]? with
  | none => rfl
  | some v => rw [ht] at h; simp at h; subst h; rfl
theorem Ff {o : Oper} {a : Act} {w : World} {K K' : Act -> World -> Prop} {Q Q' : Exit -> Act -> World -> Prop} (hk : ∀ a w, K a w -> K' a w) (hn : ∀ e a w, e ≠ .normal -> ¬ Q e a w) (h : o.wpIn c.F 0 P a w K Q) : o.wpIn c.F 0 P a w K' Q' := by
  refine ⟨h.1, ?_⟩
  have h := h.2
  generalize (o.semAt c.F.round a.eval).run P w = r at *
  have nq : ∀ (e : Exit) (a : Act) (w : World) {p : Prop}, e ≠ .normal -> Q e a w -> p := fun e a w p hne h => (hn e a w hne h).elim
  cases r with
  | ok x w' =>
    cases x <;> simp only [Oper.uponIn] at h ⊢ <;>
      first
        | exact hk _ _ h
        | exact ⟨h.1, CallsIn.mono h.2 (fun e w'' he => by
            cases e with
            | returned v => exact hk _ _ he
            | panicked ch => exact nq _ _ _ (by simp) he
            | outgrown => obtain ⟨a2, w2, h2⟩ := he; exact nq _ _ _ (by simp) h2)⟩
        | exact ⟨h.1, RowsIn.mono h.2 (fun _ _ he => hk _ _ he)⟩
        | exact ⟨h.1, RoundIn.mono h.2 (fun e w'' he => by
            cases e with
            | returned v => exact hk _ _ he
            | panicked ch => exact nq _ _ _ (by simp) he
            | outgrown => obtain ⟨a2, w2, h2⟩ := he; exact nq _ _ _ (by simp) h2)⟩
        | exact h
  | halt x w' => cases x <;> simp only [Oper.uponIn] at h ⊢ <;> grind
theorem M8 (hI : zu P c.I) (ops : Array Oper) (K : Fr -> Store -> Prop) : ∀ (l : List Oper) (A : Fr) (st : Store), xw P c ops K l A st ->
    ∀ Oth M a w, Sim c.N Oth A st M a w -> wpListIn c.F 0 P ops (fun e a' w' => e = .normal /\ ∃ A' st' M', K A' st' /\ Sim c.N Oth A' st' M' a' w' /\ Chg M w M' w') l a w := by
  intro l
  induction l with
  | nil => intro A st h Oth M a w sim; exact ⟨rfl, A, st, M, h, sim, Chg.refl M w⟩
  | cons o rest ih =>
    intro A st h Oth M a w sim
    have mono : ∀ (M' : Nat -> Nat -> Prop) (w' : World) (a' : Act) (A' : Fr) (st' : Store), xw P c ops K rest A' st' -> Sim c.N Oth A' st' M' a' w' -> Chg M w M' w' ->
        wpListIn c.F 0 P ops (fun e a' w' => e = .normal /\ ∃ A' st' M', K A' st' /\ Sim c.N Oth A' st' M' a' w' /\ Chg M w M' w') rest a' w' := by
      intro M' w' a' A' st' h1 h2 h3
      have := ih A' st' h1 Oth M' a' w' h2
      clear h h1
      -- weaken the post
      have wm : ∀ (l : List Oper) (a w0) (Q Q' : Exit -> Act -> World -> Prop), (∀ e a w, Q e a w -> Q' e a w) -> (∀ e a w, e ≠ .normal -> ¬ Q e a w) -> wpListIn c.F 0 P ops Q l a w0 -> wpListIn c.F 0 P ops Q' l a w0 := by
        intro l
        induction l with
        | nil => intro a w0 Q Q' hq _ h; exact hq _ _ _ h
        | cons o l ihl =>
          intro a w0 Q Q' hq hn h
          unfold wpListIn at h ⊢
          split
          · rename_i hw
            rw [if_pos hw] at h
            grind[Ff]
          grind
      refine wm rest a' w' _ _ ?_ ?_ this
      · rintro e a w ⟨he, A', st', M'', h4, h5, h6⟩
        exact ⟨he, A', st', M'', h4, h5, h3.trans h6⟩
      grind
    -- an operation that is carried out
    have go : ∀ A1, v8 P c o (xw P c ops K rest) A1 st -> Sim c.N Oth A1 st M a w -> Region.wanted o (yielded ops a.tmps) = true ->
        wpListIn c.F 0 P ops (fun e a' w' => e = .normal /\ ∃ A' st' M', K A' st' /\ Sim c.N Oth A' st' M' a' w' /\ Chg M w M' w') (o :: rest) a w := by
      intro A1 h1 sim1 hw
      unfold wpListIn
      rw [if_pos hw]
      exact Ff (fun a' w' ⟨A', st', M', h3, h4, h5⟩ => mono M' w' a' A' st' h3 h4 h5) (fun _ _ _ _ h => h) (zem hI h1 Oth M a w sim1)
    have skip : ∀ A1, (Av c o A1 fun A' => xw P c ops K rest A' st) -> Sim c.N Oth A1 st M a w -> Region.wanted o (yielded ops a.tmps) = false ->
        wpListIn c.F 0 P ops (fun e a' w' => e = .normal /\ ∃ A' st' M', K A' st' /\ Sim c.N Oth A' st' M' a' w' /\ Chg M w M' w') (o :: rest) a w := by
      intro A1 h1 sim1 hw
      unfold wpListIn
      rw [if_neg (by grind)]
      refine ⟨fun _ _ => Tv, ?_⟩
      obtain ⟨β, sim1⟩ := sim1
      unfold Av z8 at h1
      cases hd : o.dst with
      | none => rw [hd] at h1; exact mono M w _ A1 st h1 ⟨β, sim1⟩ (Chg.refl _ _)
      | some d =>
        rw [hd] at h1
        obtain ⟨hlt, h1⟩ := qn h1
        exact mono M w _ _ st h1 ⟨β, sim1.put hlt (x := .und) rfl⟩ (Chg.refl _ _)
    unfold xw at h
    cases hg : o.guard with
    | none =>
      grind[Region.wanted]
    | some jw =>
      obtain ⟨j, want⟩ := jw
      rw [hg] at h
      obtain ⟨t, ht, h⟩ := ze h
      have hwant : ∀ y, yielded ops a.tmps j = y -> Region.wanted o (yielded ops a.tmps) = (y == some want) := fun y hy => by simp [Region.wanted, hg, hy]
      split at h
      · rename_i b hb
        have htv : a.tmps.getD t undef = .bool b := by
          obtain ⟨β, s⟩ := sim
          have := s.tm t
          rw [hb] at this
          exact VRel.eq_s this
        have hw := hwant _ (K0 ht htv)
        cases b with
        | true =>
          rw [Fr.put_self (A := A) (x := yn true) hb] at h
          cases want with
          | true => exact go A h sim (by grind)
          | false => exact skip A h sim (by grind)
        | false =>
          rw [Fr.put_self (A := A) (x := yn false) hb] at h
          cases want with
          | true => exact skip A h sim (by grind)
          | false => exact go A h sim (by grind)
      · rename_i hb
        have htv : a.tmps.getD t undef = undef := by
          obtain ⟨β, s⟩ := sim
          have := s.tm t
          rw [hb] at this
          exact this
        grind[Kz]
      grind
end
section
variable {P : Program} {c : Cfg}
theorem Code.wpF_mono {F : Fence} {code : Code} {Q Q' : Exit -> Act -> World -> Prop} {a : Act} {w : World} (hq : ∀ e a w, Q e a w -> Q' e a w) (h : code.wpIn F 0 P Q a w) : code.wpIn F 0 P Q' a w := wpIn_mono h hq
theorem Hr {F : Fence} {n : Nat} {code : Code} {Q : Exit -> Act -> World -> Prop} {a : Act} {w : World} (h : code.wpIn F n P (Exit.noGoto Q) a w) : (Code.scope code).wpIn F n P Q a w := by
  intro b k cs hro hb hr
  have s1 : step P (lone (b.atR a (.code (.scope code) :: k)) cs w) = .next (lone (b.atR a (.code code :: .inScope code :: k)) cs w) := step_lone_go (by rfl)
  have h0 : (lone (b.atR a (.code (.scope code) :: k)) cs w).fenced P F := fenced_calm hb hr rfl
  obtain ⟨e, a₁, w₁, hq, harr⟩ := h b (.inScope code :: k) cs hro hb hr
  cases e with
  | normal =>
    have s2 : step P (lone (b.atR a₁ (.inScope code :: k)) cs w₁) = .next (lone (b.atR a₁ k) cs w₁) := step_lone_go (by rfl)
    exact ⟨.normal, a₁, w₁, hq, .head h0 s1 (StepsIn.trans harr (.one (fenced_calm hb hr rfl) s2))⟩
  | exit id =>
    have hx : exitTo id (.inScope code :: k) = exitTo id k := by rfl
    exact ⟨.exit id, a₁, w₁, hq, fun k' hk => .head h0 s1 (harr.1 k' (by grind)), fun hr' hk => let ⟨k₁, h1, h2⟩ := harr.2 hr' (by grind); ⟨k₁, h1, .head h0 s1 h2⟩⟩
  | goto l => trivial
  | ret => exact ⟨_, a₁, w₁, hq, .of_steps (.one h0 s1) harr⟩
  | panic ch => exact ⟨_, a₁, w₁, hq, .of_steps (.one h0 s1) harr⟩
  | outgrown => exact ⟨_, a₁, w₁, hq, .of_steps (.one h0 s1) harr⟩
theorem AWp.mono {code : Code} {Q Q' : Exit -> Fr -> Store -> Prop} {A : Fr} {st : Store} (h : AWp P c code Q A st) (hq : ∀ e A st, Q e A st -> Q' e A st) : AWp P c code Q' A st :=
  ⟨fun Oth M a w sim => Code.wpF_mono (fun e a' w' ⟨A', st', M', h1, h2, h3⟩ => ⟨A', st', M', hq _ _ _ h1, h2, h3⟩) (h.out Oth M a w sim)⟩
theorem Mu {F : Fence} {ops : Array Oper} {id : Nat} {Q : Exit -> Act -> World -> Prop} {R : Act -> World -> Prop} {a : Act} {w : World} (h : wpListIn F 0 P ops (fun e a' w' => e = .normal /\ R a' w') ops.toList a w) (hq : ∀ a w, R a w -> Q .normal a w) : (Code.region id ops false).wpIn F 0 P Q a w :=
  Code.wpF_mono (fun e a' w' ⟨he, hr⟩ => by grind) (wpIn_region_list h)
theorem Fi (hI : zu P c.I) : ∀ (code : Code) (Q : Exit -> Fr -> Store -> Prop) (A : Fr) (st : Store), vc P c code Q A st -> AWp P c code Q A st := by
  intro code
  induction code with
  | skip => intro Q A st h; exact ⟨fun Oth M a w sim => wpIn_skip ⟨A, st, M, h, sim, Chg.refl _ _⟩⟩
  | region id ops draw =>
    intro Q A st h
    cases draw with
    | false => exact ⟨fun Oth M a w sim => Mu (M8 hI ops (Q .normal) ops.toList A st h Oth M a w sim) fun _ _ h => h⟩
    | true => exact (ADraw.out h id).mono fun e A' st' h' => by grind
  | seq x y ihx ihy =>
    intro Q A st h
    refine ⟨fun Oth M a w sim => wpIn_seq ?_⟩
    refine Code.wpF_mono ?_ ((ihx _ A st h).out Oth M a w sim)
    rintro e a' w' ⟨A', st', M', h1, h2, h3⟩
    cases e with
    | normal =>
      refine Code.wpF_mono ?_ ((ihy _ A' st' h1).out Oth M' a' w' h2)
      rintro e a'' w'' ⟨A'', st'', M'', h4, h5, h6⟩
      exact ⟨A'', st'', M'', h4, h5, h3.trans h6⟩
    | _ => exact ⟨A', st', M', h1, h2, h3⟩
  | cond x p q ihp ihq =>
    intro Q A st h
    simp only [vc] at h
    split at h
    · rename_i t ht
      refine ⟨fun Oth M a w sim => ?_⟩
      have hv : a.eval x = .bool t := by
        obtain ⟨β, s⟩ := sim
        exact VRel.eq_s (z7 s.env ht)
      refine wpIn_cond hv ?_
      cases t with
      | true => exact (ihp Q A st h).out Oth M a w sim
      | false => exact (ihq Q A st h).out Oth M a w sim
    grind
  | block id b ih =>
    intro Q A st h
    refine ⟨fun Oth M a w sim => wpIn_block ?_⟩
    refine Code.wpF_mono ?_ ((ih _ A st h).out Oth M a w sim)
    rintro e a' w' ⟨A', st', M', h1, h2, h3⟩
    cases e with
    | exit id' =>
      simp only [Db] at h1
      simp only [Exit.inBlock]
      by_cases he : id' = id
      · subst he
        simp only [Nat.beq_refl, cond_true] at h1
        grind
      · simp only [ya he, cond_false] at h1
        grind
    | _ => exact ⟨A', st', M', h1, h2, h3⟩
  | loop b ih => intro Q A st h; exact h
  | rangeFunc f ps x y ihx ihy => intro Q A st h; exact h.elim
  | exit id => intro Q A st h; exact ⟨fun Oth M a w sim => wpIn_exit ⟨A, st, M, h, sim, Chg.refl _ _⟩⟩
  | scope b ih =>
    intro Q A st h
    refine ⟨fun Oth M a w sim => Hr ?_⟩
    refine Code.wpF_mono ?_ ((ih _ A st h).out Oth M a w sim)
    rintro e a' w' ⟨A', st', M', h1, h2, h3⟩
    cases e with
    | goto l => trivial
    | _ => exact ⟨A', st', M', h1, h2, h3⟩
  | label l => intro Q A st h; exact ⟨fun Oth M a w sim => wpIn_label ⟨A, st, M, h, sim, Chg.refl _ _⟩⟩
  | goto l => intro Q A st h; exact h.elim
  | ret => intro Q A st h; exact ⟨fun Oth M a w sim => wpIn_ret ⟨A, st, M, h, sim, Chg.refl _ _⟩⟩
  | refuse s => intro Q A st h; exact h.elim
/-- What the result variables hold. -/
def wk (c : Cfg) (A : Fr) (st : Store) : List ResultVar -> (List AV -> Prop) -> Prop
  | [], K => K []
  | .tmp t :: rest, K => match A.t t with
    | .av x => wk c A st rest fun l => K (x :: l)
    | _ => False
  | .cell p t :: rest, K => optK (c.I t) fun i => Bs A.bx st (A.t p) fun l => optK (xz i l) fun x => wk c A st rest fun l => K (x :: l)
def I1 : List AV -> AV
  | [x] => x
  | l => .tup l
def F7 (c : Cfg) (rs : List ResultVar) (R : AV -> Store -> Prop) (A : Fr) (st : Store) : Prop :=
  wk c A st rs fun l => ∃ r st', AV.le (I1 l) r /\ st.Has st' /\ R r st'
def I0 (c : Cfg) (rs : List ResultVar) (R : AV -> Store -> Prop) : Exit -> Fr -> Store -> Prop
  | .normal => F7 c rs R
  | .ret => F7 c rs R
  | _ => fun _ _ => False
def D4 (args : List AV) (i : Nat) : LV :=
  match args, i with
  | [], _ => .und
  | x :: _, 0 => .av x
  | _ :: l, i + 1 => D4 l i
def Dh (args : List AV) : Fr := ⟨D4 args, fun _ => none⟩
theorem zeb (args : List AV) (i : Nat) : D4 args i = match args[i]? with | some x => .av x | none => .und := by
  induction args generalizing i with
  | nil => rfl
  | cons x l ih =>
    cases i with
    | zero => rfl
    | succ i => simp [D4, ih]
theorem sx (hI : zu P c.I) {w : World} {T : Nat -> Nat -> Prop} {β : Nat -> Nat} {A : Fr} {st : Store} {a : Act} (he : Env w T β A.ev A.bx st a.eval) : ∀ (rs : List ResultVar) (K : List AV -> Prop), wk c A st rs K ->
    ∃ l vs, K l /\ (rs.mapM (m := Sem) fun | .tmp t => pure (a.tmps.getD t undef) | .cell p t => do loadVar t (<- asAddr (a.tmps.getD p undef))).run P w = .ok vs w /\ Reads w T l vs := by
  intro rs
  induction rs with
  | nil => intro K h; exact ⟨[], [], h, by simp, Reads.nil⟩
  | cons r rs ih =>
    intro K h
    cases r with
    | tmp t =>
      simp only [wk] at h
      split at h
      · rename_i x hx
        obtain ⟨l, vs, h1, h2, h3⟩ := ih _ h
        refine ⟨x :: l, a.tmps.getD t undef :: vs, h1, by simp_all, Reads.cons ?_ h3⟩
        have := he.ev (.tmp t)
        simp only [Fr.ev, hx] at this
        exact this
      grind
    | cell p t =>
      simp only [wk] at h
      obtain ⟨i, hi, h⟩ := ze h
      obtain ⟨cl, hcl, _, hs⟩ := Lx (ev := A.ev) h
      obtain ⟨x, hx, hcl⟩ := ze hcl
      obtain ⟨b, off, hv, hav⟩ := hs w T β a.eval he _ (he.ev (.tmp p))
      obtain ⟨v, hr, hvr⟩ := Kn (P := P) (hI _ _ hi) hav hx
      obtain ⟨l, vs, h1, h2, h3⟩ := ih _ hcl
      have hv' : a.tmps.getD p undef = .pointer (some ⟨b, off, none⟩) := hv
      refine ⟨x :: l, v :: vs, h1, ?_, Reads.cons hvr h3⟩
      grind[asAddr,Sem.run_bind,Sem.run_pure,Result.andThen_ok]
theorem s5 {w : World} {T : Nat -> Nat -> Prop} {l : List AV} {vs : List Value} (h : Reads w T l vs) : VRel w T (I1 l) (if h : vs.toArray.size = 1 then vs.toArray[0] else .tuple vs.toArray) := by
  obtain ⟨hl, hr⟩ := h
  match l, vs, hl with
  | [x], [v], _ => exact hr 0 x v rfl rfl
  | [], [], _ => exact xn ⟨rfl, hr⟩
  | x :: y :: l, u :: v :: vs, hl =>
    have : ¬ (u :: v :: vs).toArray.size = 1 := by simp
    rw [dif_neg this]
    exact xn ⟨by omega, by omega⟩
/-- A block of the heap is another object. -/
def j5 (w : World) (b : Nat) (o : Obj) : World := { w with heap := w.heap.setIfInBounds b o }
theorem tv {w : World} {b : Nat} {o : Obj} (h : b < w.heap.size) : (j5 w b o).heap[b]? = some o := by simp [j5, h]
theorem Gc {w : World} {b k : Nat} {o : Obj} (h : k ≠ b) : (j5 w b o).heap[k]? = w.heap[k]? := by simp_all[j5,Ne.symm]
theorem tu {w : World} {b : Nat} {o : Obj} : (j5 w b o).heap.size = w.heap.size := by simp [j5]
theorem rx {w : World} {b : Nat} (h : w.heap[b]? = some (.deferred (some []))) : (Instr.takeDeferred b).run P w = .ok [] (j5 w b (.deferred none)) := by simp_all[Instr.takeDeferred,getObj,setObj,Sem.run,j5]
/-- Some blocks of deferred calls are shut, nothing else. -/
structure Shut (Oth M : Nat -> Nat -> Prop) (w w' : World) : Prop where
  size : w'.heap.size = w.heap.size
  blk : ∀ b, w'.heap[b]? = w.heap[b]? \/ (w.heap[b]? = some (.deferred (some [])) /\ w'.heap[b]? = some (.deferred none) /\ ∀ o, ¬ M b o /\ ¬ Oth b o)
  tape : w'.tape = w.tape
  os : w'.os = w.os
  output : w'.output = w.output
theorem Shut.keeps {Oth M : Nat -> Nat -> Prop} {w w' : World} (h : Shut Oth M w w') (T : Nat -> Nat -> Prop) : Keeps w T w' T where
  cell b o c hc _ := by
    rcases h.blk b with e | ⟨e, _, _⟩
    · rw [jy e]; exact hc
    · simp [World.cell?, e] at hc
  out _ _ _ _ hT := hT
  shp b c e fr hw := by
    rcases h.blk b with e' | ⟨e', _, _⟩
    · grind
    grind
theorem Shut.sto {Oth M : Nat -> Nat -> Prop} {w w' : World} {st : Store} (h : Shut Oth M w w') (s : StoreOK st Oth M w) : StoreOK st Oth M w' where
  obj b x hx := by
    have h1 := s.obj b x hx
    refine ⟨ObjRel.same h1.1 (h.keeps _) ?_, h1.2⟩
    rcases h.blk b with e | ⟨_, _, e⟩
    · exact e
    simp_all
  tok b top ht := by
    obtain ⟨c, e, fr, h1, h2, h3, h4⟩ := s.tok b top ht
    refine ⟨c, e, fr, ?_, h2, h3, h4⟩
    rcases h.blk b with e' | ⟨e', _, _⟩
    · grind
    grind
  mlt b o hm := by rw [h.size]; exact s.mlt b o hm
  olt b o hm := by rw [h.size]; exact s.olt b o hm
  dis := s.dis
/-- On the way out: mark by mark. -/
theorem zai {Oth M : Nat -> Nat -> Prop} {fn : Func} {tmps : Array Value} {R : Ending -> World -> Prop} : ∀ (ds : List Deferred) (w : World), Marks Oth M w ds ->
    (∀ w', Shut Oth M w w' -> ∃ v, (results fn tmps).run P w' = .ok v w' /\ R (.returned v) w') -> LeavesInM Fence.wide 0 P fn tmps R ds .returning w := by
  intro ds
  induction ds with
  | nil => intro w _ h; exact h w ⟨rfl, fun _ => .inl rfl, rfl, rfl, rfl⟩
  | cons d ds ih =>
    intro w hm h
    obtain ⟨D, rfl, h1, h2⟩ := hm.all d (List.mem_cons_self)
    have hnd := List.pairwise_cons.1 hm.nd
    have hne : ∀ d' ∈ ds, ∀ D', d' = { target := .collected D', args := #[] } -> D' ≠ D := fun d' hd' D' e e2 => hnd.1 d' hd' (by rw [e, e2])
    refine ⟨by simp, .inl ⟨D, j5 w D (.deferred none), rfl, rx h1, ih _ ⟨hnd.2, fun d' hd' => ?_⟩ fun w' hs => h w' ?_⟩⟩
    · obtain ⟨D', e, h3, h4⟩ := hm.all d' (List.mem_cons_of_mem _ hd')
      grind[Gc]
    · refine ⟨hs.size.trans tu, fun b => ?_, hs.tape, hs.os, hs.output⟩
      by_cases hb : b = D
      · subst hb
        refine .inr ⟨h1, ?_, h2⟩
        rcases hs.blk b with e | ⟨e, _, _⟩
        · rw [e]; exact tv (vo h1)
        omega
      · rcases hs.blk b with e | ⟨e, e2, e3⟩
        · exact .inl (e.trans (Gc hb))
        grind[Gc]
/-- What may not be written of a block that is there: also what lies behind its cells. -/
def jn (Oth M : Nat -> Nat -> Prop) (w : World) : Nat -> Nat -> Prop := fun b o => Oth b o \/ (b < w.heap.size /\ ¬ M b o /\ ∀ c e fr, w.heap[b]? = some (.cells c e fr) -> c.size <= o)
theorem Ka {Oth M : Nat -> Nat -> Prop} (w : World) : Keeps w (fun b o => M b o \/ Oth b o) w (fun b o => M b o \/ jn Oth M w b o) where
  cell _ _ _ h _ := h
  out b o v hc hT := by
    rintro (h | h | ⟨_, _, h⟩)
    · grind
    · grind
    grind[World.cell?]
  shp b c e fr h := ⟨c, fr, h, rfl⟩
theorem ua {Oth M : Nat -> Nat -> Prop} {w : World} {st : Store} (s : StoreOK st Oth M w) : StoreOK st (jn Oth M w) M w where
  obj b x hx := ⟨ObjRel.same (s.obj b x hx).1 (Ka w) rfl, (s.obj b x hx).2⟩
  tok := s.tok
  mlt := s.mlt
  olt b o h := h.elim (s.olt b o) fun h => h.1
  dis b o h := h.elim (s.dis b o) fun h => h.2.1
theorem ub {Oth M : Nat -> Nat -> Prop} {w : World} {st : Store} {R : AV -> Store -> Prop} {r : AV} {v : Value} {st' : Store} {M' : Nat -> Nat -> Prop} {w' w'' : World} (s : StoreOK st Oth M w) (hR : R r st') (hr : VRel w'' (fun b o => M' b o \/ jn Oth M w b o) r v)
    (sto : StoreOK st' (jn Oth M w) M' w') (hc : Chg M w M' w') (hs : Shut (jn Oth M w) M' w' w'') : yi st R Oth M w v w'' := by
  have hT : ∀ b o, (M' b o \/ Oth b o) -> (M' b o \/ jn Oth M w b o) := fun b o h => h.imp id .inl
  have sto' := hs.sto sto
  refine ⟨r, st', M', hR, hr.mono hT, ⟨fun b x hx => ⟨(sto'.obj b x hx).1.mono hT, (sto'.obj b x hx).2⟩, sto'.tok, sto'.mlt, fun b o h => sto'.olt b o (.inl h), fun b o h => sto'.dis b o (.inl h)⟩, ?_⟩
  refine { size := by rw [hs.size]; exact hc.size, keep := fun b o hb hm => ?_, blk := fun b hb hm => ?_, shp := fun b c e fr hw => ?_, sub := hc.sub, tape := hs.tape.trans hc.tape, os := hs.os.trans hc.os, output := hs.output.trans hc.output }
  · rw [<- hc.keep b o hb hm]
    rcases hs.blk b with e | ⟨e, e2, _⟩
    · exact jy e o
    · simp [World.cell?, e, e2]
  · rcases hs.blk b with e | ⟨_, _, e⟩
    · exact e.trans (hc.blk b hb hm)
    · exfalso
      cases hx : w.heap[b]? with
      | none =>
        grind
      | some x =>
        cases x with
        | cells c e1 fr => exact (e c.size).2 (.inr ⟨hb, hm _, fun c' e' fr' h => by grind⟩)
        | _ => exact (e 0).2 (.inr ⟨hb, hm _, fun c' e' fr' h => by grind⟩)
  · obtain ⟨c', fr', h1, h2⟩ := hc.shp b c e fr hw
    refine ⟨c', fr', ?_, h2⟩
    rcases hs.blk b with e' | ⟨e', _, _⟩
    · grind
    grind
theorem ACalls.of_awp (hI : zu P c.I) {g : FuncId} {fn : Func} {code : Code} {args : List AV} {st : Store} {R : AV -> Store -> Prop} (hf : P.funcs[g]? = some fn) (hb : fn.body = some code) (hname : (fn.name == "runtime.NumGoroutine") = false)
    (hn : fn.ntmps = c.n) (hlen : Nat.ble args.length c.n = true) (h : AWp P c code (I0 c fn.results.toList R) (Dh args) st) (hround : c.round = none := by rfl) (hD : c.D0 = [] := by rfl) : ACalls P g args st R := by
  refine ⟨fun Oth M w vs sto hr => ?_⟩
  have hrun : (callFunc g vs).run P w = .ok (.enter g vs) w := by simp_all[callFunc]
  rw [hrun]
  simp only [Fb]
  have hF : c.F = Fence.wide := by unfold Cfg.F; rw [hround]; rfl
  refine (callsIn_wide (n := 0)).1 (callsIn_of_wp_marks hf hb trivial ?_)
  have hle : args.length <= c.n := Nat.le_of_ble_eq_true hlen
  have hsz : vs.size = args.length := by simpa using hr.1.symm
  let a : Act := { tmps := vs ++ Array.replicate (fn.ntmps - vs.size) undef, defers := [] }
  have sim : SimB c.N (jn Oth M w) (fun _ => 0) (Dh args) st M a w :=
    { tsz := by show Array.size _ = c.n; grind
      dfr := MarksD.nil hD
      tm := fun i => by
        simp only [Dh, zeb, a]
        rw [Array.getD_eq_getD_getElem?]
        by_cases hi : i < vs.size
        · rw [Array.getElem?_append_left hi, Array.getElem?_eq_getElem hi, List.getElem?_eq_getElem (by omega)]
          exact (hr.2 i _ _ (List.getElem?_eq_getElem (by omega)) (by simp [hi])).keep (Ka w)
        grind[LRel]
      bx := fun k l hk => by trivial
      inj := fun k k' hk => by trivial
      sep := fun k b hk => by trivial
      sto := ua sto }
  have h2 := h.out (jn Oth M w) M a w ⟨_, sim⟩
  rw [hF] at h2
  refine Code.wpF_mono ?_ h2
  have fin : ∀ a' w' A' st' M', F7 c fn.results.toList R A' st' -> Sim c.N (jn Oth M w) A' st' M' a' w' -> Chg M w M' w' ->
      LeavesInM Fence.wide 0 P fn a'.tmps (fun e w' => ∃ v, e = .returned v /\ yi st R Oth M w v w') a'.defers .returning w' := by
    rintro a' w' A' st' M' hret ⟨β, s⟩ hchg
    refine zai a'.defers w' (s.dfr.out hD) fun w'' hs => ?_
    have hblk : ∀ b o, M' b o -> w''.heap[b]? = w'.heap[b]? := fun b o hm => by
      rcases hs.blk b with e | ⟨_, _, e⟩
      · exact e
      grind
    have he : Env w'' (fun b o => M' b o \/ jn Oth M w b o) β A'.ev A'.bx st' a'.eval :=
      ⟨fun x => (s.ev x).keep (hs.keeps _), fun k l hk => (s.bx k l hk).1.same (hs.keeps _) (hblk _ 0 ((s.bx k l hk).2 0)), fun b x hx => ((hs.sto s.sto).obj b x hx).1⟩
    obtain ⟨l, vs, ⟨r, st'', h1, h2, h3⟩, h4, h5⟩ := sx hI he _ _ hret
    refine ⟨_, ?_, _, rfl, ub sto h3 (h1 _ _ _ (s5 h5)) (s.sto.weaken h2) hchg hs⟩
    unfold results
    rw [Sem.run_bind, Array.mapM_eq_mapM_toList, Sem.run_map]
    exact congrArg (fun r => (Result.andThen (Result.andThen r fun l w => .ok l.toArray w) fun (vs : Array Value) w' => .ok (if h : vs.size = 1 then vs[0] else .tuple vs) w')) h4
  rintro e a' w' ⟨A', st', M', h1, h2, h3⟩
  cases e with
  | normal => exact fin a' w' A' st' M' h1 h2 h3
  | ret => exact fin a' w' A' st' M' h1 h2 h3
  | _ => trivial
/-- **A function's contract, out of its text.** -/
theorem ACalls.of_body (hI : zu P c.I) {g : FuncId} {fn : Func} {code : Code} {args : List AV} {st : Store} {R : AV -> Store -> Prop} (hf : P.funcs[g]? = some fn) (hb : fn.body = some code) (hname : (fn.name == "runtime.NumGoroutine") = false)
    (hn : fn.ntmps = c.n) (hlen : Nat.ble args.length c.n = true) (h : vc P c code (I0 c fn.results.toList R) (Dh args) st) (hround : c.round = none := by rfl) (hD : c.D0 = [] := by rfl) : ACalls P g args st R :=
  ACalls.of_awp hI hf hb hname hn hlen (Fi hI code _ _ st h) hround hD
/-- Slots and boxes as they are listed. -/
def Cz (l : List (Nat × LV)) (i : Nat) : LV :=
  match l with
  | [] => .any
  | (j, x) :: l => bif Nat.beq i j then x else Cz l i
def jr (l : List (Nat × List AV)) (i : Nat) : Option (List AV) :=
  match l with
  | [] => none
  | (j, x) :: l => bif Nat.beq i j then some x else jr l i
def xe (l : List (Nat × LV)) (b : List (Nat × List AV)) : Fr := ⟨Cz l, jr b⟩
def ki (A : Fr) : List (Nat × LV) -> Prop
  | [] => True
  | (j, x) :: l => LV.le (A.t j) x /\ ki A l
def kj (A : Fr) : List (Nat × List AV) -> Prop
  | [] => True
  | (j, x) :: l => A.bx j = some x /\ kj A l
theorem K8 {A : Fr} : ∀ {l : List (Nat × LV)}, ki A l -> ∀ i, LV.le (A.t i) (Cz l i) := by
  intro l
  induction l with
  | nil => intro _ i; exact LV.le_any _
  | cons p l ih =>
    obtain ⟨j, x⟩ := p
    intro h i
    simp only [Cz]
    by_cases hi : i = j
    · subst hi; simp only [Nat.beq_refl, cond_true]; exact h.1
    · simp only [ya hi, cond_false]; exact ih h.2 i
theorem K9 {A : Fr} : ∀ {l : List (Nat × List AV)}, kj A l -> ∀ i x, jr l i = some x -> A.bx i = some x := by
  intro l
  induction l with
  | nil => intro _ i x h; trivial
  | cons p l ih =>
    obtain ⟨j, y⟩ := p
    intro h i x hx
    simp only [jr] at hx
    by_cases hi : i = j
    · subst hi; simp only [Nat.beq_refl, cond_true] at hx; rw [<- hx]; exact h.1
    · simp only [ya hi, cond_false] at hx; exact ih h.2 i x hx
theorem Sim.fits {n : SN} {Oth M : Nat -> Nat -> Prop} {A : Fr} {st st' : Store} {a : Act} {w : World} (h : Sim n Oth A st M a w) {l : List (Nat × LV)} {b : List (Nat × List AV)} (ht : ki A l) (hb : kj A b) (hs : st.Has st') : Sim n Oth (xe l b) st' M a w := by
  obtain ⟨β, s⟩ := h
  have hbx : ∀ k x, jr b k = some x -> A.bx k = some x := K9 hb
  have hne : ∀ k, jr b k ≠ none -> A.bx k ≠ none := fun k hk => by
    cases hl : jr b k with
    | none => grind
    | some x => grind
  exact ⟨β,
    { tsz := s.tsz
      dfr := s.dfr
      tm := fun i => K8 ht i _ _ _ _ (s.tm i)
      bx := fun k x hk => s.bx k x (hbx k x hk)
      inj := fun k k' h1 h2 => s.inj k k' (hne k h1) (hne k' h2)
      sep := fun k b hk hb => s.sep k b (hne k hk) (by
        rcases hb with hb | hb
        · cases ho : st'.obj b with
          | none => grind
          | some x => exact .inl (by rw [hs.obj b x ho]; simp)
        · cases ho : st'.tok b with
          | none => grind
          | some x => exact .inr (by rw [hs.tok b x ho]; simp))
      sto := s.sto.weaken hs }⟩
theorem AWp.weaken {code : Code} {Q : Exit -> Fr -> Store -> Prop} {A : Fr} {st st' : Store} {l : List (Nat × LV)} {b : List (Nat × List AV)} (h : AWp P c code Q (xe l b) st') (ht : ki A l) (hb : kj A b) (hs : st.Has st') : AWp P c code Q A st :=
  ⟨fun Oth M a w sim => h.out Oth M a w (sim.fits ht hb hs)⟩
/-- What a loop's head knows: for each 's' the slots, the boxes, and what is said of the store. -/
structure LoopHead (σ : Type) where
  t : σ -> List (Nat × LV)
  bx : σ -> List (Nat × List AV)
  inv : σ -> Store -> Prop
  μ : σ -> Nat
def LoopHead.at {σ : Type} (H : LoopHead σ) (A : Fr) (st : Store) (p : σ -> Prop) : Prop :=
  ∃ s, p s /\ H.inv s st /\ ki A (H.t s) /\ kj A (H.bx s)
def Iy {σ : Type} (H : LoopHead σ) (s : σ) (Q : Exit -> Fr -> Store -> Prop) : Exit -> Fr -> Store -> Prop
  | .normal => fun A st => H.at A st fun s' => H.μ s' < H.μ s
  | e => Q e
theorem AWp.loop {σ : Type} (H : LoopHead σ) {b : Code} {Q : Exit -> Fr -> Store -> Prop} {A : Fr} {st : Store} (hI : zu P c.I) (h0 : H.at A st fun _ => True)
    (round : ∀ s st, H.inv s st -> vc P c b (Iy H s Q) (xe (H.t s) (H.bx s)) st) : AWp P c (.loop b) Q A st := by
  obtain ⟨s0, _, hi0, ht0, hb0⟩ := h0
  refine ⟨fun Oth M a w sim => ?_⟩
  refine wpIn_loop_ghost (fun n a' w' => ∃ s st' M', H.μ s = n /\ H.inv s st' /\ Sim c.N Oth (xe (H.t s) (H.bx s)) st' M' a' w' /\ Chg M w M' w') (H.μ s0)
    ⟨s0, st, M, rfl, hi0, sim.fits ht0 hb0 (Store.Has.refl st), Chg.refl M w⟩ ?_
  rintro n a' w' ⟨s, st', M', rfl, hi, hsim, hchg⟩
  refine Code.wpF_mono ?_ ((Fi hI b _ _ st' (round s st' hi)).out Oth M' a' w' hsim)
  rintro e a'' w'' ⟨A'', st'', M'', h1, h2, h3⟩
  cases e with
  | normal =>
    obtain ⟨s', hlt, hi', ht', hb'⟩ := h1
    exact ⟨H.μ s', hlt, s', st'', M'', rfl, hi', h2.fits ht' hb' (Store.Has.refl st''), hchg.trans h3⟩
  | _ => exact ⟨A'', st'', M'', h1, h2, hchg.trans h3⟩
end
section
variable {P : Program} {c : Cfg}
theorem AWp.of_vc (hI : zu P c.I) {code : Code} {Q : Exit -> Fr -> Store -> Prop} {A : Fr} {st : Store} (h : vc P c code Q A st) : AWp P c code Q A st := Fi hI code Q A st h
/-- One piece behind the other: the second one may be cut off. -/
theorem AWp.seq {x y : Code} {Q : Exit -> Fr -> Store -> Prop} {A : Fr} {st : Store} (h : AWp P c x (Ch (AWp P c y Q) Q) A st) : AWp P c (.seq x y) Q A st := by
  refine ⟨fun Oth M a w sim => wpIn_seq ?_⟩
  refine Code.wpF_mono ?_ (h.out Oth M a w sim)
  rintro e a' w' ⟨A', st', M', h1, h2, h3⟩
  cases e with
  | normal =>
    refine Code.wpF_mono ?_ ((AWp.out h1) Oth M' a' w' h2)
    rintro e a'' w'' ⟨A'', st'', M'', h4, h5, h6⟩
    exact ⟨A'', st'', M'', h4, h5, h3.trans h6⟩
  | _ => exact ⟨A', st', M', h1, h2, h3⟩
theorem AWp.block {id : Nat} {b : Code} {Q : Exit -> Fr -> Store -> Prop} {A : Fr} {st : Store} (h : AWp P c b (Db id Q) A st) : AWp P c (.block id b) Q A st := by
  refine ⟨fun Oth M a w sim => wpIn_block ?_⟩
  refine Code.wpF_mono ?_ (h.out Oth M a w sim)
  rintro e a' w' ⟨A', st', M', h1, h2, h3⟩
  cases e with
  | exit id' =>
    simp only [Db] at h1
    simp only [Exit.inBlock]
    by_cases he : id' = id
    · subst he
      simp only [Nat.beq_refl, cond_true] at h1
      grind
    · simp only [ya he, cond_false] at h1
      grind
  | _ => exact ⟨A', st', M', h1, h2, h3⟩
theorem AWp.scope {b : Code} {Q : Exit -> Fr -> Store -> Prop} {A : Fr} {st : Store} (h : AWp P c b (Ke Q) A st) : AWp P c (.scope b) Q A st := by
  refine ⟨fun Oth M a w sim => Hr ?_⟩
  refine Code.wpF_mono ?_ (h.out Oth M a w sim)
  rintro e a' w' ⟨A', st', M', h1, h2, h3⟩
  cases e with
  | goto l => trivial
  | _ => exact ⟨A', st', M', h1, h2, h3⟩
/-- A place where the ways meet: for each 's' the slots and the boxes that what follows needs. -/
structure Meet (σ : Type) where
  t : σ -> List (Nat × LV)
  bx : σ -> List (Nat × List AV)
  inv : σ -> Store -> Prop
def Meet.at {σ : Type} (H : Meet σ) (A : Fr) (st : Store) : Prop := ∃ s, H.inv s st /\ ki A (H.t s) /\ kj A (H.bx s)
/-- Once for all ways: 'x' comes to the place, 'y' goes on from it. -/
theorem AWp.meet {σ : Type} (H : Meet σ) (hI : zu P c.I) {x y : Code} {Q : Exit -> Fr -> Store -> Prop} {A : Fr} {st : Store} (hx : vc P c x (Ch H.at Q) A st)
    (hy : ∀ s st', H.inv s st' -> AWp P c y Q (xe (H.t s) (H.bx s)) st') : AWp P c (.seq x y) Q A st := by
  refine AWp.seq ((AWp.of_vc hI hx).mono fun e A' st' h => ?_)
  cases e with
  | normal =>
    obtain ⟨s, h1, h2, h3⟩ := h
    exact AWp.weaken (hy s st' h1) h2 h3 (Store.Has.refl st')
  | _ => exact h
end
/-- Types of which values are held against one another part by part. -/
def G5 (P : Program) (t : TypeId) : Bool :=
  !P.stoodInHeld t && !P.eqGuardType P.depth t && (match P.underlying t with | some (.struct fs) => fs.toList.all fun f => f.name != "_" | _ => true)
def Fc (z : Value) (d : Ty) : Bool := match z with | .agg _ => xr d | _ => !xr d
/-- What the tables say of a type. -/
def infoOf (P : Program) (t : TypeId) (eq : Bool) : Option TI :=
  match P.info? t, P.underlying t with
  | some inf, some d => match inf.zero with
    | some z => bif Nat.beq z.cells.toList.length inf.size && (!eq || G5 P t) && Fc z (xi d) then some { ty := xi d, size := inf.size, bytes := inf.bytes, zero := z.cells.toList, eq := eq } else none
    | none => none
  | _, _ => none
theorem zax {P : Program} {t : TypeId} {eq : Bool} {i : TI} (h : infoOf P t eq = some i) : TIok P t i := by
  unfold infoOf at h
  split at h
  · rename_i inf d hinf hd
    split at h
    · rename_i z hz
      cases hb : (Nat.beq z.cells.toList.length inf.size && (!eq || G5 P t) && Fc z (xi d)) with
      | false => grind
      | true =>
        rw [hb] at h
        simp only [cond_true, Option.some.injEq] at h
        subst h
        simp only [Bool.and_eq_true] at hb
        obtain ⟨⟨h2, h3⟩, h4⟩ := hb
        refine ⟨⟨inf, hinf, rfl, rfl, z, hz, rfl⟩, ⟨d, hd, rfl⟩, (yr _ _).1 h2, fun inf' z' hi' hz' => ?_, fun he => ?_⟩
        · rw [hinf] at hi'
          cases hi'
          rw [hz] at hz'
          cases hz'
          cases z with
          | agg cs => exact .inl ⟨h4, cs, rfl⟩
          | _ => exact .inr ⟨by simpa [Fc] using h4, rfl⟩
        simp only at he
        subst he
        simp only [Bool.not_true, Bool.false_or, G5, Bool.and_eq_true, Bool.not_eq_true'] at h3
        grind
    · cases h
  · cases h
inductive Tr where
  | nil
  | node (k : Nat) (l : Tr) (x : TI) (r : Tr)
def Tr.get : Tr -> Nat -> Option TI
  | .nil, _ => none
  | .node k l x r, t => bif Nat.beq t k then some x else bif Nat.blt t k then l.get t else r.get t
def Tr.all (P : Program) : Tr -> Prop
  | .nil => True
  | .node k l x r => infoOf P k x.eq = some x /\ l.all P /\ r.all P
theorem Tr.ok {P : Program} : ∀ (tr : Tr), tr.all P -> zu P tr.get := by
  intro tr
  induction tr with
  | nil => intro _ t i h; cases h
  | node k l x r ihl ihr =>
    rintro ⟨h1, h2, h3⟩ t i h
    simp only [Tr.get] at h
    by_cases ht : t = k
    · subst ht
      simp only [Nat.beq_refl, cond_true, Option.some.injEq] at h
      subst h
      exact zax h1
    · simp only [ya ht, cond_false] at h
      cases hb : Nat.blt t k with
      | true => rw [hb] at h; exact ihl h2 t i h
      | false => rw [hb] at h; exact ihr h3 t i h
/-- A slice that grows by appends: nil at first. -/
def App (k : Nat) (st : Store) (v : AV) (rows : List (List AV)) (st' : Store) : Prop :=
  (v = .s (.slice none 0 0) /\ rows = [] /\ st' = st) \/ Owned k st v rows st'
theorem App.start (k : Nat) (st : Store) : App k st (.s (.slice none 0 0)) [] st := .inl ⟨rfl, rfl, rfl⟩
theorem pe {st : Store} {b : Nat} {x : Option Nat} (h : st.tok b = none) : (st.setTok b x).setTok b none = st := by
  unfold Store.setTok
  congr
  grind[ya]
theorem App.has {k : Nat} {st st' : Store} {v : AV} {rows : List (List AV)} (h : App k st v rows st') : st'.Has st := by
  rcases h with ⟨_, _, rfl⟩ | ⟨_, _, rfl⟩ | ⟨_, b, hb, _, rfl⟩
  · exact Store.Has.refl _
  · exact Store.Has.refl _
  · refine ⟨fun _ _ h => h, fun i x h => ?_⟩
    have : i ≠ b := fun e => by rw [e, hb.2] at h; cases h
    simpa [Store.setTok, ya this] using h
theorem App.le {k : Nat} {st st' : Store} {v : AV} {rows : List (List AV)} (h : App k st v rows st') : AV.le v (.lst k rows none) := by
  rcases h with ⟨rfl, rfl, _⟩ | ⟨rfl, rfl, _⟩ | ⟨_, b, hb, rfl, _⟩
  · exact AV.le_nil k
  · intro w T v h
    cases h with
    | emp a h =>
      cases a with
      | none => exact .nil k none
      | some a =>
        obtain ⟨b, off, spot⟩ := a
        simp_all[VRel.empty]
  · exact AV.le_tok _ _ _
theorem Ag {c : Cfg} {st st' : Store} {e : TypeId} {ie : TI} {v : AV} {x : LV} {K : AV -> Store -> Prop} {rows rows' : List (List AV)} (h : App ie.size st v rows st') (hie : c.I e = some ie) (hx : xk ie.size x = some rows')
    (hroom : room (rows.length + rows'.length) ie.bytes) (hK : ∀ v2 st2, App ie.size st v2 (rows ++ rows') st2 -> K v2 st2) {P : Program} (hp : Nat.blt 0 ie.size = true := by rfl) : appendK P c st' e (.av v) x K := by
  refine ⟨.inl (za ie hie ?_)⟩
  rcases h with ⟨rfl, rfl, rfl⟩ | ⟨rfl, rfl, rfl⟩ | ⟨hne, b, hb, rfl, rfl⟩
  · exact za rows' hx ⟨by grind, fun v st2 ho => hK v st2 (.inr (by grind))⟩
  · exact za rows' hx ⟨by grind, fun v st2 ho => hK v st2 (.inr (by grind))⟩
  · show (bif Nat.beq ie.size ie.size && Nat.blt 0 ie.size then _ else False)
    rw [Nat.beq_refl, hp, Bool.and_self, cond_true]
    refine za rows' hx ⟨by simp [Store.setTok], by grind, fun v st2 ho => hK v st2 (.inr ?_)⟩
    rwa [pe hb.2] at ho
section
variable {P : Program} {c : Cfg}
theorem Cy {ev ev' : Operand -> LV} {l : List Operand} (h : ∀ x ∈ l, ev' x = ev x) :
    (l.mapM fun x => (ev' x).toAV) = (l.mapM fun x => (ev x).toAV) := by
  induction l with
  | nil => rfl
  | cons a l ih =>
    grind
theorem ue {ev ev' : Operand -> LV} {x : Option Operand} (h : ∀ y ∈ x.toArray, ev' y = ev y) : jo ev' x = jo ev x := by
  cases x with
  | none => rfl
  | some y => simp only [jo]; grind
theorem Hx {ev : Operand -> LV} {bx : Nat -> Option (List AV)} {st : Store} {d : Nat} {op : Op} {K K' : LV -> Prop} (hI : zu P c.I) (hK : ∀ x, K x -> K' x) (h : vcV c ev bx st d op K) : vcV c ev bx st d op K' := by
  obtain ⟨x, hx, hx', _⟩ := Fj hI op h
  grind
theorem Hy {ev ev' : Operand -> LV} {bx : Nat -> Option (List AV)} {st : Store} {d : Nat} {op : Op} {K : LV -> Prop} (h : ∀ x ∈ op.operands, ev' x = ev x) (hv : vcV c ev bx st d op K) : vcV c ev' bx st d op K := by
  cases op <;> simp only [Op.operands] at h <;> first | exact hv | skip
  case move x => simp_all[vcV]
  case assign x => simp_all[vcV]
  case pick a b e => simp_all[vcV]
  case load t x => simp_all[vcV]
  case nilCheck x => simp_all[vcV]
  case binOp op t x y yt => simp_all[vcV]
  case unOp op t x => simp_all[vcV]
  case convert s t x => simp_all[vcV]
  case fieldAddr s x f => simp_all[vcV]
  case field s x f => simp_all[vcV]
  case indexAddr t x i => simp_all[vcV]
  case index t x i => simp_all[vcV]
  case extract x i => simp_all[vcV]
  case slice t x lo hi mx =>
    simp_all[vcV,ue]
  case build t ps =>
    simp only [vcV] at hv ⊢
    have e : (ps.toList.map fun p => (p.1, ev' p.2)) = (ps.toList.map fun p => (p.1, ev p.2)) := List.map_congr_left fun p hp => by grind
    rwa [e]
  case makeFunc f first cap =>
    cases f <;> simp only [vcV] at hv ⊢ <;> try exact hv
    have e : first.toList.mapM (fun x => (ev' x).toV) = first.toList.mapM fun x => (ev x).toV := by
      have : ∀ l : List Operand, (∀ x ∈ l, ev' x = ev x) -> l.mapM (fun x => (ev' x).toV) = l.mapM fun x => (ev x).toV := fun l => by
        induction l with
        | nil => intro _; rfl
        | cons a l ih => intro hl; rw [List.mapM_cons, List.mapM_cons, hl a (by simp), ih fun x hx => hl x (by simp [hx])]
      exact this _ fun x hx => h x (by simp; exact .inl (by simpa using hx))
    rwa [Cy (ev := ev) (ev' := ev') fun x hx => h x (by simp; exact .inr (by simpa using hx)), e]
  case call cl =>
    obtain ⟨callee, args, argTypes⟩ := cl
    simp only [vcV, km] at hv ⊢
    cases callee with
    | value f => exact hv
    | invoke r m => exact hv
    | builtin b =>
      have ha : ∀ x ∈ args, ev' x = ev x := fun x hx => h x (by simp [Call.operands, hx])
      cases b <;> simp only at hv ⊢ <;> try exact hv
      case len =>
        obtain ⟨t, ht, hv⟩ := ze hv
        obtain ⟨i, hi, hv⟩ := ze hv
        obtain ⟨x, hx, hv⟩ := ze hv
        refine za t ht (za i hi (za x hx ?_))
        rwa [ha x (Array.mem_of_getElem? hx)]
      case cap =>
        obtain ⟨t, ht, hv⟩ := ze hv
        obtain ⟨i, hi, hv⟩ := ze hv
        obtain ⟨x, hx, hv⟩ := ze hv
        refine za t ht (za i hi (za x hx ?_))
        rwa [ha x (Array.mem_of_getElem? hx)]
      case min => rwa [show args.toList.map ev' = args.toList.map ev from List.map_congr_left fun x hx => ha x (by simpa using hx)]
      case max => rwa [show args.toList.map ev' = args.toList.map ev from List.map_congr_left fun x hx => ha x (by simpa using hx)]
/-- The operations whose value hangs on nothing but their operands. -/
def wq : Op -> Bool
  | .load .. => false
  | .call cl => match cl.callee with | .builtin .min => true | .builtin .max => true | _ => false
  | _ => true
theorem Hw {ev : Operand -> LV} {bx bx' : Nat -> Option (List AV)} {st st' : Store} {d : Nat} {op : Op} {K : LV -> Prop} (hn : wq op = true) (hv : vcV c ev bx st d op K) : vcV c ev bx' st' d op K := by
  cases op <;> first | exact hv | skip
  case load t x => simp [wq] at hn
  case call cl =>
    obtain ⟨callee, args, argTypes⟩ := cl
    simp only [vcV, km] at hv ⊢
    cases callee with
    | value f => exact hv
    | invoke r m => exact hv
    | builtin b => cases b <;> simp [wq] at hn <;> exact hv
/-- A slice literal, as a value. -/
def bsK (c : Cfg) (ev : Operand -> LV) (t : TypeId) (n : Nat) (parts : Array (Nat × Operand)) (K : LV -> Prop) : Prop :=
  optK (c.I t) fun i => match i.ty with
    | .slice e => optK (c.I e) fun ie => optK (ks ie.size n (List.replicate n (xd ie)) (parts.toList.map fun p => (p.1, ev p.2))) fun rows =>
      bif rows.flatten.all AV.one then n * ie.size <= 16777216 /\ (match rows with
        | [] => K (.av .emp)
        | _ :: _ => K (.av (.lst ie.size rows none))) else False
    | _ => False
/-- The operations that may be carried out at any time. -/
def vcW (c : Cfg) (ev : Operand -> LV) (bx : Nat -> Option (List AV)) (st : Store) (d : Nat) (op : Op) (K : LV -> Prop) : Prop :=
  match op with
  | .buildSlice t n parts => bsK c ev t n parts K
  | op => vcV c ev bx st d op K
theorem L7 {ev : Operand -> LV} {t : TypeId} {n : Nat} {parts : Array (Nat × Operand)} {K : LV -> Prop} (h : bsK c ev t n parts K) :
    ∃ (i ie : TI) (e : TypeId) (rows : List (List AV)) (x : LV), c.I t = some i /\ i.ty = .slice e /\ c.I e = some ie /\ ks ie.size n (List.replicate n (xd ie)) (parts.toList.map fun p => (p.1, ev p.2)) = some rows /\ rows.flatten.all AV.one = true ∧
      n * ie.size <= 16777216 /\ x = (match rows with | [] => .av .emp | _ :: _ => .av (.lst ie.size rows none)) /\ K x /\ ∀ K' : LV -> Prop, K' x -> bsK c ev t n parts K' := by
  unfold bsK at h
  obtain ⟨i, hi, h⟩ := ze h
  split at h
  · rename_i e hty
    obtain ⟨ie, hie, h⟩ := ze h
    obtain ⟨rows, hrows, h⟩ := ze h
    cases hone : rows.flatten.all AV.one with
    | false => rw [hone] at h; exact h.elim
    | true =>
      rw [hone] at h
      simp only [cond_true] at h
      obtain ⟨hroom, h⟩ := h
      refine ⟨i, ie, e, rows, _, hi, hty, hie, hrows, hone, hroom, rfl, by cases rows <;> exact h, fun K' h' => ?_⟩
      refine za i hi ?_
      simp only [hty]
      refine za ie hie (za rows hrows ?_)
      rw [hone]
      exact ⟨hroom, by cases rows <;> exact h'⟩
  · exact h.elim
theorem Cc {ev ev' : Operand -> LV} {bx : Nat -> Option (List AV)} {st : Store} {d : Nat} {op : Op} {K : LV -> Prop} (h : ∀ x ∈ op.operands, ev' x = ev x) (hv : vcW c ev bx st d op K) : vcW c ev' bx st d op K := by
  cases op <;> first | exact Hy (bx := bx) (st := st) (d := d) (K := K) h (show vcV c ev bx st d _ K from hv) | skip
  case buildSlice t n parts =>
    have e : (parts.toList.map fun p => (p.1, ev' p.2)) = (parts.toList.map fun p => (p.1, ev p.2)) := List.map_congr_left fun p hp => by
      rw [h p.2 (by simp [Op.operands]; exact ⟨p.1, by simpa using hp⟩)]
    simp only [vcW] at hv ⊢
    unfold bsK at hv ⊢
    rwa [e]
theorem M7 {ev : Operand -> LV} {bx bx' : Nat -> Option (List AV)} {st st' : Store} {d : Nat} {op : Op} {K : LV -> Prop} (hn : wq op = true) (hv : vcW c ev bx st d op K) : vcW c ev bx' st' d op K := by
  cases op <;> first | exact Hw (bx := bx) (st := st) (d := d) (K := K) hn (show vcV c ev bx st d _ K from hv) | exact hv | skip
  case call cl => exact Hw (bx := bx) (bx' := bx') (st := st) (st' := st') (d := d) (op := .call cl) hn hv
end
/-- In what order a region is carried out: values at once, then the effects that may come next, each with what follows; 'chk': the operations whose values must stand behind the effect. -/
inductive Sched where
  | done
  | v (i : Nat) (r : Sched)
  | e (i : Nat) (chk : List Nat) (r alt : Sched)
  | stop
def sv : List Nat -> Sched -> Sched
  | [], s => s
  | i :: l, s => .v i (sv l s)
/-- May the operation float? -/
def isV (c : Cfg) (o : Oper) : Bool :=
  match o.op with
  | .alloc _ => false
  | .box _ _ => false
  | .store _ _ _ => false
  | .assign _ => false
  | .convert s t _ => !Nat.beq s t
  | .buildSlice _ _ _ => match o.dst with | some d => !c.G.contains d | none => false
  | .call cl => match cl.callee with
    | .builtin .len => true
    | .builtin .cap => true
    | .builtin .min => true
    | .builtin .max => true
    | _ => false
  | .mapUpdate .. | .insert .. | .mapEntry .. | .entryStore .. | .makeMap .. | .makeSlice .. | .lookup .. | .range .. | .next .. | .entry .. | .makeInterface .. | .typeAssert .. | .select .. | .go .. | .defer .. | .panic .. | .send .. | .recv .. | .ready .. | .waits .. | .makeChan .. => false
  | _ => true
def ye (ops : Array Oper) (i : Nat) : List Nat :=
  match ops[i]? with
  | some o => o.after.toList.filterMap fun e => bif Region.binds .any e then some e.on else none
  | none => []
def mem (i : Nat) : List Nat -> Bool
  | [] => false
  | j :: l => bif Nat.beq i j then true else mem i l
theorem yq (i : Nat) : ∀ (l : List Nat), mem i l = true ↔ i ∈ l := by
  intro l
  induction l with
  | nil => simp [mem]
  | cons j l ih =>
    simp_all[mem]
def sub (l m : List Nat) : Bool := l.all fun i => mem i m
/-- The alternatives that a schedule lists from here on. -/
def Bv : Sched -> List Nat
  | .e i _ _ alt => i :: Bv alt
  | _ => []
/-- What must have been carried out before 'i'. -/
def Bb (ops : Array Oper) (i : Nat) : List Nat :=
  (List.range i).reverse.foldl (fun acc j => bif mem j acc then ye ops j ++ acc else acc) (ye ops i)
/-- What the effect 'i' asks of those that have been taken before it. -/
def k8 (c : Cfg) (ops : Array Oper) (i : Nat) (chk L : List Nat) : Bool :=
  !mem i L && Nat.blt i ops.size && sub (ye ops i) L && (match ops[i]? with | some o => !isV c o | none => false) &&
  L.all fun j => mem j (Bb ops i) || mem j chk || (match ops[j]?, ops[i]? with
    | some o, some o' => !isV c o || (wq o.op && (match o'.op with | .alloc _ => false | .box _ _ => false | _ => true))
    | _, _ => false)
/-- Is the schedule one of the region's, all that may come next listed? -/
def qb (c : Cfg) (ops : Array Oper) : Sched -> List Nat -> Bool -> Bool
  | .done, L, first => first && (List.range ops.size).all fun i => mem i L
  | .v i r, L, first => first && (!mem i L && Nat.blt i ops.size && (match ops[i]? with | some o => isV c o | none => false) && sub (ye ops i) L && qb c ops r (i :: L) true)
  | .e i chk r alt, L, first => k8 c ops i chk L && qb c ops r (i :: L) true && qb c ops alt L false &&
      (!first || (List.range ops.size).all fun j => mem j L || !sub (ye ops j) L || mem j (i :: Bv alt))
  | .stop, _, first => !first
/-- What holds of the operations among themselves. -/
def qq (c : Cfg) (ops : Array Oper) : Bool :=
  (List.range ops.size).all fun i => match ops[i]? with
    | none => false
    | some o => (ye ops i).all (fun j => Nat.blt j i) && (match o.op with | .select .. => false | .defer .. => false | _ => true) && (match o.dst with
      | none => !isV c o
      | some t => Nat.blt t c.n && !mem t (o.looksAt ops) &&
        (List.range ops.size).all fun k => Nat.beq k i || (match ops[k]? with
          | none => false
          | some o' => (match o'.dst with | some t' => !Nat.beq t t' | none => true) && (!mem t (o'.looksAt ops) || mem i (ye ops k) || (!isV c o && mem k (ye ops i)))))
/-- An operation under its guard: carried out, or left out. -/
def j9 (ops : Array Oper) (o : Oper) (A : Fr) (go skip : Fr -> Prop) : Prop :=
  match o.guard with
  | none => go A
  | some (j, want) => optK ((ops[j]?).bind (·.dst)) fun t =>
    match A.t t with
    | .av (.s (.bool b)) => xu b (bif want then go (A.put t (yn true)) else skip (A.put t (yn true))) (bif want then skip (A.put t (yn false)) else go (A.put t (yn false)))
    | .und => skip A
    | _ => False
/-- The operation's value stands. -/
def stands (c : Cfg) (ops : Array Oper) (A : Fr) (st : Store) (i : Nat) : Prop :=
  optK ops[i]? fun o => optK o.dst fun d => j9 ops o A (fun A => vcW c A.ev A.bx st d o.op fun x => x = A.t d) (fun A => A.t d = .und)
def kp (c : Cfg) (ops : Array Oper) (A : Fr) (st : Store) : List Nat -> Prop
  | [] => True
  | i :: l => stands c ops A st i /\ kp c ops A st l
def y9 (P : Program) (c : Cfg) (ops : Array Oper) (K : Fr -> Store -> Prop) : Sched -> Fr -> Store -> Prop
  | .done, A, st => K A st
  | .v i r, A, st => optK ops[i]? fun o => optK o.dst fun d =>
      j9 ops o A (fun A => vcW c A.ev A.bx st d o.op fun x => y9 P c ops K r (A.put d x) st) (fun A => y9 P c ops K r (A.put d .und) st)
  | .e i chk r alt, A, st => (optK ops[i]? fun o =>
      j9 ops o A (fun A => xx P c o (fun A' st' => kp c ops A' st' chk /\ y9 P c ops K r A' st') A st)
        (fun A => z8 A c.n o.dst .und fun A' => kp c ops A' st chk /\ y9 P c ops K r A' st)) /\ y9 P c ops K alt A st
  | .stop, _, _ => True
section
variable {P : Program} {c : Cfg} {ops : Array Oper}
/-- How a guard stands. -/
def ql (ops : Array Oper) (o : Oper) (A : Fr) : Option Bool :=
  match o.guard with
  | none => some true
  | some (j, want) => match (ops[j]?).bind (·.dst) with
    | none => none
    | some t => match A.t t with
      | .av (.s (.bool b)) => some (b == want)
      | .und => some false
      | _ => none
theorem guardK_iff {o : Oper} {A : Fr} {go skip : Fr -> Prop} : j9 ops o A go skip ↔ (ql ops o A = some true /\ go A) \/ (ql ops o A = some false /\ skip A) := by
  unfold j9 ql
  cases hg : o.guard with
  | none => simp
  | some jw =>
    obtain ⟨j, want⟩ := jw
    simp only
    cases hd : (ops[j]?).bind (·.dst) with
    | none => simp [optK]
    | some t =>
      simp only [optK]
      generalize hy : A.t t = y
      split
      · rename_i b
        cases b with
        | true => grind[Fr.put_self,yn,xu]
        | false => grind[Fr.put_self,yn,xu]
      · simp
      simp
theorem De {o : Oper} {B : Fr} {st : Store} {n : SN} {Oth M : Nat -> Nat -> Prop} {a : Act} {w : World} (sim : Sim n Oth B st M a w) {b : Bool} (h : ql ops o B = some b) : Region.wanted o (yielded ops a.tmps) = b := by
  obtain ⟨β, s⟩ := sim
  unfold ql at h
  unfold Region.wanted
  cases hg : o.guard with
  | none => grind
  | some jw =>
    obtain ⟨j, want⟩ := jw
    rw [hg] at h
    simp only at h ⊢
    cases hd : (ops[j]?).bind (·.dst) with
    | none => grind
    | some t =>
      rw [hd] at h
      simp only at h
      have hs := s.tm t
      split at h
      · rename_i b' hb
        simp at h
        rw [hb] at hs
        rw [K0 hd (VRel.eq_s hs), <- h]
        simp
      · rename_i hb
        simp at h
        rw [hb] at hs
        rw [Kz hd hs, h]
        rfl
      · cases h
theorem Ha {b : Bool} {p : Prop} (h : bif b then p else False) : b = true /\ p := by grind
theorem Lq {b : Bool} {p : Prop} (hb : b = true) (h : p) : bif b then p else False := by grind
/-- Some slots forgotten. -/
def zx (A : Fr) (D : List Nat) : Fr := ⟨fun t => bif mem t D then .any else A.t t, A.bx⟩
theorem j7 {t : Nat} {D : List Nat} (h : t ∉ D) : mem t D = false := by grind[yq]
theorem Bn {A : Fr} {D : List Nat} {t : Nat} (h : t ∉ D) : (zx A D).t t = A.t t := by
  simp [zx, j7 h]
theorem zbw {A : Fr} {D : List Nat} {x : Operand} (h : ∀ t, x = .tmp t -> t ∉ D) : (zx A D).ev x = A.ev x := by
  cases x with
  | tmp t => exact Bn (h t rfl)
  | _ => rfl
theorem kh {A : Fr} {D : List Nat} {d : Nat} (h : d ∉ D) (x : LV) : (zx A D).put d x = zx (A.put d x) D := by
  unfold zx Fr.put
  grind[j7,ya]
theorem K5 {A : Fr} {D : List Nat} {d : Nat} (h : d ∉ D) (l : List AV) : (zx A D).newBx d l = zx (A.newBx d l) D := by
  unfold zx Fr.newBx
  congr
  funext i
  by_cases hi : i = d
  · subst hi; simp [j7 h]
  · simp only [ya hi, cond_false]
    cases mem i D <;> rfl
/-- What an effect leaves of the slots. -/
def x7 (o : Oper) (A A' : Fr) : Prop := (match o.op with | .alloc _ => False | .box _ _ => False | _ => True) -> ∀ t, o.dst ≠ some t -> A'.t t = A.t t
theorem vq {o : Oper} {A : Fr} {d : Nat} {x : LV} (hd : o.dst = some d) : x7 o A (A.put d x) := fun _ t ht => by grind[Fr.put,ya]
theorem Gp {o : Oper} {A : Fr} : x7 o A A := fun _ _ _ => rfl
/-- What an effect does in a frame in which slots are forgotten that it does not look at. -/
theorem M9 (hI : zu P c.I) {o : Oper} {K : Fr -> Store -> Prop} {A : Fr} {st : Store} {D : List Nat} (h : xx P c o K A st) (hop : ∀ x ∈ o.op.operands, ∀ t, x = .tmp t -> t ∉ D) (hd : ∀ d, o.dst = some d -> d ∉ D) :
    xx P c o (fun B' st' => ∃ A', K A' st' /\ B' = zx A' D /\ x7 o A A') (zx A D) st := by
  have hev : ∀ x ∈ o.op.operands, (zx A D).ev x = A.ev x := fun x hx => zbw (hop x hx)
  have hputO : ∀ (x : LV) (st' : Store), (z8 A c.n o.dst x fun A' => K A' st') -> z8 (zx A D) c.n o.dst x fun B' => ∃ A', K A' st' /\ B' = zx A' D /\ x7 o A A' := by
    intro x st' hx
    unfold z8 at hx ⊢
    cases hdst : o.dst with
    | none => rw [hdst] at hx; exact ⟨A, hx, rfl, Gp⟩
    | some d =>
      rw [hdst] at hx
      obtain ⟨hlt, hx⟩ := qn hx
      simp only [show Nat.blt d c.n = true from Nat.ble_eq_true_of_le hlt, cond_true]
      grind[kh,vq]
  have hval : ∀ op', op' = o.op -> (optK o.dst fun d => bif Nat.blt d c.n then vcV c A.ev A.bx st d op' (fun x => K (A.put d x) st) else False) ->
      optK o.dst fun d => bif Nat.blt d c.n then vcV c (zx A D).ev (zx A D).bx st d op' (fun x => ∃ A', K A' st /\ (zx A D).put d x = zx A' D /\ x7 o A A') else False := by
    rintro op' rfl hx
    obtain ⟨d, hdst, hx⟩ := ze hx
    obtain ⟨hlt, hx⟩ := qn hx
    refine za d hdst ?_
    simp only [show Nat.blt d c.n = true from Nat.ble_eq_true_of_le hlt, cond_true]
    exact Hx hI (fun x hx => ⟨_, hx, kh (hd d hdst) x, vq hdst⟩) (Hy hev hx)
  unfold xx at h ⊢
  have hX : vcX P c o K A st -> vcX P c o (fun B' st' => ∃ A', K A' st' /\ B' = zx A' D /\ x7 o A A') (zx A D) st := by
    intro h
    obtain ⟨vs, hvs, h⟩ := ze h
    have e : (o.op.operands.toList.mapM fun x => ((zx A D).ev x).toAV) = o.op.operands.toList.mapM fun x => (A.ev x).toAV :=
      Cy fun x hx => hev x (by grind)
    refine za vs (by grind) ⟨fun Oth M w ρ hI' sto hr => ?_⟩
    have := h.out Oth M w ρ hI' sto hr
    have hpost : ∀ v w', yi st (fun r st' => z8 A c.n o.dst (.av r) fun A' => K A' st') Oth M w v w' -> yi st (fun r st' => z8 (zx A D) c.n o.dst (.av r) fun B' => ∃ A', K A' st' /\ B' = zx A' D /\ x7 o A A') Oth M w v w' :=
      fun v w' ⟨r, st', M', h1, h2⟩ => ⟨r, st', M', hputO _ st' h1, h2⟩
    grind
  cases hx : isX o.op with
  | true => grind
  | false =>
  rw [hx] at h
  replace h : jk P c o K A st := h
  change jk P c o (fun B' st' => ∃ A', K A' st' /\ B' = zx A' D /\ x7 o A A') (zx A D) st
  unfold jk at h ⊢
  cases ho : o.op with
  | alloc t =>
    simp only [ho, jt] at h ⊢
    obtain ⟨i, hi, h⟩ := ze h
    obtain ⟨d, hdst, h⟩ := ze h
    obtain ⟨hlt, h⟩ := qn h
    refine za i hi (za d hdst ?_)
    simp only [show Nat.blt d c.n = true from Nat.ble_eq_true_of_le hlt, cond_true]
    cases hg : c.G.contains d with
    | true => rw [hg] at h; exact fun b hb => ⟨_, h b hb, kh (hd d hdst) _, fun hh => by grind⟩
    | false => rw [hg] at h; exact ⟨_, h, K5 (hd d hdst) _, fun hh => by grind⟩
  | box t x =>
    simp only [ho] at h ⊢
    rw [ho] at hev
    obtain ⟨d, hdst, h⟩ := ze h
    obtain ⟨hlt, h⟩ := qn h
    refine za d hdst ?_
    simp only [show Nat.blt d c.n = true from Nat.ble_eq_true_of_le hlt, cond_true]
    rw [hev x (by simp [Op.operands])]
    split at h
    · obtain ⟨l, hl, h⟩ := ze h
      refine za l hl ?_
      cases hg : c.G.contains d with
      | true => rw [hg] at h; exact fun b hb => ⟨_, h b hb, kh (hd d hdst) _, fun hh => by grind⟩
      | false => rw [hg] at h; exact ⟨_, h, K5 (hd d hdst) _, fun hh => by grind⟩
    omega
  | buildSlice t n parts =>
    simp only [ho] at h ⊢
    rw [ho] at hev
    have e : (parts.toList.map fun p => (p.1, (zx A D).ev p.2)) = (parts.toList.map fun p => (p.1, A.ev p.2)) := List.map_congr_left fun p hp => by grind[Op.operands]
    rw [e]
    obtain ⟨i, hi, h⟩ := ze h
    obtain ⟨d, hdst, h⟩ := ze h
    obtain ⟨hlt, h⟩ := qn h
    refine za i hi (za d hdst ?_)
    simp only [show Nat.blt d c.n = true from Nat.ble_eq_true_of_le hlt, cond_true]
    split at h
    · obtain ⟨ie, hie, h⟩ := ze h
      obtain ⟨rows, hrows, h⟩ := ze h
      refine za ie hie (za rows hrows ?_)
      cases hone : rows.flatten.all AV.one with
      | false => grind
      | true =>
        rw [hone] at h
        simp only [cond_true] at h ⊢
        refine ⟨h.1, ?_⟩
        replace h := h.2
        cases rows with
        | nil => grind[kh,vq]
        | cons r rs =>
          cases hg : c.G.contains d with
          | true =>
            cases hg2 : c.G.contains (d + 1000000) with
            | true => simp only [hg, hg2, cond_true] at h ⊢; grind[kh,vq]
            | false => simp only [hg, hg2, cond_true, cond_false] at h ⊢; grind[kh,vq]
          | false => simp only [hg, cond_false] at h ⊢; grind[kh,vq]
    omega
  | store t p x =>
    simp only [ho] at h ⊢
    rw [ho] at hev
    cases hdst : o.dst with
    | some d => grind
    | none =>
      rw [hdst] at h
      simp only [Option.isNone_none, cond_true] at h ⊢
      obtain ⟨i, hi, h⟩ := ze h
      refine za i hi ?_
      rw [hev x (by simp [Op.operands])]
      split at h
      · unfold j1 at h ⊢
        rw [hev p (by simp [Op.operands])]
        obtain ⟨xs, hxs, h⟩ := ze h
        refine za xs hxs ?_
        cases hb : (Nat.beq xs.length i.size && xs.all AV.one) with
        | false => grind
        | true =>
          rw [hb] at h
          simp only [cond_true] at h ⊢
          split at h
          · rename_i k off hp
            obtain ⟨l, hl, h⟩ := ze h
            refine za l hl ?_
            cases hb2 : Nat.ble (off + xs.length) l.length with
            | false => grind
            | true => rw [hb2] at h; simp only [cond_true, jt] at h ⊢; exact ⟨_, h, rfl, fun _ _ _ => rfl⟩
          · obtain ⟨y, hy, h⟩ := ze h
            refine za y hy ?_
            cases y with
            | cells l => simp only [jt] at h ⊢; exact ⟨h.1, _, h.2, rfl, Gp⟩
            | map es bs clock => omega
            | iter m since seen last => omega
            | ghost o gh => omega
          omega
      omega
  | binOp op t x y yt =>
    simp only [ho] at h ⊢
    have hev' := hev
    rw [ho] at hev'
    unfold D3 at h ⊢
    rw [hev' x (by simp [Op.operands]), hev' y (by simp [Op.operands])]
    split at h
    · obtain ⟨i, hi, h⟩ := ze h
      refine za i hi ?_
      cases hty : i.ty with
      | slice e =>
        rw [hty] at h
        cases op with
        | eql => simp_all
        | neq => simp_all
        | _ => omega
      | _ => grind
    grind
  | convert s t x =>
    simp only [ho] at h ⊢
    have hev' := hev
    rw [ho] at hev'
    unfold Dv at h ⊢
    rw [hev' x (by simp [Op.operands])]
    split at h
    · obtain ⟨hb, h⟩ := Ha h
      refine Lq hb ?_
      obtain ⟨i, hi, h⟩ := ze h
      refine za i hi ?_
      split at h
      · obtain ⟨ie, hie, h⟩ := ze h
        obtain ⟨hu, h⟩ := Ha h
        obtain ⟨top, htop, h⟩ := ze h
        simp_all
      omega
    · exact hX h
    · exact hX h
    grind
  | call cl =>
    simp only [ho] at h ⊢
    have hev' := hev
    rw [ho] at hev'
    cases hcl : cl.callee with
    | value f =>
      simp only [hcl] at h ⊢
      rw [hev' f (by simp [Op.operands, Call.operands, hcl])]
      split at h
      · obtain ⟨vs, hvs, h⟩ := ze h
        have e : (cl.args.toList.mapM fun x => ((zx A D).ev x).toAV) = cl.args.toList.mapM fun x => (A.ev x).toAV :=
          Cy fun x hx => hev' x (by grind[Op.operands,Call.operands])
        rw [e]
        refine za vs hvs ⟨fun Oth M w us sto hr => ?_⟩
        have := h.out Oth M w us sto hr
        have hpost : ∀ v w', yi st (fun r st' => z8 A c.n o.dst (.av r) fun A' => K A' st') Oth M w v w' -> yi st (fun r st' => z8 (zx A D) c.n o.dst (.av r) fun B' => ∃ A', K A' st' /\ B' = zx A' D /\ x7 o A A') Oth M w v w' :=
          fun v w' ⟨r, st', M', h1, h2⟩ => ⟨r, st', M', hputO _ st' h1, h2⟩
        generalize (callFunc _ us).run P w = res at *
        cases res with
        | halt x w' => trivial
        | ok nx w' =>
          cases nx with
          | enter f as => exact Calls.mono this fun e w'' ⟨v, he, hp⟩ => ⟨v, he, hpost v w'' hp⟩
          | value v => exact hpost v w' this
          | _ => trivial
      omega
    | invoke y m =>
      simp only [hcl] at h ⊢
      unfold C7 at h ⊢
      rw [hev' y (by simp [Op.operands, Call.operands, hcl])]
      split at h
      · obtain ⟨vs, hvs, g, x, hm, h⟩ := ze h
        have e : (cl.args.toList.mapM fun x => ((zx A D).ev x).toAV) = cl.args.toList.mapM fun x => (A.ev x).toAV :=
          Cy fun x hx => hev' x (by grind[Op.operands,Call.operands])
        rw [e]
        refine za vs hvs ⟨g, x, hm, ⟨fun Oth M w us sto hr => ?_⟩⟩
        have := h.out Oth M w us sto hr
        have hpost : ∀ v w', yi st (fun r st' => z8 A c.n o.dst (.av r) fun A' => K A' st') Oth M w v w' -> yi st (fun r st' => z8 (zx A D) c.n o.dst (.av r) fun B' => ∃ A', K A' st' /\ B' = zx A' D /\ x7 o A A') Oth M w v w' :=
          fun v w' ⟨r, st', M', h1, h2⟩ => ⟨r, st', M', hputO _ st' h1, h2⟩
        generalize (callFunc _ us).run P w = res at *
        cases res with
        | halt x w' => trivial
        | ok nx w' =>
          cases nx with
          | enter f as => exact Calls.mono this fun e w'' ⟨v, he, hp⟩ => ⟨v, he, hpost v w'' hp⟩
          | value v => exact hpost v w' this
          | _ => trivial
      omega
    | builtin b =>
      cases b with
      | append =>
        simp only [hcl] at h ⊢
        obtain ⟨t, ht, h⟩ := ze h
        obtain ⟨i, hi, h⟩ := ze h
        obtain ⟨s, hs, h⟩ := ze h
        obtain ⟨x, hx, h⟩ := ze h
        refine za t ht (za i hi (za s hs (za x hx ?_)))
        rw [hev' s (by simp [Op.operands, Call.operands, hcl]; exact Array.mem_of_getElem? hs), hev' x (by simp [Op.operands, Call.operands, hcl]; exact Array.mem_of_getElem? hx)]
        split at h
        · cases hb : (cl.argTypes[1]?.bind c.I).any Au with
          | false => rw [hb] at h; exact hX h
          | true =>
          rw [hb] at h
          replace h := h.out
          rcases h with h | ⟨s', x', hes, hex, h⟩
          rotate_left
          · refine ⟨.inr ⟨s', x', hes, hex, h.has, fun ie hie Oth M w sv xv at' ty args t sto h1 h2 h3 h4 h5 h6 h7 h8 => ?_⟩⟩
            obtain ⟨v, w', hr, r, st', M', hK, hp⟩ := h.out ie hie Oth M w sv xv at' ty args t sto h1 h2 h3 h4 h5 h6 h7 h8
            exact ⟨v, w', hr, r, st', M', hputO _ st' hK, hp⟩
          refine ⟨.inl ?_⟩
          unfold Hk at h ⊢
          obtain ⟨ie, hie, h⟩ := ze h
          refine za ie hie ?_
          split at h
          · obtain ⟨rows, hrows, hroom, h⟩ := ze h
            exact za rows hrows ⟨hroom, fun v st' ho => hputO _ st' (h v st' ho)⟩
          · obtain ⟨rows, hrows, hroom, h⟩ := ze h
            exact za rows hrows ⟨hroom, fun v st' ho => hputO _ st' (h v st' ho)⟩
          · rename_i k rows b hev2
            obtain ⟨hk, h⟩ := Ha h
            obtain ⟨rows', hrows, htok, hroom, h⟩ := ze h
            exact Lq hk (za rows' hrows ⟨htok, hroom, fun v st' ho => hputO _ st' (h v st' ho)⟩)
          · exact h.elim
        · exact h.elim
      | _ => simp only [hcl] at h ⊢; have := hval o.op rfl (by rw [ho]; exact h); rw [ho] at this; exact this
  | _ => simp only [ho] at h ⊢; exact hval _ ho.symm h
end
section
variable {P : Program} {c : Cfg} {ops : Array Oper}
theorem all_range {n : Nat} {p : Nat -> Bool} : (List.range n).all p = true ↔ ∀ i, i < n -> p i = true := by simp
structure OpFacts (c : Cfg) (ops : Array Oper) (i : Nat) (o : Oper) : Prop where
  lt : ∀ j ∈ ye ops i, j < i
  sel : ∀ cs b, o.op ≠ .select cs b
  nd : ∀ cl, o.op ≠ .defer cl
  dst : isV c o = true -> ∃ d, o.dst = some d
  dlt : ∀ d, o.dst = some d -> d < c.n
  own : ∀ d, o.dst = some d -> d ∉ o.looksAt ops
  one : ∀ d, o.dst = some d -> ∀ k o', ops[k]? = some o' -> k ≠ i -> o'.dst ≠ some d
  look : ∀ d, o.dst = some d -> ∀ k o', ops[k]? = some o' -> k ≠ i -> d ∈ o'.looksAt ops -> i ∈ ye ops k \/ (isV c o = false /\ k ∈ ye ops i)
theorem jd (h : qq c ops = true) {i : Nat} {o : Oper} (hi : ops[i]? = some o) : OpFacts c ops i o := by
  have hlt : i < ops.size := (Array.getElem?_eq_some_iff.1 hi).1
  have h1 := all_range.1 h i hlt
  simp only [hi, Bool.and_eq_true, List.all_eq_true] at h1
  obtain ⟨⟨hd, hs⟩, h2⟩ := h1
  refine ⟨fun j hj => Nat.le_of_ble_eq_true (hd j hj), fun cs b hop => (by grind), fun cl hop => (by grind), fun hv => ?_, fun d hdst => ?_, fun d hdst => ?_, fun d hdst k o' hk hne => ?_, fun d hdst k o' hk hne hl => ?_⟩
  · grind
  all_goals
    rw [hdst] at h2
    simp only [Bool.and_eq_true, Bool.not_eq_true'] at h2
    obtain ⟨⟨h3, h4⟩, h5⟩ := h2
  · exact Nat.le_of_ble_eq_true h3
  · intro hm
    rw [(yq _ _).2 hm] at h4
    cases h4
  all_goals
    have hklt : k < ops.size := (Array.getElem?_eq_some_iff.1 hk).1
    have h6 := all_range.1 h5 k hklt
    rw [hk] at h6
    simp only [Bool.or_eq_true, ya hne, Bool.false_eq_true, false_or, Bool.and_eq_true, Bool.not_eq_true'] at h6
  · intro hd'
    simp_all
  grind[yq]
theorem zcz {p q : Nat -> Bool} {i : Nat} : ∀ (l : List Nat), l.Nodup -> i ∈ l -> p i = true -> q i = false -> (∀ j, j ≠ i -> p j = q j) -> l.countP p = l.countP q + 1 := by
  intro l
  induction l with
  | nil => simp
  | cons a l ih =>
    grind[List.countP_congr]
/-- How many are still to come. -/
def left (ops : Array Oper) (listed : Array Bool) : Nat := (List.range ops.size).countP fun i => !listed.getD i true
theorem ku {listed : Array Bool} (hs : listed.size = ops.size) {i : Nat} (hi : i < ops.size) (hl : listed.getD i true = false) : left ops listed = left ops (listed.setIfInBounds i true) + 1 := by
  unfold left
  refine zcz (i := i) _ List.nodup_range (List.mem_range.2 hi) (by simp [hl]) ?_ fun j hj => ?_
  · simp
  · rw [getD_set_ne true (Ne.symm hj)]
theorem C0 {listed : Array Bool} (h : left ops listed = 0) {i : Nat} (hi : i < ops.size) : listed.getD i true = true := by grind[left,List.countP_eq_zero]
theorem zaj {p : Nat -> Prop} : ∀ n, (∃ i, i < n /\ p i) -> ∃ i, i < n /\ p i /\ ∀ j, j < i -> ¬ p j := by
  intro n
  induction n with
  | zero => simp
  | succ n ih =>
    rintro ⟨i, h, hp⟩
    by_cases hx : ∃ j, j < n /\ p j
    · grind
    grind
theorem Kg {i j : Nat} {o : Oper} (hi : ops[i]? = some o) : j ∈ ye ops i ↔ ∃ e ∈ o.after, Region.binds .any e = true /\ e.on = j := by grind[ye]
theorem ready_iff {i : Nat} {listed : Array Bool} : i ∈ Region.ready .any ops listed ↔ listed.getD i true = false /\ i < ops.size /\ ∀ j ∈ ye ops i, listed.getD j false = true := by
  rw [mem_ready]
  constructor
  · rintro ⟨h1, o, ho, h2⟩
    refine ⟨h1, (Array.getElem?_eq_some_iff.1 ho).1, fun j hj => ?_⟩
    obtain ⟨e, he, hb, rfl⟩ := (Kg ho).1 hj
    grind
  · rintro ⟨h1, hlt, h2⟩
    refine ⟨h1, ops[i], Array.getElem?_eq_getElem hlt, fun e he hb => h2 _ ((Kg (Array.getElem?_eq_getElem hlt)).2 ⟨e, he, hb, rfl⟩)⟩
/-- The slots of some operations. -/
def qh (ops : Array Oper) (U : List Nat) : List Nat := U.filterMap fun i => (ops[i]?).bind (·.dst)
theorem mem_dsts {U : List Nat} {t : Nat} : t ∈ qh ops U ↔ ∃ k ∈ U, ∃ o, ops[k]? = some o /\ o.dst = some t := by grind[qh]
theorem SimB.weaken {n : SN} {Oth M : Nat -> Nat -> Prop} {β : Nat -> Nat} {A B : Fr} {st : Store} {a : Act} {w : World} (h : SimB n Oth β A st M a w) (hb : B.bx = A.bx) (ht : ∀ t, A.t t = B.t t \/ B.t t = .any) : SimB n Oth β B st M a w where
  tsz := h.tsz
  dfr := h.dfr
  tm i := by
    rcases ht i with h1 | h1
    · rw [<- h1]; exact h.tm i
    · rw [h1]; trivial
  bx := by rw [hb]; exact h.bx
  inj := by rw [hb]; exact h.inj
  sep := by rw [hb]; exact h.sep
  sto := h.sto
theorem Oper.wp_q {o : Oper} {a : Act} {w : World} {K : Act -> World -> Prop} {Q : Exit -> Act -> World -> Prop} (h : o.wp P a w K fun _ _ _ => False) : o.wp P a w K Q := by
  unfold Oper.wp at *
  generalize (execOp a.eval o).run P w = r at *
  cases r with
  | ok n w' =>
    cases n <;> simp only [Oper.upon] at h ⊢ <;>
      first
        | exact h
        | exact Calls.mono h (fun e w'' he => by cases e <;> first | exact he | exact he.elim | (obtain ⟨_, _, he⟩ := he; exact he.elim))
        | exact Rows.mono h (fun _ _ he => he)
  | halt x w' => cases x <;> trivial <;> exact h.elim
/-- An operation whose value stands, carried out. -/
theorem zee (hI : zu P c.I) {o : Oper} {d : Nat} {x : LV} {B : Fr} {st : Store} (hd : o.dst = some d) (hlt : d < c.n) (h : vcW c B.ev B.bx st d o.op (fun y => y = x)) : AOp P c.N o (fun A' st' => A' = B.put d x /\ st' = st) B st := by
  have key : (∀ t n ps, o.op ≠ .buildSlice t n ps) -> AOp P c.N o (fun A' st' => A' = B.put d x /\ st' = st) B st := by
    intro hne
    refine Bu hI (za d hd ?_)
    simp only [show Nat.blt d c.n = true from Nat.ble_eq_true_of_le hlt, cond_true]
    unfold vcW at h
    split at h
    · grind
    · exact Hx hI (fun y hy => ⟨by rw [hy], Tv⟩) h
  cases hop : o.op with
  | buildSlice t n parts =>
    clear key
    rw [hop] at h
    obtain ⟨i, ie, e, rows, y, hi, hty, hie, hrows, hone, hroom, hy, hyx, _⟩ := L7 (show bsK c B.ev t n parts (fun y => y = x) from h)
    subst hyx
    refine Ml (c := { c with G := [] }) hop hI (za i hi (za d hd ?_))
    simp only [show Nat.blt d c.n = true from Nat.ble_eq_true_of_le hlt, cond_true, hty]
    refine za ie hie (za rows hrows ?_)
    grind
  | _ => grind
theorem vw {o : Oper} {A B : Fr} (h : ∀ t ∈ o.looksAt ops, B.t t = A.t t) : ql ops o B = ql ops o A := by grind[ql,Oper.looksAt]
theorem Km {o : Oper} {t : Nat} (h : Operand.tmp t ∈ o.op.operands) : t ∈ o.looksAt ops :=
  List.mem_append_left _ (List.mem_filterMap.2 ⟨.tmp t, by grind, rfl⟩)
theorem Dq {o : Oper} {A B : Fr} (h : ∀ t ∈ o.looksAt ops, B.t t = A.t t) : ∀ x ∈ o.op.operands, B.ev x = A.ev x := by
  intro x hx
  cases x with
  | tmp t => exact h t (Km hx)
  | _ => rfl
theorem stands_iff {A : Fr} {st : Store} {i : Nat} : stands c ops A st i ↔ ∃ o d, ops[i]? = some o /\ o.dst = some d ∧
    ((ql ops o A = some true /\ vcW c A.ev A.bx st d o.op fun x => x = A.t d) \/ (ql ops o A = some false /\ A.t d = .und)) := by
  unfold stands
  constructor
  · intro h
    obtain ⟨o, ho, h⟩ := ze h
    simp_all[ze,guardK_iff]
  grind[za,guardK_iff]
/-- A value that stands, in another frame. -/
theorem Fx {A B : Fr} {st st' : Store} {i : Nat} {o : Oper} (hi : ops[i]? = some o) (h : stands c ops A st i) (hl : ∀ t ∈ o.looksAt ops, B.t t = A.t t) (hd : ∀ d, o.dst = some d -> B.t d = A.t d)
    (hn : (B.bx = A.bx /\ st' = st) \/ wq o.op = true) : stands c ops B st' i := by
  obtain ⟨o', d, ho, hdst, h⟩ := stands_iff.1 h
  rw [hi] at ho
  cases ho
  refine stands_iff.2 ⟨o, d, hi, hdst, ?_⟩
  rw [vw hl, hd d hdst]
  refine h.imp (fun h => ⟨h.1, ?_⟩) id
  have h2 := Cc (ev' := B.ev) (Dq hl) h.2
  grind[M7]
theorem Ib {A : Fr} {st : Store} : ∀ {l : List Nat}, kp c ops A st l -> ∀ i ∈ l, stands c ops A st i := by
  intro l
  induction l with
  | nil => simp
  | cons a l ih =>
    intro h i hi
    rcases List.mem_cons.1 hi with rfl | h'
    · exact h.1
    · exact ih h.2 i h'
/-- What the effect 'i' does, in the schedule. -/
def Dt (P : Program) (c : Cfg) (ops : Array Oper) (K : Fr -> Store -> Prop) (i : Nat) (chk : List Nat) (r : Sched) (A : Fr) (st : Store) : Prop :=
  optK ops[i]? fun o =>
      j9 ops o A (fun A => xx P c o (fun A' st' => kp c ops A' st' chk /\ y9 P c ops K r A' st') A st)
        (fun A => z8 A c.n o.dst .und fun A' => kp c ops A' st chk /\ y9 P c ops K r A' st)
theorem zeo {K : Fr -> Store -> Prop} {A : Fr} {st : Store} {i : Nat} {L : List Nat} : ∀ (S : Sched) (first : Bool), qb c ops S L first = true -> y9 P c ops K S A st -> i ∈ Bv S ->
    ∃ chk r, k8 c ops i chk L = true /\ qb c ops r (i :: L) true = true /\ Dt P c ops K i chk r A st := by
  intro S
  induction S with
  | done => intro _ _ _ h; cases h
  | stop => intro _ _ _ h; cases h
  | v j r _ => intro _ _ _ h; cases h
  | e j chk r alt _ ih =>
    intro first hs hv hi
    simp only [qb, Bool.and_eq_true] at hs
    simp only [Bv, List.mem_cons] at hi
    rcases hi with rfl | hi
    · exact ⟨chk, r, hs.1.1.1, hs.1.1.2, hv.1⟩
    · exact ih false hs.1.2 hv.2 hi
structure DInv (c : Cfg) (ops : Array Oper) (Oth M0 : Nat -> Nat -> Prop) (w0 : World) (listed : Array Bool) (Lab U : List Nat) (A : Fr) (st : Store) (M : Nat -> Nat -> Prop) (a : Act) (w : World) : Prop where
  lsz : listed.size = ops.size
  lst : ∀ i, i < ops.size -> (listed.getD i false = true ↔ i ∈ Lab /\ i ∉ U)
  usub : ∀ i ∈ U, i ∈ Lab
  lab : ∀ i ∈ Lab, i < ops.size /\ ∀ j ∈ ye ops i, j ∈ Lab
  uv : ∀ i ∈ U, ∃ o, ops[i]? = some o /\ isV c o = true
  std : ∀ i ∈ U, stands c ops A st i
  sim : Sim c.N Oth (zx A (qh ops U)) st M a w
  chg : Chg M0 w0 M w
  cls : ∀ i, i < ops.size -> listed.getD i false = true -> ∀ j ∈ ye ops i, listed.getD j false = true
theorem Gw {listed : Array Bool} {i : Nat} (h : i < listed.size) : listed.getD i true = listed.getD i false := by
  simp [h]
theorem s7 {ops : Array Oper} {listed : Array Bool} (cls : ∀ i, i < ops.size -> listed.getD i false = true -> ∀ j ∈ ye ops i, listed.getD j false = true) (hlt : ∀ i j, j ∈ ye ops i -> j < ops.size) {i : Nat} (hi : ∀ j ∈ ye ops i, listed.getD j false = true) :
    ∀ k ∈ Bb ops i, listed.getD k false = true := by
  have key : ∀ (l acc : List Nat), (∀ k ∈ acc, k < ops.size /\ listed.getD k false = true) -> ∀ k ∈ l.foldl (fun acc j => bif mem j acc then ye ops j ++ acc else acc) acc, k < ops.size /\ listed.getD k false = true := by
    intro l
    induction l with
    | nil => simp
    | cons j l ih =>
      intro acc h
      refine ih _ ?_
      by_cases hm : mem j acc = false
      · grind
      · have hm : mem j acc = true := by grind
        have hj := h j ((yq _ _).1 hm)
        grind
  exact fun k hk => (key _ _ (fun k hk => ⟨hlt i k hk, hi k hk⟩) k hk).2
end
section
variable {P : Program} {c : Cfg} {ops : Array Oper} {Oth M0 : Nat -> Nat -> Prop} {w0 : World}
def qm (c : Cfg) (Oth M0 : Nat -> Nat -> Prop) (w0 : World) (K : Fr -> Store -> Prop) : Exit -> Act -> World -> Prop :=
  fun e a' w' => ∃ A' st' M', (match e with | .normal => K A' st' | _ => False) /\ Sim c.N Oth A' st' M' a' w' /\ Chg M0 w0 M' w'
theorem Hv (hI : zu P c.I) {ev : Operand -> LV} {bx : Nat -> Option (List AV)} {st : Store} {d : Nat} {op : Op} {K : LV -> Prop} (h : vcW c ev bx st d op K) : ∃ x, K x /\ vcW c ev bx st d op fun y => y = x := by
  unfold vcW at h ⊢
  split at h
  · obtain ⟨_, _, _, _, x, _, _, _, _, _, _, _, hx, hx'⟩ := L7 h
    grind
  · obtain ⟨x, hx, hx', _⟩ := Fj hI _ h
    grind
section
variable {listed : Array Bool} {Lab U : List Nat} {A : Fr} {st : Store} {M : Nat -> Nat -> Prop} {a : Act} {w : World}
theorem DInv.listed_iff (h : DInv c ops Oth M0 w0 listed Lab U A st M a w) {i : Nat} (hi : i < ops.size) : listed.getD i true = false ↔ ¬ (i ∈ Lab /\ i ∉ U) := by
  rw [Gw (by rw [h.lsz]; exact hi), <- h.lst i hi]
  simp
theorem DInv.done (hops : qq c ops = true) {K : Fr -> Store -> Prop} {S : Sched} (h : DInv c ops Oth M0 w0 listed Lab U A st M a w) (hs : qb c ops S Lab true = true) (hv : y9 P c ops K S A st)
    (hl : left ops listed = 0) : qm c Oth M0 w0 K .normal a w := by
  have hall : ∀ i, i < ops.size -> i ∈ Lab /\ i ∉ U := fun i hi => by
    have := C0 hl hi
    rw [Gw (by rw [h.lsz]; exact hi)] at this
    exact (h.lst i hi).1 this
  have hU : U = [] := by
    cases U with
    | nil => rfl
    | cons u U => exact absurd (List.mem_cons_self) (hall u (h.lab u (h.usub u List.mem_cons_self)).1).2
  subst hU
  cases S with
  | done => exact ⟨A, st, M, hv, h.sim, h.chg⟩
  | stop => trivial
  | v i r =>
    simp only [qb, Bool.and_eq_true, Bool.not_eq_true'] at hs
    grind[yq]
  | e i chk r alt =>
    simp only [qb, k8, Bool.and_eq_true, Bool.not_eq_true'] at hs
    grind[yq]
theorem DInv.ready_ne (hops : qq c ops = true) (h : DInv c ops Oth M0 w0 listed Lab U A st M a w) {n : Nat} (hl : left ops listed = n + 1) : Region.ready .any ops listed ≠ [] := by
  intro hr
  have hex : ∃ i, i < ops.size /\ listed.getD i true = false := by grind[left,List.countP_pos_iff]
  obtain ⟨i, hi, hp, hmin⟩ := zaj ops.size hex
  have : i ∈ Region.ready .any ops listed := by
    rw [ready_iff]
    refine ⟨hp, hi, fun j hj => ?_⟩
    have hlt := (jd hops (Array.getElem?_eq_getElem hi)).lt j hj
    grind
  grind
/-- What a ready operation looks at stands in the frame. -/
theorem DInv.clear (hops : qq c ops = true) (h : DInv c ops Oth M0 w0 listed Lab U A st M a w) {i : Nat} (hr : i ∈ Region.ready .any ops listed) {o : Oper} (hi : ops[i]? = some o) : ∀ t ∈ o.looksAt ops, t ∉ qh ops U := by
  intro t ht hd
  obtain ⟨k, hk, o', ho', hd'⟩ := mem_dsts.1 hd
  have hf := jd hops ho'
  by_cases hki : i = k
  · subst hki
    rw [hi] at ho'
    cases ho'
    exact hf.own t hd' ht
  · obtain ⟨o2, ho2, hv⟩ := h.uv k hk
    rw [ho'] at ho2
    cases ho2
    rcases hf.look t hd' i o hi hki ht with h1 | ⟨h1, _⟩
    · have := (ready_iff.1 hr).2.2 k h1
      exact ((h.lst k (h.lab k (h.usub k hk)).1).1 this).2 hk
    grind
theorem DInv.look (h : DInv c ops Oth M0 w0 listed Lab U A st M a w) {i : Nat} {o : Oper} (hl : ∀ t ∈ o.looksAt ops, t ∉ qh ops U) : ∀ t ∈ o.looksAt ops, (zx A (qh ops U)).t t = A.t t :=
  fun t ht => Bn (hl t ht)
theorem zcn (hops : qq c ops = true) : ∀ i j, j ∈ ye ops i -> j < ops.size := by
  intro i j hj
  cases hi : ops[i]? with
  | none => grind[ye]
  | some o =>
    have := (jd hops hi).lt j hj
    grind
theorem Lr (h : DInv c ops Oth M0 w0 listed Lab U A st M a w) (hops : qq c ops = true) {i : Nat} (hr : i ∈ Region.ready .any ops listed) :
    ∀ k, k < ops.size -> (listed.setIfInBounds i true).getD k false = true -> ∀ j ∈ ye ops k, (listed.setIfInBounds i true).getD j false = true := by
  have mono : ∀ j, listed.getD j false = true -> (listed.setIfInBounds i true).getD j false = true := by
    intro j hj
    by_cases hji : i = j
    · grind[ready_iff]
    simp_all
  intro k hk hl j hj
  by_cases hki : i = k
  · grind[ready_iff]
  · rw [getD_set_ne false hki] at hl
    exact mono j (h.cls k hk hl j hj)
/-- A pending operation comes. -/
theorem DInv.pend (hI : zu P c.I) (hops : qq c ops = true) {K : Fr -> Store -> Prop} {fuel : Nat} (h : DInv c ops Oth M0 w0 listed Lab U A st M a w) {i : Nat} (hr : i ∈ Region.ready .any ops listed) (hU : i ∈ U)
    (ih : ∀ (U' : List Nat) (M' : Nat -> Nat -> Prop) (a' : Act) (w' : World), DInv c ops Oth M0 w0 (listed.setIfInBounds i true) Lab U' A st M' a' w' -> wpAny P .any ops (qm c Oth M0 w0 K) fuel (listed.setIfInBounds i true) a' w') :
    wpOp P ops (qm c Oth M0 w0 K) i (wpAny P .any ops (qm c Oth M0 w0 K) fuel (listed.setIfInBounds i true)) a w := by
  obtain ⟨o, d, hi, hd, hst⟩ := stands_iff.1 (h.std i hU)
  have hf := jd hops hi
  have hclear := h.clear hops hr hi
  have hlook := h.look (i := i) hclear
  have hilt := (Array.getElem?_eq_some_iff.1 hi).1
  -- the frame behind it
  have next : ∀ (M' : Nat -> Nat -> Prop) (a' : Act) (w' : World), Sim c.N Oth ((zx A (qh ops U)).put d (A.t d)) st M' a' w' -> Chg M w M' w' ->
      wpAny P .any ops (qm c Oth M0 w0 K) fuel (listed.setIfInBounds i true) a' w' := by
    rintro M' a' w' ⟨β, sim⟩ hchg
    refine ih (U.filter fun k => !Nat.beq k i) M' a' w' ⟨by simp [h.lsz], fun j hj => ?_, fun j hj => h.usub j (List.mem_filter.1 hj).1, h.lab, fun j hj => h.uv j (List.mem_filter.1 hj).1, fun j hj => h.std j (List.mem_filter.1 hj).1, ⟨β, sim.weaken rfl fun t => ?_⟩, h.chg.trans hchg, Lr h hops hr⟩
    · by_cases hji : i = j
      · subst hji
        have : i < listed.size := by rw [h.lsz]; exact hilt
        simp [this, h.usub i hU]
      · rw [getD_set_ne false hji, h.lst j hj]
        simp_all[Ne.symm]
    · by_cases ht : t = d
      · subst ht
        left
        rw [Bn]
        · simp [Fr.put]
        · intro hm
          obtain ⟨k, hk, o', ho', hd'⟩ := mem_dsts.1 hm
          have hki : k ≠ i := by
            have := (List.mem_filter.1 hk).2
            intro h; simp_all
          exact hf.one t hd k o' ho' hki hd'
      · by_cases hm : t ∈ qh ops (U.filter fun k => !Nat.beq k i)
        · right; simp [zx, (yq _ _).2 hm]
        · left
          have hm2 : t ∉ qh ops U := by
            intro h2
            obtain ⟨k, hk, o', ho', hd'⟩ := mem_dsts.1 h2
            refine hm (mem_dsts.2 ⟨k, List.mem_filter.2 ⟨hk, ?_⟩, o', ho', hd'⟩)
            by_cases hki : k = i
            · grind
            · simp [ya hki]
          simp_all[Fr.put,ya,Bn]
  unfold Go.wpOp
  simp only [hi]
  rcases hst with ⟨hg, hv⟩ | ⟨hg, hu⟩
  · have hg' : ql ops o (zx A (qh ops U)) = some true := by rw [vw hlook]; exact hg
    rw [De h.sim hg']
    simp only [if_true]
    refine .inl (Oper.wp_q (Oper.wp_mono ?_ (zee hI hd (hf.dlt d hd) (Cc (ev' := (zx A (qh ops U)).ev) (Dq hlook) hv) Oth M a w h.sim)))
    grind
  · have hg' : ql ops o (zx A (qh ops U)) = some false := by rw [vw hlook]; exact hg
    rw [De h.sim hg']
    simp only [Bool.false_eq_true, if_false]
    obtain ⟨β, sim⟩ := h.sim
    refine next M _ w ⟨β, ?_⟩ (Chg.refl M w)
    rw [hd, hu]
    exact sim.put (hf.dlt d hd) rfl
/-- An effect comes. -/
theorem DInv.eff (hI : zu P c.I) (hops : qq c ops = true) {K K2 : Fr -> Store -> Prop} {fuel : Nat} (h : DInv c ops Oth M0 w0 listed Lab U A st M a w) {i : Nat} (hr : i ∈ Region.ready .any ops listed) {chk : List Nat} {r : Sched}
    (he : k8 c ops i chk Lab = true) (hv : Dt P c ops K i chk r A st)
    (ih : ∀ (A' : Fr) (st' : Store) (M' : Nat -> Nat -> Prop) (a' : Act) (w' : World), y9 P c ops K r A' st' -> DInv c ops Oth M0 w0 (listed.setIfInBounds i true) (i :: Lab) U A' st' M' a' w' -> wpAny P .any ops (qm c Oth M0 w0 K2) fuel (listed.setIfInBounds i true) a' w') :
    wpOp P ops (qm c Oth M0 w0 K2) i (wpAny P .any ops (qm c Oth M0 w0 K2) fuel (listed.setIfInBounds i true)) a w := by
  obtain ⟨o, hi, hv⟩ := ze hv
  have hf := jd hops hi
  have hclear := h.clear hops hr hi
  have hlook := h.look (i := i) hclear
  have hilt := (Array.getElem?_eq_some_iff.1 hi).1
  simp only [k8, hi, Bool.and_eq_true, Bool.not_eq_true', List.all_eq_true] at he
  obtain ⟨⟨⟨⟨hnL, _⟩, hdeps⟩, hnV⟩, hL⟩ := he
  have hiL : i ∉ Lab := fun hm => by grind[yq]
  have hiU : i ∉ U := fun hm => hiL (h.usub i hm)
  have hdD : ∀ d, o.dst = some d -> d ∉ qh ops U := by
    intro d hd hm
    obtain ⟨k, hk, o', ho', hd'⟩ := mem_dsts.1 hm
    exact hf.one d hd k o' ho' (fun h => hiU (h ▸ hk)) hd'
  have hdl : ∀ j ∈ ye ops i, j ∈ Lab /\ j ∉ U := fun j hj => by
    have h1 := (ready_iff.1 hr).2.2 j hj
    have hlt : j < ops.size := by
      have := hf.lt j hj; omega
    exact (h.lst j hlt).1 h1
  have hkr : ∀ k ∈ U, k ∉ Bb ops i := fun k hk hm => by
    have h1 := s7 h.cls (zcn hops) (ready_iff.1 hr).2.2 k hm
    exact ((h.lst k (h.lab k (h.usub k hk)).1).1 h1).2 hk
  -- what follows
  have next : ∀ (A' : Fr) (st' : Store) (M' : Nat -> Nat -> Prop) (a' : Act) (w' : World), kp c ops A' st' chk -> y9 P c ops K r A' st' -> x7 o A A' -> ((∃ k, A' = A.put k .und /\ o.dst = some k /\ st' = st) \/ A' = A /\ st' = st \/ True) -> Sim c.N Oth (zx A' (qh ops U)) st' M' a' w' -> Chg M w M' w' ->
      (∀ k ∈ U, k ∉ chk -> ∀ o', ops[k]? = some o' -> ∀ t, o.dst ≠ some t -> A'.t t = A.t t) ->
      wpAny P .any ops (qm c Oth M0 w0 K2) fuel (listed.setIfInBounds i true) a' w' := by
    intro A' st' M' a' w' hchk hvc hkept _ hsim hchg hk2
    refine ih A' st' M' a' w' hvc ⟨by simp [h.lsz], fun j hj => ?_, fun j hj => List.mem_cons_of_mem _ (h.usub j hj), fun j hj => ?_, h.uv, fun k hk => ?_, hsim, h.chg.trans hchg, Lr h hops hr⟩
    · by_cases hji : i = j
      · subst hji
        have : i < listed.size := by rw [h.lsz]; exact hilt
        simp_all
      · rw [getD_set_ne false hji, h.lst j hj]
        grind
    · rcases List.mem_cons.1 hj with rfl | hj
      · grind
      · exact ⟨(h.lab j hj).1, fun k hk => List.mem_cons_of_mem _ ((h.lab j hj).2 k hk)⟩
    · by_cases hkc : k ∈ chk
      · exact Ib hchk k hkc
      · obtain ⟨o', ho', hV⟩ := h.uv k hk
        have hk3 := hk2 k hk hkc o' ho'
        have hki : k ≠ i := fun h => hiU (h ▸ hk)
        have hkd : k ∉ ye ops i := fun hd => (hdl k hd).2 hk
        have h4 := hL k (h.usub k hk)
        have m1 : mem k (Bb ops i) = false := j7 (hkr k hk)
        have m2 : mem k chk = false := j7 hkc
        rw [ho'] at h4
        simp only [m1, m2, Bool.false_or, Bool.or_eq_true, Bool.not_eq_true', Bool.and_eq_true, hV, Bool.true_eq_false, false_or] at h4
        refine Fx ho' (h.std k hk) (fun t ht => hk3 t fun hd => ?_) (fun d hd => hk3 d fun hd2 => hf.one d hd2 k o' ho' hki hd) (.inr h4.1)
        rcases hf.look t hd k o' ho' hki ht with h5 | ⟨_, h5⟩
        · exact hiL ((h.lab k (h.usub k hk)).2 i h5)
        grind
  have hkept : ∀ (A' : Fr), x7 o A A' -> ∀ k ∈ U, k ∉ chk -> ∀ o', ops[k]? = some o' -> ∀ t, o.dst ≠ some t -> A'.t t = A.t t := by
    intro A' hK k hk hkc o' ho' t ht
    obtain ⟨o2, ho2, hV⟩ := h.uv k hk
    rw [ho'] at ho2
    cases ho2
    have hkd : k ∉ ye ops i := fun hd => (hdl k hd).2 hk
    have h4 := hL k (h.usub k hk)
    have m1 : mem k (Bb ops i) = false := j7 (hkr k hk)
    have m2 : mem k chk = false := j7 hkc
    rw [ho'] at h4
    simp only [m1, m2, Bool.false_or, Bool.or_eq_true, Bool.not_eq_true', Bool.and_eq_true, hV, Bool.true_eq_false, false_or] at h4
    refine hK ?_ t ht
    grind
  unfold Go.wpOp
  simp only [hi]
  rcases guardK_iff.1 hv with ⟨hg, hv⟩ | ⟨hg, hv⟩
  · have hg' : ql ops o (zx A (qh ops U)) = some true := by rw [vw hlook]; exact hg
    rw [De h.sim hg']
    simp only [if_true]
    have hF := M9 (D := qh ops U) hI hv (fun x hx t ht => hclear t (Km (by grind))) hdD
    refine .inl (Oper.wp_q (Oper.wp_mono ?_ (Mk hI hF Oth M a w h.sim)))
    grind
  · have hg' : ql ops o (zx A (qh ops U)) = some false := by rw [vw hlook]; exact hg
    rw [De h.sim hg']
    simp only [Bool.false_eq_true, if_false]
    obtain ⟨β, sim⟩ := h.sim
    unfold z8 at hv
    cases hd : o.dst with
    | none =>
      rw [hd] at hv
      exact next A st M _ w hv.1 hv.2 Gp (.inr (.inr trivial)) ⟨β, sim⟩ (Chg.refl M w) (fun _ _ _ _ _ _ _ => rfl)
    | some d =>
      rw [hd] at hv
      obtain ⟨hlt, hv⟩ := qn hv
      refine next (A.put d .und) st M _ w hv.1 hv.2 (vq hd) (.inr (.inr trivial)) ⟨β, ?_⟩ (Chg.refl M w) (fun _ _ _ _ _ t ht => by grind[Fr.put,ya])
      rw [<- kh (hdD d hd)]
      exact sim.put hlt rfl
/-- A value moves to the pending ones. -/
theorem DInv.move (hI : zu P c.I) (hops : qq c ops = true) {K : Fr -> Store -> Prop} (h : DInv c ops Oth M0 w0 listed Lab U A st M a w) {j : Nat} {r : Sched} (hs : qb c ops (.v j r) Lab true = true) (hv : y9 P c ops K (.v j r) A st) :
    ∃ A', qb c ops r (j :: Lab) true = true /\ y9 P c ops K r A' st /\ DInv c ops Oth M0 w0 listed (j :: Lab) (j :: U) A' st M a w := by
  simp only [qb, Bool.and_eq_true, Bool.not_eq_true', true_and] at hs
  obtain ⟨⟨⟨⟨hn, hlt⟩, hV⟩, hdep⟩, hs⟩ := hs
  have hjL : j ∉ Lab := fun hm => by rw [(yq _ _).2 hm] at hn; cases hn
  have hlt : j < ops.size := Nat.le_of_ble_eq_true hlt
  obtain ⟨o, hi, hv⟩ := ze hv
  obtain ⟨d, hd, hv⟩ := ze hv
  rw [hi] at hV
  replace hV : isV c o = true := hV
  have hf := jd hops hi
  have hdl : ∀ k ∈ ye ops j, k ∈ Lab := fun k hk => (yq _ _).1 (List.all_eq_true.1 hdep k hk)
  have key : ∀ x, y9 P c ops K r (A.put d x) st -> ((ql ops o A = some true /\ vcW c A.ev A.bx st d o.op fun y => y = x) \/ (ql ops o A = some false /\ x = .und)) ->
      ∃ A', qb c ops r (j :: Lab) true = true /\ y9 P c ops K r A' st /\ DInv c ops Oth M0 w0 listed (j :: Lab) (j :: U) A' st M a w := by
    intro x hx hst
    have hout : ∀ t, t ≠ d -> (A.put d x).t t = A.t t := fun t ht => by simp [Fr.put, ya ht]
    refine ⟨A.put d x, hs, hx, h.lsz, fun k hk => ?_, fun k hk => ?_, fun k hk => ?_, fun k hk => ?_, fun k hk => ?_, ?_, h.chg, h.cls⟩
    · rw [h.lst k hk]
      grind
    · rcases List.mem_cons.1 hk with rfl | hk
      · simp
      · exact List.mem_cons_of_mem _ (h.usub k hk)
    · rcases List.mem_cons.1 hk with rfl | hk
      · grind
      · exact ⟨(h.lab k hk).1, fun k' hk' => List.mem_cons_of_mem _ ((h.lab k hk).2 k' hk')⟩
    · rcases List.mem_cons.1 hk with rfl | hk
      · grind
      · exact h.uv k hk
    · rcases List.mem_cons.1 hk with rfl | hk
      · have hl : ∀ t ∈ o.looksAt ops, (A.put d x).t t = A.t t := fun t ht => hout t fun hh => hf.own d hd (hh ▸ ht)
        refine stands_iff.2 ⟨o, d, hi, hd, ?_⟩
        rw [vw hl, show (A.put d x).t d = x by simp [Fr.put]]
        exact hst.imp (fun h => ⟨h.1, Cc (ev' := (A.put d x).ev) (Dq hl) h.2⟩) id
      · obtain ⟨o', ho', hV'⟩ := h.uv k hk
        have hkj : k ≠ j := fun hh => hjL (hh ▸ h.usub k hk)
        refine Fx ho' (h.std k hk) (fun t ht => hout t fun hh => ?_) (fun d' hd' => hout d' fun hh => hf.one d hd k o' ho' hkj (hh ▸ hd')) (.inl ⟨rfl, rfl⟩)
        subst hh
        rcases hf.look t hd k o' ho' hkj ht with h5 | ⟨h5, _⟩
        · exact hjL ((h.lab k (h.usub k hk)).2 j h5)
        grind
    · obtain ⟨β, sim⟩ := h.sim
      refine ⟨β, sim.weaken rfl fun t => ?_⟩
      grind[qh,zx,yq]
  rcases guardK_iff.1 hv with ⟨hg, hv⟩ | ⟨hg, hv⟩
  · grind[Hv]
  grind
end
theorem zcf (hI : zu P c.I) (hops : qq c ops = true) {K : Fr -> Store -> Prop} {fuel : Nat}
    (ih : ∀ (S : Sched) (listed : Array Bool) (Lab U : List Nat) (A : Fr) (st : Store) (M : Nat -> Nat -> Prop) (a : Act) (w : World), qb c ops S Lab true = true -> y9 P c ops K S A st -> DInv c ops Oth M0 w0 listed Lab U A st M a w -> left ops listed = fuel ->
      wpAny P .any ops (qm c Oth M0 w0 K) fuel listed a w) {listed : Array Bool} {M : Nat -> Nat -> Prop} {a : Act} {w : World} {st : Store} (hl : left ops listed = fuel + 1) {i : Nat} (hr : i ∈ Region.ready .any ops listed) :
    ∀ (S : Sched) (Lab U : List Nat) (A : Fr), qb c ops S Lab true = true -> y9 P c ops K S A st -> DInv c ops Oth M0 w0 listed Lab U A st M a w ->
      wpOp P ops (qm c Oth M0 w0 K) i (wpAny P .any ops (qm c Oth M0 w0 K) fuel (listed.setIfInBounds i true)) a w := by
  obtain ⟨hun, hilt, hdeps⟩ := ready_iff.1 hr
  intro S
  induction S with
  | done =>
    intro Lab U A hs hv h
    by_cases hU : i ∈ U
    · exact h.pend hI hops hr hU fun U' M' a' w' h' => ih .done _ _ _ _ _ _ _ _ hs hv h' (by have := ku h.lsz hilt hun; omega)
    · simp only [qb, Bool.true_and] at hs
      exact absurd ⟨(yq _ _).1 (all_range.1 hs i hilt), hU⟩ ((h.listed_iff hilt).1 hun)
  | stop => intro Lab U A hs; trivial
  | v j r ihr =>
    intro Lab U A hs hv h
    by_cases hU : i ∈ U
    · exact h.pend hI hops hr hU fun U' M' a' w' h' => ih (.v j r) _ _ _ _ _ _ _ _ hs hv h' (by have := ku h.lsz hilt hun; omega)
    · obtain ⟨A', h1, h2, h3⟩ := h.move hI hops hs hv
      grind
  | e j chk r alt _ _ =>
    intro Lab U A hs hv h
    by_cases hU : i ∈ U
    · exact h.pend hI hops hr hU fun U' M' a' w' h' => ih (.e j chk r alt) _ _ _ _ _ _ _ _ hs hv h' (by have := ku h.lsz hilt hun; omega)
    · have hiL : i ∉ Lab := fun hm => (h.listed_iff hilt).1 hun ⟨hm, hU⟩
      have hin : i ∈ Bv (.e j chk r alt) := by
        have hs2 := hs
        simp only [qb, Bool.and_eq_true, Bool.not_true, Bool.false_or] at hs2
        have h1 := all_range.1 hs2.2 i hilt
        simp only [Bool.or_eq_true, Bool.not_eq_true', j7 hiL, Bool.false_eq_true, false_or] at h1
        rcases h1 with h1 | h1
        · have : sub (ye ops i) Lab = true := by
            unfold sub
            rw [List.all_eq_true]
            intro k hk
            have hlt : k < ops.size := by
              have := (jd hops (Array.getElem?_eq_getElem hilt)).lt k hk
              omega
            exact (yq _ _).2 ((h.lst k hlt).1 (hdeps k hk)).1
          grind
        · exact (yq _ _).1 h1
      obtain ⟨chk', r', h1, h2, h3⟩ := zeo _ true hs hv hin
      exact h.eff hI hops hr h1 h3 fun A' st' M' a' w' h4 h5 => ih r' _ _ _ _ _ _ _ _ h2 h4 h5 (by have := ku h.lsz hilt hun; omega)
theorem zch (hI : zu P c.I) (hops : qq c ops = true) {K : Fr -> Store -> Prop} : ∀ (fuel : Nat) (S : Sched) (listed : Array Bool) (Lab U : List Nat) (A : Fr) (st : Store) (M : Nat -> Nat -> Prop) (a : Act) (w : World), qb c ops S Lab true = true -> y9 P c ops K S A st -> DInv c ops Oth M0 w0 listed Lab U A st M a w -> left ops listed = fuel ->
      wpAny P .any ops (qm c Oth M0 w0 K) fuel listed a w := by
  intro fuel
  induction fuel with
  | zero =>
    intro S listed Lab U A st M a w hs hv h hl
    refine ⟨?_, h.done hops hs hv hl⟩
    cases hr : Region.ready .any ops listed with
    | nil => rfl
    | cons i rs =>
      grind[List.mem_cons_self,ready_iff,C0]
  | succ fuel ih =>
    intro S listed Lab U A st M a w hs hv h hl
    refine ⟨fun hr => absurd hr (h.ready_ne hops hl), fun i hi => zcf hI hops ih hl hi S Lab U A hs hv h⟩
theorem Mv {ops : Array Oper} (hd : ∀ (i : Nat) (o : Oper), ops[i]? = some o -> ∀ cl, o.op ≠ .defer cl) {Q : Exit -> Act -> World -> Prop} {i : Nat} {K K' : Act -> World -> Prop} {a : Act} {w : World} (hk : ∀ a w, K a w -> K' a w) (h : wpOp P ops Q i K a w) (hn : ∀ e a w, e ≠ .normal -> ¬ Q e a w) : wpOpIn c.F 0 P ops Q i K' a w := by
  unfold wpOp at h
  unfold wpOpIn
  split
  · grind
  · rename_i o hi
    simp only [hi] at h
    split
    · rename_i hw
      simp only [hw, if_true] at h
      rcases h with h | ⟨_, a1, w1, h⟩
      · exact Ff hk hn (Oper.wpIn_F (hd i o hi) h)
      grind
    · rename_i hw
      simp only [hw] at h
      exact ⟨fun _ _ => Tv, hk _ _ h⟩
theorem Hs {ops : Array Oper} (hd : ∀ (i : Nat) (o : Oper), ops[i]? = some o -> ∀ cl, o.op ≠ .defer cl) {Q : Exit -> Act -> World -> Prop} (hn : ∀ e a w, e ≠ .normal -> ¬ Q e a w) {md : Region.Mode} : ∀ (fuel : Nat) (listed : Array Bool) (a : Act) (w : World), wpAny P md ops Q fuel listed a w -> wpAnyIn c.F 0 P md ops Q fuel listed a w := by
  intro fuel
  induction fuel with
  | zero => intro listed a w h; exact h
  | succ fuel ih => intro listed a w h; exact ⟨h.1, fun i hi => Mv hd (fun a w h => ih _ a w h) (h.2 i hi) hn⟩
/-- A region whose order is drawn, by its schedule. -/
theorem ADraw.of_sched (hI : zu P c.I) (hm : P.follows .mixedOrders = true) (hops : qq c ops = true) {K : Fr -> Store -> Prop} {A : Fr} {st : Store} (S : Sched) (hs : qb c ops S [] true = true) (hv : y9 P c ops K S A st) : ADraw P c ops K A st := by
  refine ⟨fun id => ⟨fun Oth M a w sim => wpIn_region_any hm (Hs (fun i o hi => (jd hops hi).nd) ?_ _ _ _ _ ?_)⟩⟩
  · grind
  obtain ⟨β, sim⟩ := sim
  have g := Grow.drew w
  have hinv : DInv c ops Oth M w (Array.replicate ops.size false) [] [] A st M a w.drew :=
    ⟨by simp, fun i hi => by simp [hi], fun i h => (by cases h), fun i h => (by cases h), fun i h => (by cases h), fun i h => (by cases h), ⟨β, sim.grow g⟩, g.chg M, fun i hi hl => by simp_all⟩
  have hl : left ops (Array.replicate ops.size false) = ops.size := by
    unfold left
    have : (List.range ops.size).countP (fun i => !(Array.replicate ops.size false).getD i true) = (List.range ops.size).length := by
      rw [List.countP_eq_length]
      simp_all
    grind
  exact zch hI hops ops.size S _ [] [] A st M a w.drew hs hv hinv hl
end
/-- A function's end. -/
theorem ret {x : AV} {st : Store} {R : AV -> Store -> Prop} (h : R x st) : ∃ r st', AV.le x r /\ st.Has st' /\ R r st' := ⟨x, st, Tt, Store.Has.refl _, h⟩
theorem j3 {x r : AV} {st st' : Store} {R : AV -> Store -> Prop} (h : AV.le x r) (k : st.Has st') (q : R r st') : ∃ r st', AV.le x r /\ st.Has st' /\ R r st' := ⟨r, st', h, k, q⟩
theorem optR {α : Type} {x : α} {K : α -> Prop} (h : K x) : optK (some x) K := h
/-- Tests. -/
theorem bcd {c : Prop} [Decidable c] {p q : Prop} (h : c -> p) (h' : ¬ c -> q) : xu (decide c) p q := zh (fun e => h (of_decide_eq_true e)) (fun e => h' (of_decide_eq_false e))
theorem yx {a b : Int} {p q : Prop} (h : a = b -> p) (h' : a ≠ b -> q) : xu (a == b) p q := zh (fun e => h (eq_of_beq e)) (fun e => h' (ne_of_beq_false e))
theorem qu {a b : Int} {p q : Prop} (h : a ≠ b -> p) (h' : a = b -> q) : xu (a != b) p q := by grind[zh]
theorem yg {b : Bool} {p q : Prop} (h : xu b q p) : xu (!b) p q := by cases b <;> exact h
/-- A callee's yes or no. -/
theorem Mr {P : Prop} {Q : Bool -> Prop} (h : P -> Q true) (h' : ¬ P -> Q false) : ∀ b : Bool, (b = true ↔ P) -> Q b := by grind
/-- The lower bound and the upper one. -/
theorem zd {v : Int} {K : Prop} (h : -9223372036854775808 <= v /\ v <= 9223372036854775807) (k : K) : zl v /\ K := ⟨h, k⟩
theorem Fresh.ne_obj {st : Store} {b p : Nat} {x : AObj} (h : Fresh st b) (hp : st.obj p = some x) : b ≠ p := fun e => by rw [<- e, h.1] at hp; cases hp
theorem zc (st : Store) (p : Nat) (x : AObj) : (st.setObj p x).obj p = some x := by simp [Store.setObj]
theorem zj {st : Store} {p b : Nat} {x : AObj} (h : b ≠ p) : (st.setObj p x).obj b = st.obj b := by simp [Store.setObj, ya h]
theorem pf {st : Store} {p b : Nat} {x : Option Nat} (h : b ≠ p) : (st.setTok p x).tok b = st.tok b := by simp [Store.setTok, ya h]
theorem qa (st : Store) (p : Nat) (x y : AObj) : (st.setObj p x).setObj p y = st.setObj p y := by
  unfold Store.setObj
  grind
theorem zbt {st : Store} {p b : Nat} {x : AObj} (h : Fresh st b) (hn : b ≠ p) : Fresh (st.setObj p x) b := ⟨by rw [zj hn]; exact h.1, h.2⟩
theorem Im (st : Store) (p b : Nat) (x : AObj) (y : Option Nat) : (st.setTok b y).setObj p x = (st.setObj p x).setTok b y := rfl
/-- An object beside a growing slice is changed. -/
theorem App.setObj {k : Nat} {st st' : Store} {v : AV} {rows : List (List AV)} {p : Nat} {x y : AObj} (h : App k (st.setObj p x) v rows st') : App k (st.setObj p y) v rows (st'.setObj p y) := by
  rcases h with ⟨h1, h2, rfl⟩ | ⟨h1, h2, rfl⟩ | ⟨h1, b, hb, h2, rfl⟩
  · rw [qa]; exact .inl ⟨h1, h2, rfl⟩
  · rw [qa]; exact .inr (.inl ⟨h1, h2, rfl⟩)
  · have hne : b ≠ p := fun e => by have := hb.1; rw [e, zc] at this; cases this
    refine .inr (.inr ⟨h1, b, ?_, h2, ?_⟩)
    · exact ⟨by rw [zj hne]; have := hb.1; rwa [zj hne] at this, hb.2⟩
    · rw [Im, qa]
theorem App.fresh {k : Nat} {st st' : Store} {v : AV} {rows : List (List AV)} {p : Nat} (h : App k st v rows st') (hp : Fresh st' p) : st.obj p = none := by
  cases ho : st.obj p with
  | none => rfl
  | some x => have := h.has.obj p x ho; rw [hp.1] at this; cases this
theorem wx {st : Store} {p : Nat} {x : AObj} (h : st.obj p = none) : (st.setObj p x).Has st :=
  ⟨fun b y hb => by grind[zj], fun _ _ h => h⟩
theorem App.obj {k : Nat} {st st' : Store} {v : AV} {rows : List (List AV)} (h : App k st v rows st') (p : Nat) : st'.obj p = st.obj p := by
  rcases h with ⟨_, _, rfl⟩ | ⟨_, _, rfl⟩ | ⟨_, _, _, _, rfl⟩ <;> rfl
theorem App.read {k : Nat} {st st' : Store} {v : AV} {rows : List (List AV)} {p : Nat} {x : AObj} (h : App k (st.setObj p x) v rows st') : st'.obj p = some x := by rw [h.obj, zc]
theorem App.src {k : Nat} {st st' : Store} {v : AV} {rows : List (List AV)} (h : App k st v rows st') : xk k (.av v) = some rows := by
  rcases h with ⟨rfl, rfl, _⟩ | ⟨rfl, rfl, _⟩ | ⟨_, b, _, rfl, _⟩
  · rfl
  · rfl
  · simp [xk]
theorem App.split {k : Nat} {st st' : Store} {v : AV} {rows : List (List AV)} {p : Nat} {x : AObj} (h : App k (st.setObj p x) v rows st') : ∃ st1 : Store, st' = st1.setObj p x /\ st1.Has st /\ ∀ y, App k (st.setObj p y) v rows (st1.setObj p y) := by
  rcases h with ⟨h1, h2, rfl⟩ | ⟨h1, h2, rfl⟩ | ⟨h1, b, hb, h2, rfl⟩
  · exact ⟨st, rfl, Store.Has.refl _, fun y => .inl ⟨h1, h2, rfl⟩⟩
  · exact ⟨st, rfl, Store.Has.refl _, fun y => .inr (.inl ⟨h1, h2, rfl⟩)⟩
  · have hne : b ≠ p := fun e => by have := hb.1; rw [e, zc] at this; cases this
    have hf : Fresh st b := ⟨by have := hb.1; rwa [zj hne] at this, hb.2⟩
    refine ⟨st.setTok b (some (rows.length * k)), (Im _ _ _ _ _).symm, ⟨fun _ _ h => h, fun i y hi => ?_⟩, fun y => .inr (.inr ⟨h1, b, zbt hf hne, h2, rfl⟩)⟩
    have : i ≠ b := fun e => by rw [e, hf.2] at hi; cases hi
    rw [pf this]; exact hi
theorem ACalls.drop {P : Program} {f : FuncId} {xs : List AV} {st st' : Store} {R : AV -> Store -> Prop} (h : st.Has st') (hc : ACalls P f xs st' R) : ACalls P f xs st R := by
  refine ⟨fun Oth M w vs sto hr => ?_⟩
  have h1 := hc.out Oth M w vs (sto.weaken h) hr
  trivial
theorem App.cells {k : Nat} {st st' : Store} {v : AV} {rows : List (List AV)} (h : App k st v rows st') : cellsOf v = some [v] := by
  rcases h with ⟨rfl, rfl, _⟩ | ⟨rfl, rfl, _⟩ | ⟨_, b, _, rfl, _⟩ <;> rfl
theorem App.lst {k : Nat} {st st' : Store} {v : AV} {rows : List (List AV)} (h : App k st v rows st') (hne : rows ≠ []) : ∃ b, v = .lst k rows (some b) := by
  rcases h with ⟨_, h, _⟩ | ⟨_, h, _⟩ | ⟨_, b, _, h, _⟩
  · grind
  · grind
  grind
theorem App.one {k : Nat} {st st' : Store} {v : AV} {rows : List (List AV)} (h : App k st v rows st') : v.one = true := by
  rcases h with ⟨rfl, rfl, _⟩ | ⟨rfl, rfl, _⟩ | ⟨_, b, _, rfl, _⟩ <;> rfl
/-- A store of one cell into an object. -/
theorem vl {i : TI} {A : Fr} {st : Store} {b o : Nat} {v : AV} {l : List AV} {K : Fr -> Store -> Prop} (hc : cellsOf v = some [v]) (h1 : v.one = true) (hi : i.size = 1) (ho : st.obj b = some (.cells l)) (hl : o + 1 <= l.length)
    (hk : K A (st.setObj b (.cells (z6 l o [v])))) : j1 i A st (.av (.s (.pointer (some ⟨b, o, none⟩)))) v K := by
  unfold j1
  rw [hc]
  show (bif Nat.beq 1 i.size && ([v].all AV.one) then _ else False)
  rw [hi]
  simp only [List.all_cons, h1, List.all_nil, Nat.beq_refl, Bool.and_self, cond_true]
  rw [ho]
  exact ⟨hl, Di hk⟩
theorem jb {i : TI} {A : Fr} {st st2 : Store} {b o : Nat} {v : AV} {l : List AV} {K : Fr -> Store -> Prop} (hc : cellsOf v = some [v]) (h1 : v.one = true) (hi : i.size = 1) (ho : st.obj b = some (.cells l)) (hl : o + 1 <= l.length)
    (he : st.setObj b (.cells (z6 l o [v])) = st2) (hk : K A st2) : j1 i A st (.av (.s (.pointer (some ⟨b, o, none⟩)))) v K :=
  vl hc h1 hi ho hl (he ▸ hk)
end Go.V
