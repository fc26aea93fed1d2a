/- Ground of laws of thronglaw24: contracts and plain lemmas; no condition beyond the row's own. -/
import Derived.MapKept
import Derived.Test.YtieceacpbjcddaaGreatKC
set_option linter.unusedSimpArgs false
set_option linter.unusedVariables false
set_option linter.defProp false
namespace Go.V
section
variable {P : Program} {c : Cfg} {ops : Array Oper}
theorem all_range {n : Nat} {p : Nat -> Bool} : (List.range n).all p = true ↔ ∀ i, i < n -> p i = true := by simp
structure OpFacts (c : Cfg) (ops : Array Oper) (i : Nat) (o : Oper) : Prop where
  lt : ∀ j ∈ qp ops i, j < i
  sel : ∀ cs b, o.op ≠ .select cs b
  nd : ∀ cl, o.op ≠ .defer cl
  dst : isV c o = true -> ∃ d, o.dst = some d
  dlt : ∀ d, o.dst = some d -> d < c.n
  own : ∀ d, o.dst = some d -> d ∉ o.looksAt ops
  one : ∀ d, o.dst = some d -> ∀ k o', ops[k]? = some o' -> k ≠ i -> o'.dst ≠ some d
  look : ∀ d, o.dst = some d -> ∀ k o', ops[k]? = some o' -> k ≠ i -> d ∈ o'.looksAt ops -> i ∈ qp ops k \/ (isV c o = false /\ k ∈ qp ops i)
theorem Cp (h : vt c ops = true) {i : Nat} {o : Oper} (hi : ops[i]? = some o) : OpFacts c ops i o := by
  have hlt : i < ops.size := (Array.getElem?_eq_some_iff.1 hi).1
  have h1 := all_range.1 h i hlt
  simp only [hi, Bool.and_eq_true, List.all_eq_true] at h1
  obtain ⟨⟨hd, hs⟩, h2⟩ := h1
  refine ⟨fun j hj => Nat.le_of_ble_eq_true (hd j hj), fun cs b hop => (by grind), fun cl hop => (by grind), fun hv => ?_, fun d hdst => ?_, fun d hdst => ?_, fun d hdst k o' hk hne => ?_, fun d hdst k o' hk hne hl => ?_⟩
  · grind
  all_goals
    rw [hdst] at h2
    simp only [Bool.and_eq_true, Bool.not_eq_true'] at h2
    obtain ⟨⟨h3, h4⟩, h5⟩ := h2
  · exact Nat.le_of_ble_eq_true h3
  · intro hm
    rw [(mem_iff _ _).2 hm] at h4
    cases h4
  all_goals
    have hklt : k < ops.size := (Array.getElem?_eq_some_iff.1 hk).1
    have h6 := all_range.1 h5 k hklt
    rw [hk] at h6
    simp only [Bool.or_eq_true, yz hne, Bool.false_eq_true, false_or, Bool.and_eq_true, Bool.not_eq_true'] at h6
  · intro hd'
    simp_all
  grind[mem_iff]
theorem zvr {p q : Nat -> Bool} {i : Nat} : ∀ (l : List Nat), l.Nodup -> i ∈ l -> p i = true -> q i = false -> (∀ j, j ≠ i -> p j = q j) -> l.countP p = l.countP q + 1 := by
  intro l
  induction l with
  | nil => simp
  | cons a l ih =>
    grind[List.countP_congr]
/-- How many are still to come. -/
def left (ops : Array Oper) (listed : Array Bool) : Nat := (List.range ops.size).countP fun i => !listed.getD i true
theorem Ku {listed : Array Bool} (hs : listed.size = ops.size) {i : Nat} (hi : i < ops.size) (hl : listed.getD i true = false) : left ops listed = left ops (listed.setIfInBounds i true) + 1 := by
  unfold left
  refine zvr (i := i) _ List.nodup_range (List.mem_range.2 hi) (by simp [hl]) ?_ fun j hj => ?_
  · simp
  · rw [getD_set_ne true (Ne.symm hj)]
theorem co {listed : Array Bool} (h : left ops listed = 0) {i : Nat} (hi : i < ops.size) : listed.getD i true = true := by grind[left,List.countP_eq_zero]
theorem least {p : Nat -> Prop} : ∀ n, (∃ i, i < n /\ p i) -> ∃ i, i < n /\ p i /\ ∀ j, j < i -> ¬ p j := by
  intro n
  induction n with
  | zero => simp
  | succ n ih =>
    rintro ⟨i, h, hp⟩
    by_cases hx : ∃ j, j < n /\ p j
    · grind
    grind
theorem b8 {i j : Nat} {o : Oper} (hi : ops[i]? = some o) : j ∈ qp ops i ↔ ∃ e ∈ o.after, Region.binds .any e = true /\ e.on = j := by grind[qp]
theorem ready_iff {i : Nat} {listed : Array Bool} : i ∈ Region.ready .any ops listed ↔ listed.getD i true = false /\ i < ops.size /\ ∀ j ∈ qp ops i, listed.getD j false = true := by
  rw [mem_ready]
  constructor
  · rintro ⟨h1, o, ho, h2⟩
    refine ⟨h1, (Array.getElem?_eq_some_iff.1 ho).1, fun j hj => ?_⟩
    obtain ⟨e, he, hb, rfl⟩ := (b8 ho).1 hj
    grind
  · rintro ⟨h1, hlt, h2⟩
    refine ⟨h1, ops[i], Array.getElem?_eq_getElem hlt, fun e he hb => h2 _ ((b8 (Array.getElem?_eq_getElem hlt)).2 ⟨e, he, hb, rfl⟩)⟩
/-- The slots of some operations. -/
def ju (ops : Array Oper) (U : List Nat) : List Nat := U.filterMap fun i => (ops[i]?).bind (·.dst)
theorem mem_dsts {U : List Nat} {t : Nat} : t ∈ ju ops U ↔ ∃ k ∈ U, ∃ o, ops[k]? = some o /\ o.dst = some t := by grind[ju]
theorem SimB.weaken {n : SN} {Oth M : Nat -> Nat -> Prop} {β : Nat -> Nat} {A B : Fr} {st : Store} {a : Act} {w : World} (h : SimB n Oth β A st M a w) (hb : B.bx = A.bx) (ht : ∀ t, A.t t = B.t t \/ B.t t = .any) : SimB n Oth β B st M a w where
  tsz := h.tsz
  dfr := h.dfr
  tm i := by
    rcases ht i with h1 | h1
    · rw [<- h1]; exact h.tm i
    · rw [h1]; trivial
  bx := by rw [hb]; exact h.bx
  inj := by rw [hb]; exact h.inj
  sep := by rw [hb]; exact h.sep
  sto := h.sto
theorem Oper.wp_q {o : Oper} {a : Act} {w : World} {K : Act -> World -> Prop} {Q : Exit -> Act -> World -> Prop} (h : o.wp P a w K fun _ _ _ => False) : o.wp P a w K Q := by
  unfold Oper.wp at *
  generalize (execOp a.eval o).run P w = r at *
  cases r with
  | ok n w' =>
    cases n <;> simp only [Oper.upon] at h ⊢ <;>
      first
        | exact h
        | exact Calls.mono h (fun e w'' he => by cases e <;> first | exact he | exact he.elim | (obtain ⟨_, _, he⟩ := he; exact he.elim))
        | exact Rows.mono h (fun _ _ he => he)
  | halt x w' => cases x <;> trivial <;> exact h.elim
/-- An operation whose value stands, carried out. -/
theorem zxf (hI : yk P c.I) {o : Oper} {d : Nat} {x : LV} {B : Fr} {st : Store} (hd : o.dst = some d) (hlt : d < c.n) (h : vcW c B.ev B.bx st d o.op (fun y => y = x)) : AOp P c.N o (fun A' st' => A' = B.put d x /\ st' = st) B st := by
  have key : (∀ t n ps, o.op ≠ .buildSlice t n ps) -> AOp P c.N o (fun A' st' => A' = B.put d x /\ st' = st) B st := by
    intro hne
    refine Il hI (za d hd ?_)
    simp only [show Nat.blt d c.n = true from Nat.ble_eq_true_of_le hlt, cond_true]
    unfold vcW at h
    split at h
    · grind
    · exact R8 hI (fun y hy => ⟨by rw [hy], Tv⟩) h
  cases hop : o.op with
  | buildSlice t n parts =>
    clear key
    rw [hop] at h
    obtain ⟨i, ie, e, rows, y, hi, hty, hie, hrows, hone, hroom, hy, hyx, _⟩ := gy (show bsK c B.ev t n parts (fun y => y = x) from h)
    subst hyx
    refine iz (c := { c with G := [] }) hop hI (za i hi (za d hd ?_))
    simp only [show Nat.blt d c.n = true from Nat.ble_eq_true_of_le hlt, cond_true, hty]
    refine za ie hie (za rows hrows ?_)
    grind
  | _ => grind
theorem Gi {o : Oper} {A B : Fr} (h : ∀ t ∈ o.looksAt ops, B.t t = A.t t) : kj ops o B = kj ops o A := by grind[kj,Oper.looksAt]
theorem cj {o : Oper} {t : Nat} (h : Operand.tmp t ∈ o.op.operands) : t ∈ o.looksAt ops :=
  List.mem_append_left _ (List.mem_filterMap.2 ⟨.tmp t, by grind, rfl⟩)
theorem Pt {o : Oper} {A B : Fr} (h : ∀ t ∈ o.looksAt ops, B.t t = A.t t) : ∀ x ∈ o.op.operands, B.ev x = A.ev x := by
  intro x hx
  cases x with
  | tmp t => exact h t (cj hx)
  | _ => rfl
theorem stands_iff {A : Fr} {st : Store} {i : Nat} : stands c ops A st i ↔ ∃ o d, ops[i]? = some o /\ o.dst = some d ∧
    ((kj ops o A = some true /\ vcW c A.ev A.bx st d o.op fun x => x = A.t d) \/ (kj ops o A = some false /\ A.t d = .und)) := by
  unfold stands
  constructor
  · intro h
    obtain ⟨o, ho, h⟩ := zj h
    simp_all[zj,guardK_iff]
  grind[za,guardK_iff]
/-- A value that stands, in another frame. -/
theorem Vb {A B : Fr} {st st' : Store} {i : Nat} {o : Oper} (hi : ops[i]? = some o) (h : stands c ops A st i) (hl : ∀ t ∈ o.looksAt ops, B.t t = A.t t) (hd : ∀ d, o.dst = some d -> B.t d = A.t d)
    (hn : (B.bx = A.bx /\ st' = st) \/ F9 o.op = true) : stands c ops B st' i := by
  obtain ⟨o', d, ho, hdst, h⟩ := stands_iff.1 h
  rw [hi] at ho
  cases ho
  refine stands_iff.2 ⟨o, d, hi, hdst, ?_⟩
  rw [Gi hl, hd d hdst]
  refine h.imp (fun h => ⟨h.1, ?_⟩) id
  have h2 := Mu (ev' := B.ev) (Pt hl) h.2
  grind[mp]
theorem zj6 {A : Fr} {st : Store} : ∀ {l : List Nat}, Dm c ops A st l -> ∀ i ∈ l, stands c ops A st i := by
  intro l
  induction l with
  | nil => simp
  | cons a l ih =>
    intro h i hi
    rcases List.mem_cons.1 hi with rfl | h'
    · exact h.1
    · exact ih h.2 i h'
/-- What the effect 'i' does, in the schedule. -/
def eu (P : Program) (c : Cfg) (ops : Array Oper) (K : Fr -> Store -> Prop) (i : Nat) (chk : List Nat) (r : Sched) (A : Fr) (st : Store) : Prop :=
  optK ops[i]? fun o =>
      C0 ops o A (fun A => vo P c o (fun A' st' => Dm c ops A' st' chk /\ ja P c ops K r A' st') A st)
        (fun A => yy A c.n o.dst .und fun A' => Dm c ops A' st chk /\ ja P c ops K r A' st)
theorem zxq {K : Fr -> Store -> Prop} {A : Fr} {st : Store} {i : Nat} {L : List Nat} : ∀ (S : Sched) (first : Bool), je c ops S L first = true -> ja P c ops K S A st -> i ∈ Im S ->
    ∃ chk r, H9 c ops i chk L = true /\ je c ops r (i :: L) true = true /\ eu P c ops K i chk r A st := by
  intro S
  induction S with
  | done => intro _ _ _ h; cases h
  | stop => intro _ _ _ h; cases h
  | v j r _ => intro _ _ _ h; cases h
  | e j chk r alt _ ih =>
    intro first hs hv hi
    simp only [je, Bool.and_eq_true] at hs
    simp only [Im, List.mem_cons] at hi
    rcases hi with rfl | hi
    · exact ⟨chk, r, hs.1.1.1, hs.1.1.2, hv.1⟩
    · exact ih false hs.1.2 hv.2 hi
structure DInv (c : Cfg) (ops : Array Oper) (Oth M0 : Nat -> Nat -> Prop) (w0 : World) (listed : Array Bool) (Lab U : List Nat) (A : Fr) (st : Store) (M : Nat -> Nat -> Prop) (a : Act) (w : World) : Prop where
  lsz : listed.size = ops.size
  lst : ∀ i, i < ops.size -> (listed.getD i false = true ↔ i ∈ Lab /\ i ∉ U)
  usub : ∀ i ∈ U, i ∈ Lab
  lab : ∀ i ∈ Lab, i < ops.size /\ ∀ j ∈ qp ops i, j ∈ Lab
  uv : ∀ i ∈ U, ∃ o, ops[i]? = some o /\ isV c o = true
  std : ∀ i ∈ U, stands c ops A st i
  sim : Sim c.N Oth (yp A (ju ops U)) st M a w
  chg : Chg M0 w0 M w
  cls : ∀ i, i < ops.size -> listed.getD i false = true -> ∀ j ∈ qp ops i, listed.getD j false = true
theorem dq {listed : Array Bool} {i : Nat} (h : i < listed.size) : listed.getD i true = listed.getD i false := by
  simp [h]
theorem zop {ops : Array Oper} {listed : Array Bool} (cls : ∀ i, i < ops.size -> listed.getD i false = true -> ∀ j ∈ qp ops i, listed.getD j false = true) (hlt : ∀ i j, j ∈ qp ops i -> j < ops.size) {i : Nat} (hi : ∀ j ∈ qp ops i, listed.getD j false = true) :
    ∀ k ∈ Hp ops i, listed.getD k false = true := by
  have key : ∀ (l acc : List Nat), (∀ k ∈ acc, k < ops.size /\ listed.getD k false = true) -> ∀ k ∈ l.foldl (fun acc j => bif mem j acc then qp ops j ++ acc else acc) acc, k < ops.size /\ listed.getD k false = true := by
    intro l
    induction l with
    | nil => simp
    | cons j l ih =>
      intro acc h
      refine ih _ ?_
      by_cases hm : mem j acc = false
      · grind
      · have hm : mem j acc = true := by grind
        have hj := h j ((mem_iff _ _).1 hm)
        grind
  exact fun k hk => (key _ _ (fun k hk => ⟨hlt i k hk, hi k hk⟩) k hk).2
end
section
variable {P : Program} {c : Cfg} {ops : Array Oper} {Oth M0 : Nat -> Nat -> Prop} {w0 : World}
def vk (c : Cfg) (Oth M0 : Nat -> Nat -> Prop) (w0 : World) (K : Fr -> Store -> Prop) : Exit -> Act -> World -> Prop :=
  fun e a' w' => ∃ A' st' M', (match e with | .normal => K A' st' | _ => False) /\ Sim c.N Oth A' st' M' a' w' /\ Chg M0 w0 M' w'
theorem mo (hI : yk P c.I) {ev : Operand -> LV} {bx : Nat -> Option (List AV)} {st : Store} {d : Nat} {op : Op} {K : LV -> Prop} (h : vcW c ev bx st d op K) : ∃ x, K x /\ vcW c ev bx st d op fun y => y = x := by
  unfold vcW at h ⊢
  split at h
  · obtain ⟨_, _, _, _, x, _, _, _, _, _, _, _, hx, hx'⟩ := gy h
    grind
  · obtain ⟨x, hx, hx', _⟩ := Mv hI _ h
    grind
section
variable {listed : Array Bool} {Lab U : List Nat} {A : Fr} {st : Store} {M : Nat -> Nat -> Prop} {a : Act} {w : World}
theorem DInv.listed_iff (h : DInv c ops Oth M0 w0 listed Lab U A st M a w) {i : Nat} (hi : i < ops.size) : listed.getD i true = false ↔ ¬ (i ∈ Lab /\ i ∉ U) := by
  rw [dq (by rw [h.lsz]; exact hi), <- h.lst i hi]
  simp
theorem DInv.done (hops : vt c ops = true) {K : Fr -> Store -> Prop} {S : Sched} (h : DInv c ops Oth M0 w0 listed Lab U A st M a w) (hs : je c ops S Lab true = true) (hv : ja P c ops K S A st)
    (hl : left ops listed = 0) : vk c Oth M0 w0 K .normal a w := by
  have hall : ∀ i, i < ops.size -> i ∈ Lab /\ i ∉ U := fun i hi => by
    have := co hl hi
    rw [dq (by rw [h.lsz]; exact hi)] at this
    exact (h.lst i hi).1 this
  have hU : U = [] := by
    cases U with
    | nil => rfl
    | cons u U => exact absurd (List.mem_cons_self) (hall u (h.lab u (h.usub u List.mem_cons_self)).1).2
  subst hU
  cases S with
  | done => exact ⟨A, st, M, hv, h.sim, h.chg⟩
  | stop => trivial
  | v i r =>
    simp only [je, Bool.and_eq_true, Bool.not_eq_true'] at hs
    grind[mem_iff]
  | e i chk r alt =>
    simp only [je, H9, Bool.and_eq_true, Bool.not_eq_true'] at hs
    grind[mem_iff]
theorem DInv.ready_ne (hops : vt c ops = true) (h : DInv c ops Oth M0 w0 listed Lab U A st M a w) {n : Nat} (hl : left ops listed = n + 1) : Region.ready .any ops listed ≠ [] := by
  intro hr
  have hex : ∃ i, i < ops.size /\ listed.getD i true = false := by grind[left,List.countP_pos_iff]
  obtain ⟨i, hi, hp, hmin⟩ := least ops.size hex
  have : i ∈ Region.ready .any ops listed := by
    rw [ready_iff]
    refine ⟨hp, hi, fun j hj => ?_⟩
    have hlt := (Cp hops (Array.getElem?_eq_getElem hi)).lt j hj
    grind
  grind
/-- What a ready operation looks at stands in the frame. -/
theorem DInv.clear (hops : vt c ops = true) (h : DInv c ops Oth M0 w0 listed Lab U A st M a w) {i : Nat} (hr : i ∈ Region.ready .any ops listed) {o : Oper} (hi : ops[i]? = some o) : ∀ t ∈ o.looksAt ops, t ∉ ju ops U := by
  intro t ht hd
  obtain ⟨k, hk, o', ho', hd'⟩ := mem_dsts.1 hd
  have hf := Cp hops ho'
  by_cases hki : i = k
  · subst hki
    rw [hi] at ho'
    cases ho'
    exact hf.own t hd' ht
  · obtain ⟨o2, ho2, hv⟩ := h.uv k hk
    rw [ho'] at ho2
    cases ho2
    rcases hf.look t hd' i o hi hki ht with h1 | ⟨h1, _⟩
    · have := (ready_iff.1 hr).2.2 k h1
      exact ((h.lst k (h.lab k (h.usub k hk)).1).1 this).2 hk
    grind
theorem DInv.look (h : DInv c ops Oth M0 w0 listed Lab U A st M a w) {i : Nat} {o : Oper} (hl : ∀ t ∈ o.looksAt ops, t ∉ ju ops U) : ∀ t ∈ o.looksAt ops, (yp A (ju ops U)).t t = A.t t :=
  fun t ht => Lb (hl t ht)
theorem zve (hops : vt c ops = true) : ∀ i j, j ∈ qp ops i -> j < ops.size := by
  intro i j hj
  cases hi : ops[i]? with
  | none => grind[qp]
  | some o =>
    have := (Cp hops hi).lt j hj
    grind
theorem fw (h : DInv c ops Oth M0 w0 listed Lab U A st M a w) (hops : vt c ops = true) {i : Nat} (hr : i ∈ Region.ready .any ops listed) :
    ∀ k, k < ops.size -> (listed.setIfInBounds i true).getD k false = true -> ∀ j ∈ qp ops k, (listed.setIfInBounds i true).getD j false = true := by
  have mono : ∀ j, listed.getD j false = true -> (listed.setIfInBounds i true).getD j false = true := by
    intro j hj
    by_cases hji : i = j
    · grind[ready_iff]
    simp_all
  intro k hk hl j hj
  by_cases hki : i = k
  · grind[ready_iff]
  · rw [getD_set_ne false hki] at hl
    exact mono j (h.cls k hk hl j hj)
/-- A pending operation comes. -/
theorem DInv.pend (hI : yk P c.I) (hops : vt c ops = true) {K : Fr -> Store -> Prop} {fuel : Nat} (h : DInv c ops Oth M0 w0 listed Lab U A st M a w) {i : Nat} (hr : i ∈ Region.ready .any ops listed) (hU : i ∈ U)
    (ih : ∀ (U' : List Nat) (M' : Nat -> Nat -> Prop) (a' : Act) (w' : World), DInv c ops Oth M0 w0 (listed.setIfInBounds i true) Lab U' A st M' a' w' -> wpAny P .any ops (vk c Oth M0 w0 K) fuel (listed.setIfInBounds i true) a' w') :
    wpOp P ops (vk c Oth M0 w0 K) i (wpAny P .any ops (vk c Oth M0 w0 K) fuel (listed.setIfInBounds i true)) a w := by
  obtain ⟨o, d, hi, hd, hst⟩ := stands_iff.1 (h.std i hU)
  have hf := Cp hops hi
  have hclear := h.clear hops hr hi
  have hlook := h.look (i := i) hclear
  have hilt := (Array.getElem?_eq_some_iff.1 hi).1
  -- the frame behind it
  have next : ∀ (M' : Nat -> Nat -> Prop) (a' : Act) (w' : World), Sim c.N Oth ((yp A (ju ops U)).put d (A.t d)) st M' a' w' -> Chg M w M' w' ->
      wpAny P .any ops (vk c Oth M0 w0 K) fuel (listed.setIfInBounds i true) a' w' := by
    rintro M' a' w' ⟨β, sim⟩ hchg
    refine ih (U.filter fun k => !Nat.beq k i) M' a' w' ⟨by simp [h.lsz], fun j hj => ?_, fun j hj => h.usub j (List.mem_filter.1 hj).1, h.lab, fun j hj => h.uv j (List.mem_filter.1 hj).1, fun j hj => h.std j (List.mem_filter.1 hj).1, ⟨β, sim.weaken rfl fun t => ?_⟩, h.chg.trans hchg, fw h hops hr⟩
    · by_cases hji : i = j
      · subst hji
        have : i < listed.size := by rw [h.lsz]; exact hilt
        simp [this, h.usub i hU]
      · rw [getD_set_ne false hji, h.lst j hj]
        simp_all[Ne.symm]
    · by_cases ht : t = d
      · subst ht
        left
        rw [Lb]
        · simp [Fr.put]
        · intro hm
          obtain ⟨k, hk, o', ho', hd'⟩ := mem_dsts.1 hm
          have hki : k ≠ i := by
            have := (List.mem_filter.1 hk).2
            intro h; simp_all
          exact hf.one t hd k o' ho' hki hd'
      · by_cases hm : t ∈ ju ops (U.filter fun k => !Nat.beq k i)
        · right; simp [yp, (mem_iff _ _).2 hm]
        · left
          have hm2 : t ∉ ju ops U := by
            intro h2
            obtain ⟨k, hk, o', ho', hd'⟩ := mem_dsts.1 h2
            refine hm (mem_dsts.2 ⟨k, List.mem_filter.2 ⟨hk, ?_⟩, o', ho', hd'⟩)
            by_cases hki : k = i
            · grind
            · simp [yz hki]
          simp_all[Fr.put,yz,Lb]
  unfold Go.wpOp
  simp only [hi]
  rcases hst with ⟨hg, hv⟩ | ⟨hg, hu⟩
  · have hg' : kj ops o (yp A (ju ops U)) = some true := by rw [Gi hlook]; exact hg
    rw [K6 h.sim hg']
    simp only [if_true]
    refine .inl (Oper.wp_q (Oper.wp_mono ?_ (zxf hI hd (hf.dlt d hd) (Mu (ev' := (yp A (ju ops U)).ev) (Pt hlook) hv) Oth M a w h.sim)))
    grind
  · have hg' : kj ops o (yp A (ju ops U)) = some false := by rw [Gi hlook]; exact hg
    rw [K6 h.sim hg']
    simp only [Bool.false_eq_true, if_false]
    obtain ⟨β, sim⟩ := h.sim
    refine next M _ w ⟨β, ?_⟩ (Chg.refl M w)
    rw [hd, hu]
    exact sim.put (hf.dlt d hd) rfl
/-- An effect comes. -/
theorem DInv.eff (hI : yk P c.I) (hops : vt c ops = true) {K K2 : Fr -> Store -> Prop} {fuel : Nat} (h : DInv c ops Oth M0 w0 listed Lab U A st M a w) {i : Nat} (hr : i ∈ Region.ready .any ops listed) {chk : List Nat} {r : Sched}
    (he : H9 c ops i chk Lab = true) (hv : eu P c ops K i chk r A st)
    (ih : ∀ (A' : Fr) (st' : Store) (M' : Nat -> Nat -> Prop) (a' : Act) (w' : World), ja P c ops K r A' st' -> DInv c ops Oth M0 w0 (listed.setIfInBounds i true) (i :: Lab) U A' st' M' a' w' -> wpAny P .any ops (vk c Oth M0 w0 K2) fuel (listed.setIfInBounds i true) a' w') :
    wpOp P ops (vk c Oth M0 w0 K2) i (wpAny P .any ops (vk c Oth M0 w0 K2) fuel (listed.setIfInBounds i true)) a w := by
  obtain ⟨o, hi, hv⟩ := zj hv
  have hf := Cp hops hi
  have hclear := h.clear hops hr hi
  have hlook := h.look (i := i) hclear
  have hilt := (Array.getElem?_eq_some_iff.1 hi).1
  simp only [H9, hi, Bool.and_eq_true, Bool.not_eq_true', List.all_eq_true] at he
  obtain ⟨⟨⟨⟨hnL, _⟩, hdeps⟩, hnV⟩, hL⟩ := he
  have hiL : i ∉ Lab := fun hm => by grind[mem_iff]
  have hiU : i ∉ U := fun hm => hiL (h.usub i hm)
  have hdD : ∀ d, o.dst = some d -> d ∉ ju ops U := by
    intro d hd hm
    obtain ⟨k, hk, o', ho', hd'⟩ := mem_dsts.1 hm
    exact hf.one d hd k o' ho' (fun h => hiU (h ▸ hk)) hd'
  have hdl : ∀ j ∈ qp ops i, j ∈ Lab /\ j ∉ U := fun j hj => by
    have h1 := (ready_iff.1 hr).2.2 j hj
    have hlt : j < ops.size := by
      have := hf.lt j hj; omega
    exact (h.lst j hlt).1 h1
  have hkr : ∀ k ∈ U, k ∉ Hp ops i := fun k hk hm => by
    have h1 := zop h.cls (zve hops) (ready_iff.1 hr).2.2 k hm
    exact ((h.lst k (h.lab k (h.usub k hk)).1).1 h1).2 hk
  -- what follows
  have next : ∀ (A' : Fr) (st' : Store) (M' : Nat -> Nat -> Prop) (a' : Act) (w' : World), Dm c ops A' st' chk -> ja P c ops K r A' st' -> wh o A A' -> ((∃ k, A' = A.put k .und /\ o.dst = some k /\ st' = st) \/ A' = A /\ st' = st \/ True) -> Sim c.N Oth (yp A' (ju ops U)) st' M' a' w' -> Chg M w M' w' ->
      (∀ k ∈ U, k ∉ chk -> ∀ o', ops[k]? = some o' -> ∀ t, o.dst ≠ some t -> A'.t t = A.t t) ->
      wpAny P .any ops (vk c Oth M0 w0 K2) fuel (listed.setIfInBounds i true) a' w' := by
    intro A' st' M' a' w' hchk hvc hkept _ hsim hchg hk2
    refine ih A' st' M' a' w' hvc ⟨by simp [h.lsz], fun j hj => ?_, fun j hj => List.mem_cons_of_mem _ (h.usub j hj), fun j hj => ?_, h.uv, fun k hk => ?_, hsim, h.chg.trans hchg, fw h hops hr⟩
    · by_cases hji : i = j
      · subst hji
        have : i < listed.size := by rw [h.lsz]; exact hilt
        simp_all
      · rw [getD_set_ne false hji, h.lst j hj]
        grind
    · rcases List.mem_cons.1 hj with rfl | hj
      · grind
      · exact ⟨(h.lab j hj).1, fun k hk => List.mem_cons_of_mem _ ((h.lab j hj).2 k hk)⟩
    · by_cases hkc : k ∈ chk
      · exact zj6 hchk k hkc
      · obtain ⟨o', ho', hV⟩ := h.uv k hk
        have hk3 := hk2 k hk hkc o' ho'
        have hki : k ≠ i := fun h => hiU (h ▸ hk)
        have hkd : k ∉ qp ops i := fun hd => (hdl k hd).2 hk
        have h4 := hL k (h.usub k hk)
        have m1 : mem k (Hp ops i) = false := Ct (hkr k hk)
        have m2 : mem k chk = false := Ct hkc
        rw [ho'] at h4
        simp only [m1, m2, Bool.false_or, Bool.or_eq_true, Bool.not_eq_true', Bool.and_eq_true, hV, Bool.true_eq_false, false_or] at h4
        refine Vb ho' (h.std k hk) (fun t ht => hk3 t fun hd => ?_) (fun d hd => hk3 d fun hd2 => hf.one d hd2 k o' ho' hki hd) (.inr h4.1)
        rcases hf.look t hd k o' ho' hki ht with h5 | ⟨_, h5⟩
        · exact hiL ((h.lab k (h.usub k hk)).2 i h5)
        grind
  have hkept : ∀ (A' : Fr), wh o A A' -> ∀ k ∈ U, k ∉ chk -> ∀ o', ops[k]? = some o' -> ∀ t, o.dst ≠ some t -> A'.t t = A.t t := by
    intro A' hK k hk hkc o' ho' t ht
    obtain ⟨o2, ho2, hV⟩ := h.uv k hk
    rw [ho'] at ho2
    cases ho2
    have hkd : k ∉ qp ops i := fun hd => (hdl k hd).2 hk
    have h4 := hL k (h.usub k hk)
    have m1 : mem k (Hp ops i) = false := Ct (hkr k hk)
    have m2 : mem k chk = false := Ct hkc
    rw [ho'] at h4
    simp only [m1, m2, Bool.false_or, Bool.or_eq_true, Bool.not_eq_true', Bool.and_eq_true, hV, Bool.true_eq_false, false_or] at h4
    refine hK ?_ t ht
    grind
  unfold Go.wpOp
  simp only [hi]
  rcases guardK_iff.1 hv with ⟨hg, hv⟩ | ⟨hg, hv⟩
  · have hg' : kj ops o (yp A (ju ops U)) = some true := by rw [Gi hlook]; exact hg
    rw [K6 h.sim hg']
    simp only [if_true]
    have hF := mr (D := ju ops U) hI hv (fun x hx t ht => hclear t (cj (by grind))) hdD
    refine .inl (Oper.wp_q (Oper.wp_mono ?_ (iy hI hF Oth M a w h.sim)))
    grind
  · have hg' : kj ops o (yp A (ju ops U)) = some false := by rw [Gi hlook]; exact hg
    rw [K6 h.sim hg']
    simp only [Bool.false_eq_true, if_false]
    obtain ⟨β, sim⟩ := h.sim
    unfold yy at hv
    cases hd : o.dst with
    | none =>
      rw [hd] at hv
      exact next A st M _ w hv.1 hv.2 O9 (.inr (.inr trivial)) ⟨β, sim⟩ (Chg.refl M w) (fun _ _ _ _ _ _ _ => rfl)
    | some d =>
      rw [hd] at hv
      obtain ⟨hlt, hv⟩ := jv hv
      refine next (A.put d .und) st M _ w hv.1 hv.2 (Dz hd) (.inr (.inr trivial)) ⟨β, ?_⟩ (Chg.refl M w) (fun _ _ _ _ _ t ht => by grind[Fr.put,yz])
      rw [<- Bu (hdD d hd)]
      exact sim.put hlt rfl
/-- A value moves to the pending ones. -/
theorem DInv.move (hI : yk P c.I) (hops : vt c ops = true) {K : Fr -> Store -> Prop} (h : DInv c ops Oth M0 w0 listed Lab U A st M a w) {j : Nat} {r : Sched} (hs : je c ops (.v j r) Lab true = true) (hv : ja P c ops K (.v j r) A st) :
    ∃ A', je c ops r (j :: Lab) true = true /\ ja P c ops K r A' st /\ DInv c ops Oth M0 w0 listed (j :: Lab) (j :: U) A' st M a w := by
  simp only [je, Bool.and_eq_true, Bool.not_eq_true', true_and] at hs
  obtain ⟨⟨⟨⟨hn, hlt⟩, hV⟩, hdep⟩, hs⟩ := hs
  have hjL : j ∉ Lab := fun hm => by rw [(mem_iff _ _).2 hm] at hn; cases hn
  have hlt : j < ops.size := Nat.le_of_ble_eq_true hlt
  obtain ⟨o, hi, hv⟩ := zj hv
  obtain ⟨d, hd, hv⟩ := zj hv
  rw [hi] at hV
  replace hV : isV c o = true := hV
  have hf := Cp hops hi
  have hdl : ∀ k ∈ qp ops j, k ∈ Lab := fun k hk => (mem_iff _ _).1 (List.all_eq_true.1 hdep k hk)
  have key : ∀ x, ja P c ops K r (A.put d x) st -> ((kj ops o A = some true /\ vcW c A.ev A.bx st d o.op fun y => y = x) \/ (kj ops o A = some false /\ x = .und)) ->
      ∃ A', je c ops r (j :: Lab) true = true /\ ja P c ops K r A' st /\ DInv c ops Oth M0 w0 listed (j :: Lab) (j :: U) A' st M a w := by
    intro x hx hst
    have hout : ∀ t, t ≠ d -> (A.put d x).t t = A.t t := fun t ht => by simp [Fr.put, yz ht]
    refine ⟨A.put d x, hs, hx, h.lsz, fun k hk => ?_, fun k hk => ?_, fun k hk => ?_, fun k hk => ?_, fun k hk => ?_, ?_, h.chg, h.cls⟩
    · rw [h.lst k hk]
      grind
    · rcases List.mem_cons.1 hk with rfl | hk
      · simp
      · exact List.mem_cons_of_mem _ (h.usub k hk)
    · rcases List.mem_cons.1 hk with rfl | hk
      · grind
      · exact ⟨(h.lab k hk).1, fun k' hk' => List.mem_cons_of_mem _ ((h.lab k hk).2 k' hk')⟩
    · rcases List.mem_cons.1 hk with rfl | hk
      · grind
      · exact h.uv k hk
    · rcases List.mem_cons.1 hk with rfl | hk
      · have hl : ∀ t ∈ o.looksAt ops, (A.put d x).t t = A.t t := fun t ht => hout t fun hh => hf.own d hd (hh ▸ ht)
        refine stands_iff.2 ⟨o, d, hi, hd, ?_⟩
        rw [Gi hl, show (A.put d x).t d = x by simp [Fr.put]]
        exact hst.imp (fun h => ⟨h.1, Mu (ev' := (A.put d x).ev) (Pt hl) h.2⟩) id
      · obtain ⟨o', ho', hV'⟩ := h.uv k hk
        have hkj : k ≠ j := fun hh => hjL (hh ▸ h.usub k hk)
        refine Vb ho' (h.std k hk) (fun t ht => hout t fun hh => ?_) (fun d' hd' => hout d' fun hh => hf.one d hd k o' ho' hkj (hh ▸ hd')) (.inl ⟨rfl, rfl⟩)
        subst hh
        rcases hf.look t hd k o' ho' hkj ht with h5 | ⟨h5, _⟩
        · exact hjL ((h.lab k (h.usub k hk)).2 j h5)
        grind
    · obtain ⟨β, sim⟩ := h.sim
      refine ⟨β, sim.weaken rfl fun t => ?_⟩
      grind[ju,yp,mem_iff]
  rcases guardK_iff.1 hv with ⟨hg, hv⟩ | ⟨hg, hv⟩
  · grind[mo]
  grind
end
theorem zuy (hI : yk P c.I) (hops : vt c ops = true) {K : Fr -> Store -> Prop} {fuel : Nat}
    (ih : ∀ (S : Sched) (listed : Array Bool) (Lab U : List Nat) (A : Fr) (st : Store) (M : Nat -> Nat -> Prop) (a : Act) (w : World), je c ops S Lab true = true -> ja P c ops K S A st -> DInv c ops Oth M0 w0 listed Lab U A st M a w -> left ops listed = fuel ->
      wpAny P .any ops (vk c Oth M0 w0 K) fuel listed a w) {listed : Array Bool} {M : Nat -> Nat -> Prop} {a : Act} {w : World} {st : Store} (hl : left ops listed = fuel + 1) {i : Nat} (hr : i ∈ Region.ready .any ops listed) :
    ∀ (S : Sched) (Lab U : List Nat) (A : Fr), je c ops S Lab true = true -> ja P c ops K S A st -> DInv c ops Oth M0 w0 listed Lab U A st M a w ->
      wpOp P ops (vk c Oth M0 w0 K) i (wpAny P .any ops (vk c Oth M0 w0 K) fuel (listed.setIfInBounds i true)) a w := by
  obtain ⟨hun, hilt, hdeps⟩ := ready_iff.1 hr
  intro S
  induction S with
  | done =>
    intro Lab U A hs hv h
    by_cases hU : i ∈ U
    · exact h.pend hI hops hr hU fun U' M' a' w' h' => ih .done _ _ _ _ _ _ _ _ hs hv h' (by have := Ku h.lsz hilt hun; omega)
    · simp only [je, Bool.true_and] at hs
      exact absurd ⟨(mem_iff _ _).1 (all_range.1 hs i hilt), hU⟩ ((h.listed_iff hilt).1 hun)
  | stop => intro Lab U A hs; trivial
  | v j r ihr =>
    intro Lab U A hs hv h
    by_cases hU : i ∈ U
    · exact h.pend hI hops hr hU fun U' M' a' w' h' => ih (.v j r) _ _ _ _ _ _ _ _ hs hv h' (by have := Ku h.lsz hilt hun; omega)
    · obtain ⟨A', h1, h2, h3⟩ := h.move hI hops hs hv
      grind
  | e j chk r alt _ _ =>
    intro Lab U A hs hv h
    by_cases hU : i ∈ U
    · exact h.pend hI hops hr hU fun U' M' a' w' h' => ih (.e j chk r alt) _ _ _ _ _ _ _ _ hs hv h' (by have := Ku h.lsz hilt hun; omega)
    · have hiL : i ∉ Lab := fun hm => (h.listed_iff hilt).1 hun ⟨hm, hU⟩
      have hin : i ∈ Im (.e j chk r alt) := by
        have hs2 := hs
        simp only [je, Bool.and_eq_true, Bool.not_true, Bool.false_or] at hs2
        have h1 := all_range.1 hs2.2 i hilt
        simp only [Bool.or_eq_true, Bool.not_eq_true', Ct hiL, Bool.false_eq_true, false_or] at h1
        rcases h1 with h1 | h1
        · have : sub (qp ops i) Lab = true := by
            unfold sub
            rw [List.all_eq_true]
            intro k hk
            have hlt : k < ops.size := by
              have := (Cp hops (Array.getElem?_eq_getElem hilt)).lt k hk
              omega
            exact (mem_iff _ _).2 ((h.lst k hlt).1 (hdeps k hk)).1
          grind
        · exact (mem_iff _ _).1 h1
      obtain ⟨chk', r', h1, h2, h3⟩ := zxq _ true hs hv hin
      exact h.eff hI hops hr h1 h3 fun A' st' M' a' w' h4 h5 => ih r' _ _ _ _ _ _ _ _ h2 h4 h5 (by have := Ku h.lsz hilt hun; omega)
theorem zuz (hI : yk P c.I) (hops : vt c ops = true) {K : Fr -> Store -> Prop} : ∀ (fuel : Nat) (S : Sched) (listed : Array Bool) (Lab U : List Nat) (A : Fr) (st : Store) (M : Nat -> Nat -> Prop) (a : Act) (w : World), je c ops S Lab true = true -> ja P c ops K S A st -> DInv c ops Oth M0 w0 listed Lab U A st M a w -> left ops listed = fuel ->
      wpAny P .any ops (vk c Oth M0 w0 K) fuel listed a w := by
  intro fuel
  induction fuel with
  | zero =>
    intro S listed Lab U A st M a w hs hv h hl
    refine ⟨?_, h.done hops hs hv hl⟩
    cases hr : Region.ready .any ops listed with
    | nil => rfl
    | cons i rs =>
      grind[List.mem_cons_self,ready_iff,co]
  | succ fuel ih =>
    intro S listed Lab U A st M a w hs hv h hl
    refine ⟨fun hr => absurd hr (h.ready_ne hops hl), fun i hi => zuy hI hops ih hl hi S Lab U A hs hv h⟩
theorem lf {ops : Array Oper} (hd : ∀ (i : Nat) (o : Oper), ops[i]? = some o -> ∀ cl, o.op ≠ .defer cl) {Q : Exit -> Act -> World -> Prop} {i : Nat} {K K' : Act -> World -> Prop} {a : Act} {w : World} (hk : ∀ a w, K a w -> K' a w) (h : wpOp P ops Q i K a w) (hn : ∀ e a w, e ≠ .normal -> ¬ Q e a w) : wpOpIn c.F 0 P ops Q i K' a w := by
  unfold wpOp at h
  unfold wpOpIn
  split
  · grind
  · rename_i o hi
    simp only [hi] at h
    split
    · rename_i hw
      simp only [hw, if_true] at h
      rcases h with h | ⟨_, a1, w1, h⟩
      · exact Ml hk hn (Oper.wpIn_F (hd i o hi) h)
      grind
    · rename_i hw
      simp only [hw] at h
      exact ⟨fun _ _ => Tv, hk _ _ h⟩
theorem lg {ops : Array Oper} (hd : ∀ (i : Nat) (o : Oper), ops[i]? = some o -> ∀ cl, o.op ≠ .defer cl) {Q : Exit -> Act -> World -> Prop} (hn : ∀ e a w, e ≠ .normal -> ¬ Q e a w) {md : Region.Mode} : ∀ (fuel : Nat) (listed : Array Bool) (a : Act) (w : World), wpAny P md ops Q fuel listed a w -> wpAnyIn c.F 0 P md ops Q fuel listed a w := by
  intro fuel
  induction fuel with
  | zero => intro listed a w h; exact h
  | succ fuel ih => intro listed a w h; exact ⟨h.1, fun i hi => lf hd (fun a w h => ih _ a w h) (h.2 i hi) hn⟩
/-- A region whose order is drawn, by its schedule. -/
theorem ADraw.of_sched (hI : yk P c.I) (hm : P.follows .mixedOrders = true) (hops : vt c ops = true) {K : Fr -> Store -> Prop} {A : Fr} {st : Store} (S : Sched) (hs : je c ops S [] true = true) (hv : ja P c ops K S A st) : ADraw P c ops K A st := by
  refine ⟨fun id => ⟨fun Oth M a w sim => wpIn_region_any hm (lg (fun i o hi => (Cp hops hi).nd) ?_ _ _ _ _ ?_)⟩⟩
  · grind
  obtain ⟨β, sim⟩ := sim
  have g := Grow.drew w
  have hinv : DInv c ops Oth M w (Array.replicate ops.size false) [] [] A st M a w.drew :=
    ⟨by simp, fun i hi => by simp [hi], fun i h => (by cases h), fun i h => (by cases h), fun i h => (by cases h), fun i h => (by cases h), ⟨β, sim.grow g⟩, g.chg M, fun i hi hl => by simp_all⟩
  have hl : left ops (Array.replicate ops.size false) = ops.size := by
    unfold left
    have : (List.range ops.size).countP (fun i => !(Array.replicate ops.size false).getD i true) = (List.range ops.size).length := by
      rw [List.countP_eq_length]
      simp_all
    grind
  exact zuz hI hops ops.size S _ [] [] A st M a w.drew hs hv hinv hl
end
/-- A function's end. -/
theorem ret {x : AV} {st : Store} {R : AV -> Store -> Prop} (h : R x st) : ∃ r st', AV.le x r /\ st.Has st' /\ R r st' := ⟨x, st, Tt, Store.Has.refl _, h⟩
theorem vg {x r : AV} {st st' : Store} {R : AV -> Store -> Prop} (h : AV.le x r) (k : st.Has st') (q : R r st') : ∃ r st', AV.le x r /\ st.Has st' /\ R r st' := ⟨r, st', h, k, q⟩
theorem optR {α : Type} {x : α} {K : α -> Prop} (h : K x) : optK (some x) K := h
/-- Tests. -/
theorem bcd {c : Prop} [Decidable c] {p q : Prop} (h : c -> p) (h' : ¬ c -> q) : vl (decide c) p q := zh (fun e => h (of_decide_eq_true e)) (fun e => h' (of_decide_eq_false e))
theorem yj {a b : Int} {p q : Prop} (h : a = b -> p) (h' : a ≠ b -> q) : vl (a == b) p q := zh (fun e => h (eq_of_beq e)) (fun e => h' (ne_of_beq_false e))
theorem xd {a b : Int} {p q : Prop} (h : a ≠ b -> p) (h' : a = b -> q) : vl (a != b) p q := by grind[zh]
theorem yf {b : Bool} {p q : Prop} (h : vl b q p) : vl (!b) p q := by cases b <;> exact h
/-- The lower bound and the upper one. -/
theorem zc {v : Int} {K : Prop} (h : -9223372036854775808 <= v /\ v <= 9223372036854775807) (k : K) : ye v /\ K := ⟨h, k⟩
theorem Fresh.ne_obj {st : Store} {b p : Nat} {x : AObj} (h : Fresh st b) (hp : st.obj p = some x) : b ≠ p := fun e => by rw [<- e, h.1] at hp; cases hp
theorem zd (st : Store) (p : Nat) (x : AObj) : (st.setObj p x).obj p = some x := by simp [Store.setObj]
theorem zw {st : Store} {p b : Nat} {x : AObj} (h : b ≠ p) : (st.setObj p x).obj b = st.obj b := by simp [Store.setObj, yz h]
theorem zkx (st : Store) (p : Nat) (x : Option Nat) : (st.setTok p x).tok p = x := by simp [Store.setTok]
theorem Ns {st : Store} {p b : Nat} {x : Option Nat} (h : b ≠ p) : (st.setTok p x).tok b = st.tok b := by simp [Store.setTok, yz h]
theorem yx (st : Store) (p : Nat) (x y : AObj) : (st.setObj p x).setObj p y = st.setObj p y := by
  unfold Store.setObj
  grind
theorem ztx {st : Store} {p b : Nat} {x : AObj} (h : Fresh st b) (hn : b ≠ p) : Fresh (st.setObj p x) b := ⟨by rw [zw hn]; exact h.1, h.2⟩
theorem Vq (st : Store) (p b : Nat) (x : AObj) (y : Option Nat) : (st.setTok b y).setObj p x = (st.setObj p x).setTok b y := rfl
/-- An object beside a growing slice is changed. -/
theorem App.setObj {k : Nat} {st st' : Store} {v : AV} {rows : List (List AV)} {p : Nat} {x y : AObj} (h : App k (st.setObj p x) v rows st') : App k (st.setObj p y) v rows (st'.setObj p y) := by
  rcases h with ⟨h1, h2, rfl⟩ | ⟨h1, h2, rfl⟩ | ⟨h1, b, hb, h2, rfl⟩
  · rw [yx]; exact .inl ⟨h1, h2, rfl⟩
  · rw [yx]; exact .inr (.inl ⟨h1, h2, rfl⟩)
  · have hne : b ≠ p := fun e => by have := hb.1; rw [e, zd] at this; cases this
    refine .inr (.inr ⟨h1, b, ?_, h2, ?_⟩)
    · exact ⟨by rw [zw hne]; have := hb.1; rwa [zw hne] at this, hb.2⟩
    · rw [Vq, yx]
theorem App.fresh {k : Nat} {st st' : Store} {v : AV} {rows : List (List AV)} {p : Nat} (h : App k st v rows st') (hp : Fresh st' p) : st.obj p = none := by
  cases ho : st.obj p with
  | none => rfl
  | some x => have := h.has.obj p x ho; rw [hp.1] at this; cases this
theorem Ay {st : Store} {p : Nat} {x : AObj} (h : st.obj p = none) : (st.setObj p x).Has st :=
  ⟨fun b y hb => by grind[zw], fun _ _ h => h⟩
theorem App.obj {k : Nat} {st st' : Store} {v : AV} {rows : List (List AV)} (h : App k st v rows st') (p : Nat) : st'.obj p = st.obj p := by
  rcases h with ⟨_, _, rfl⟩ | ⟨_, _, rfl⟩ | ⟨_, _, _, _, rfl⟩ <;> rfl
theorem App.read {k : Nat} {st st' : Store} {v : AV} {rows : List (List AV)} {p : Nat} {x : AObj} (h : App k (st.setObj p x) v rows st') : st'.obj p = some x := by rw [h.obj, zd]
theorem App.src {k : Nat} {st st' : Store} {v : AV} {rows : List (List AV)} (h : App k st v rows st') : jc k (.av v) = some rows := by
  rcases h with ⟨rfl, rfl, _⟩ | ⟨rfl, rfl, _⟩ | ⟨_, b, _, rfl, _⟩
  · rfl
  · rfl
  · simp [jc]
theorem App.split {k : Nat} {st st' : Store} {v : AV} {rows : List (List AV)} {p : Nat} {x : AObj} (h : App k (st.setObj p x) v rows st') : ∃ st1 : Store, st' = st1.setObj p x /\ st1.Has st /\ ∀ y, App k (st.setObj p y) v rows (st1.setObj p y) := by
  rcases h with ⟨h1, h2, rfl⟩ | ⟨h1, h2, rfl⟩ | ⟨h1, b, hb, h2, rfl⟩
  · exact ⟨st, rfl, Store.Has.refl _, fun y => .inl ⟨h1, h2, rfl⟩⟩
  · exact ⟨st, rfl, Store.Has.refl _, fun y => .inr (.inl ⟨h1, h2, rfl⟩)⟩
  · have hne : b ≠ p := fun e => by have := hb.1; rw [e, zd] at this; cases this
    have hf : Fresh st b := ⟨by have := hb.1; rwa [zw hne] at this, hb.2⟩
    refine ⟨st.setTok b (some (rows.length * k)), (Vq _ _ _ _ _).symm, ⟨fun _ _ h => h, fun i y hi => ?_⟩, fun y => .inr (.inr ⟨h1, b, ztx hf hne, h2, rfl⟩)⟩
    have : i ≠ b := fun e => by rw [e, hf.2] at hi; cases hi
    rw [Ns this]; exact hi
theorem ACalls.drop {P : Program} {f : FuncId} {xs : List AV} {st st' : Store} {R : AV -> Store -> Prop} (h : st.Has st') (hc : ACalls P f xs st' R) : ACalls P f xs st R := by
  refine ⟨fun Oth M w vs sto hr => ?_⟩
  have h1 := hc.out Oth M w vs (sto.weaken h) hr
  trivial
theorem App.cells {k : Nat} {st st' : Store} {v : AV} {rows : List (List AV)} (h : App k st v rows st') : cellsOf v = some [v] := by
  rcases h with ⟨rfl, rfl, _⟩ | ⟨rfl, rfl, _⟩ | ⟨_, b, _, rfl, _⟩ <;> rfl
theorem App.lst {k : Nat} {st st' : Store} {v : AV} {rows : List (List AV)} (h : App k st v rows st') (hne : rows ≠ []) : ∃ b, v = .lst k rows (some b) := by
  rcases h with ⟨_, h, _⟩ | ⟨_, h, _⟩ | ⟨_, b, _, h, _⟩
  · grind
  · grind
  grind
theorem App.one {k : Nat} {st st' : Store} {v : AV} {rows : List (List AV)} (h : App k st v rows st') : v.one = true := by
  rcases h with ⟨rfl, rfl, _⟩ | ⟨rfl, rfl, _⟩ | ⟨_, b, _, rfl, _⟩ <;> rfl
/-- A store of one cell into an object. -/
theorem Fu {i : TI} {A : Fr} {st : Store} {b o : Nat} {v : AV} {l : List AV} {K : Fr -> Store -> Prop} (hc : cellsOf v = some [v]) (h1 : v.one = true) (hi : i.size = 1) (ho : st.obj b = some (.cells l)) (hl : o + 1 <= l.length)
    (hk : K A (st.setObj b (.cells (z7 l o [v])))) : Bg i A st (.av (.s (.pointer (some ⟨b, o, none⟩)))) v K := by
  unfold Bg
  rw [hc]
  show (bif Nat.beq 1 i.size && ([v].all AV.one) then _ else False)
  rw [hi]
  simp only [List.all_cons, h1, List.all_nil, Nat.beq_refl, Bool.and_self, cond_true]
  rw [ho]
  exact ⟨hl, D6 hk⟩
theorem y7 {i : TI} {A : Fr} {st st2 : Store} {b o : Nat} {v : AV} {l : List AV} {K : Fr -> Store -> Prop} (hc : cellsOf v = some [v]) (h1 : v.one = true) (hi : i.size = 1) (ho : st.obj b = some (.cells l)) (hl : o + 1 <= l.length)
    (he : st.setObj b (.cells (z7 l o [v])) = st2) (hk : K A st2) : Bg i A st (.av (.s (.pointer (some ⟨b, o, none⟩)))) v K :=
  Fu hc h1 hi ho hl (he ▸ hk)
theorem Fx {st : Store} {p q : Nat} {x y : AObj} (h : q ≠ p) : (st.setObj p x).setObj q y = (st.setObj q y).setObj p x := by
  unfold Store.setObj
  congr
  funext i
  by_cases hi : i = p
  · subst hi; simp [yz (Ne.symm h)]
  · simp [yz hi]
def u8 (b : UInt8) : AV := .s (.int .u8 b.toNat)
def int (n : Int) : AV := .s (.int .i64 n)
def u64 (n : Int) : AV := .s (.int .u64 n)
def bool (b : Bool) : AV := .s (.bool b)
def nil : AV := .s (.slice none 0 0)
/-- A list's elements as rows of cells. -/
def rws {α : Type} (f : α -> List AV) (l : List α) : List (List AV) := l.map f
def lst {α : Type} (k : Nat) (f : α -> List AV) (l : List α) : AV := .lst k (rws f l) none
section
variable {α : Type} {f : α -> List AV}
theorem zl (l : List α) : (rws f l).length = l.length := by simp [rws]
theorem zn {l : List α} {i : Nat} (h : i < l.length) : (rws f l)[i]? = some (f l[i]) := by simp [rws, h]
theorem Nw {l : List α} {i : Nat} (h : i < l.length) : rws f (l.take i) ++ [f l[i]] = rws f (l.take (i + 1)) := by grind[rws,List.take_succ_eq_append_getElem]
theorem Vz (a b : List α) : rws f a ++ rws f b = rws f (a ++ b) := by simp [rws]
theorem kh {l : List α} {i : Nat} (h : decide ((i : Int) < ((rws f l).length : Int)) = true) : i < l.length := by
 rw [zl] at h; grind
theorem k8 {l : List α} {i : Nat} (h : decide ((i : Int) < ((rws f l).length : Int)) = false) (h2 : i <= l.length) : i = l.length := by
 rw [zl] at h; grind
end
def u8C (b : UInt8) : List AV := [u8 b]
def yn (n : Int) : List AV := [int n]
def Db (l : List UInt8) : AV := lst 1 u8C l
def wc (l : List Int) : AV := lst 1 yn l
theorem isF {R : AV -> Store -> Prop} {b : Bool} {st : Store} (h : R (bool b) st) (hb : b = false) : R (bool false) st := by grind
theorem isT {R : AV -> Store -> Prop} {b : Bool} {st : Store} (h : R (bool b) st) (hb : b = true) : R (bool true) st := by grind
/-- The program's data. -/
structure Gnd where
 W : Int
 H : Int
 T : List UInt8
 deriving DecidableEq
structure Cmd where
 P : Int
 S : Int
 K : Int
 N : Int
 U : List Int
 T : Int
 W : Int
 H : Int
 X : Int
 Y : Int
 deriving DecidableEq
structure Frm where
 turn : Int
 C : List Cmd
 hash : Int
 deriving DecidableEq
structure Rep where
 P : Int
 G : Gnd
 F : List Frm
 deriving DecidableEq
def zr (g : Gnd) : List AV := [int g.W, int g.H, Db g.T]
def Cmd.fits (c : Cmd) : Prop := c.U.length <= 1000000000000
def Frm.fits (f : Frm) : Prop := f.C.length <= 1000000000000 /\ ∀ c ∈ f.C, c.fits
def Gnd.fits (g : Gnd) : Prop := g.T.length <= 1000000000000
def Rep.fits (r : Rep) : Prop := r.G.fits /\ r.F.length <= 1000000000000 /\ ∀ f ∈ r.F, f.fits
/-- What a replay's parts may be. -/
def zi (g : Gnd) : Prop := (1 <= g.W /\ g.W <= 128) /\ (1 <= g.H /\ g.H <= 128) /\ (g.T.length : Int) = g.W * g.H /\ ∀ t ∈ g.T, t.toNat <= 5
def xf (x y : Int) : Prop := (-1099511627776 <= x /\ x <= 1099511627776) /\ (-1099511627776 <= y /\ y <= 1099511627776)
/-- What of a command is of its kind. -/
def Cmd.only (c : Cmd) : Cmd :=
 if c.K = 1 then ⟨c.P, c.S, c.K, c.N, [], 0, 0, 0, c.X, c.Y⟩ else
 if c.K = 2 then ⟨c.P, c.S, c.K, 0, c.U, c.T, 0, 0, 0, 0⟩ else
 if c.K = 3 then ⟨c.P, c.S, c.K, 0, c.U, 0, 0, 0, 0, 0⟩ else
 if c.K = 4 then ⟨c.P, c.S, c.K, 0, [], c.T, c.W, c.H, 0, 0⟩ else
 if c.K = 5 then ⟨c.P, c.S, c.K, c.N, [], 0, 0, 0, 0, 0⟩ else
 if c.K = 6 then ⟨c.P, c.S, c.K, c.N, c.U, 0, 0, 0, 0, 0⟩ else
 if c.K = 7 then ⟨c.P, c.S, c.K, c.N, [], c.T, 0, 0, 0, 0⟩ else
 ⟨c.P, c.S, c.K, 0, [], 0, 0, 0, 0, 0⟩
/-- Lists of values, one by one. -/
def leL : List AV -> List AV -> Prop
 | [], [] => True
 | x :: xs, y :: ys => AV.le x y /\ leL xs ys
 | _, _ => False
theorem O6 : ∀ {xs ys : List AV}, leL xs ys -> xs.length = ys.length /\ ∀ (i : Nat) (x y : AV), xs[i]? = some x -> ys[i]? = some y -> AV.le x y := by
 intro xs
 induction xs with
 | nil =>
  intro ys h
  cases ys with
  | nil => simp
  | cons y ys => exact h.elim
 | cons x xs ih =>
  intro ys h
  cases ys with
  | nil => exact h.elim
  | cons y ys =>
   obtain ⟨h1, h2⟩ := ih h.2
   refine ⟨by simp [h1], fun i u v hu hv => ?_⟩
   cases i with
   | zero => simp at hu hv; subst hu hv; exact h.1
   | succ i => grind
theorem AV.le_aggL {xs ys : List AV} (h : leL xs ys) : AV.le (.agg xs) (.agg ys) := AV.le_agg (O6 h).1 (O6 h).2
theorem zoo {w : World} {T : Nat -> Nat -> Prop} {xs ys : List AV} {vs : List Value} (h : leL xs ys) (hr : Reads w T xs vs) : Reads w T ys vs := by
 obtain ⟨h1, h2⟩ := O6 h
 refine ⟨by rw [<- h1]; exact hr.1, fun i y v hy hv => ?_⟩
 have hi : i < xs.length := by grind
 exact h2 i xs[i] y (List.getElem?_eq_getElem hi) hy w T v (hr.2 i _ v (List.getElem?_eq_getElem hi) hv)
theorem ACalls.le {P : Program} {f : FuncId} {xs ys : List AV} {st : Store} {R : AV -> Store -> Prop} (h : leL xs ys) (hc : ACalls P f ys st R) : ACalls P f xs st R :=
 ⟨fun Oth M w vs sto hr => hc.out Oth M w vs sto (zoo h hr)⟩
theorem Vo {a b : Int} (h1 : 1 <= a /\ a <= 128) (h2 : 1 <= b /\ b <= 128) : 1 <= a * b /\ a * b <= 16384 := by
 have h3 : a * b <= 128 * 128 := Int.mul_le_mul h1.2 h2.2 (by omega) (by omega)
 have h4 : 0 < a * b := Int.mul_pos (by omega) (by omega)
 omega
def Gu (a b : Int) : Int := if a < b then -1 else if a > b then 1 else 0
end Go.V
namespace Go.V
theorem bm (a q m : Nat) (h : a < 2 ^ m) : a ||| q * 2 ^ m = a + q * 2 ^ m := by grind[Nat.two_pow_add_eq_or_of_lt,Nat.mul_comm]
theorem ib (a b : Nat) (ha : a < 2 ^ 64) (hb : b < 2 ^ 64) : j5 .or .i64 a b = IntKind.i64.wrap ((a ||| b : Nat) : Int) /\ j5 .or .u64 a b = IntKind.u64.wrap ((a ||| b : Nat) : Int) := by
 have h : ∀ a : Nat, a < 2 ^ 64 -> (BitVec.ofInt 64 (a : Int)).toNat = a := by simp
 constructor
 ·show IntKind.i64.wrap ((BitVec.ofInt 64 (a : Int) ||| BitVec.ofInt 64 (b : Int)).toNat : Int) = _
  grind
 ·show IntKind.u64.wrap ((BitVec.ofInt 64 (a : Int) ||| BitVec.ofInt 64 (b : Int)).toNat : Int) = _
  grind
theorem ks {v : Int} (h : 0 <= v) (h2 : v < 18446744073709551616) : IntKind.u64.wrap v = v := by grind[IntKind.wrap,IntKind.bits,IntKind.signed]
theorem zpz {n : Int} {q m : Nat} (h0 : 0 <= n) (h1 : n < 2 ^ m) (h2 : n + q * 2 ^ m < 18446744073709551616) : j5 .or .u64 n (q * 2 ^ m) = n + q * 2 ^ m := by
 obtain ⟨a, rfl⟩ := Int.eq_ofNat_of_zero_le h0
 have e : ((q : Int) * 2 ^ m) = ((q * 2 ^ m : Nat) : Int) := by simp
 have h1' : a < 2 ^ m := by grind
 rw [e] at h2 ⊢
 have h3 : a + q * 2 ^ m < 18446744073709551616 := by omega
 rw [(ib a (q * 2 ^ m) (by omega) (by omega)).2, bm a q m h1', ks (by omega) (by omega)]
 simp
/-- P4.2: a number: it, its bytes, the error. -/
def dp : List UInt8 -> Nat -> Int -> Int × Nat × Int
 | [], _, _ => (0, 0, 11)
 | c :: l, i, n =>
  if (128 <= c.toNat /\ i = 8) \/ (c.toNat = 0 /\ 0 < i) then (0, 0, 1)
  else if c.toNat < 128 then (n + (c.toNat % 128 : Nat) * 128 ^ i, i + 1, 0)
  else dp l (i + 1) (n + (c.toNat % 128 : Nat) * 128 ^ i)
def Pg (b : List UInt8) : Int × Nat × Int := dp b 0 0
/-- A number that may be below 0, of one that may not. -/
def zig (n : Int) : Int := if n % 2 = 0 then n / 2 else -(n / 2) - 1
def zts (b : List UInt8) : Int × Nat × Int := (zig (Pg b).1, (Pg b).2.1, (Pg b).2.2)
/-- The program's reader: what is left, and what is wrong. -/
structure Rd where
 b : List UInt8
 e : Int
 deriving DecidableEq
def Rd.fail (s : Rd) (e : Int) : Rd := if s.e = 0 then ⟨s.b, e⟩ else s
def Rd.must (s : Rd) (ok : Bool) : Rd := if ok then s else s.fail 1
def Rd.take (s : Rd) (n : Int) (k : Nat) (e : Int) : Int × Rd := if (s.fail e).e ≠ 0 then (0, s.fail e) else (n, ⟨s.b.drop k, 0⟩)
def inB (n lo hi : Int) : Bool := decide (lo <= n /\ n <= hi)
def Rd.got (s : Rd) (g : Int × Nat × Int) (lo hi : Int) : Int × Rd :=
 if s.e ≠ 0 then (0, s) else ((s.take g.1 g.2.1 g.2.2).1, (s.take g.1 g.2.1 g.2.2).2.must (inB (s.take g.1 g.2.1 g.2.2).1 lo hi))
def Rd.int (s : Rd) (lo hi : Int) : Int × Rd := s.got (zts s.b) lo hi
def Rd.byte (s : Rd) : UInt8 × Rd :=
 if s.e ≠ 0 then (0, s) else match s.b with | [] => (0, ⟨[], 11⟩) | c :: l => (c, ⟨l, 0⟩)
def Rd.same (s : Rd) (l : List UInt8) : Rd := l.foldl (fun s c => s.byte.2.must (s.byte.1 == c)) s
def Rd.fin (s : Rd) : Rd := s.must (s.b.length == 0)
end Go.V
namespace Go.V
end Go.V
namespace Go.V
end Go.V
namespace Go.V
end Go.V
namespace Go.V
end Go.V
namespace Go.V
end Go.V
namespace Go.V
end Go.V
namespace Go.V
end Go.V
namespace Go.V
/-- A number as it counts. -/
def nrm (a : Int) : Int := if a < -9223372036854775807 then -9223372036854775807 else a
theorem zqg (n : Int) : max2 n (Int.negSucc 9223372036854775806) = nrm n := by simp_all[max2,nrm]
theorem jg {n : Int} (h : ye n) : -9223372036854775807 <= nrm n /\ nrm n <= 9223372036854775807 := by grind[ye,nrm]
theorem wx {n : Int} (h : -9223372036854775807 <= n) : nrm n = n := by unfold nrm; omega
theorem zqf (n : Int) : nrm (nrm n) = nrm n := by unfold nrm; omega
def xo (s : Int) : Int := if s > 9223372036854775807 then 9223372036854775807 else if s < -9223372036854775807 then -9223372036854775807 else s
def yo (a b : Int) : Int := xo (nrm a + nrm b)
def yh (a b : Int) : Int := yo a (-nrm b)
theorem Lz (s : Int) : -9223372036854775807 <= xo s /\ xo s <= 9223372036854775807 := by grind[xo]
theorem Pr (a b : Int) : -9223372036854775807 <= yo a b /\ yo a b <= 9223372036854775807 := Lz _
theorem Pi (a b : Int) : -9223372036854775807 <= yh a b /\ yh a b <= 9223372036854775807 := Lz _
theorem Lm (a b : Int) : ye (yo a b) := by have := Pr a b; unfold ye; omega
theorem C6 (a b : Int) : ye (yh a b) := by have := Pi a b; unfold ye; omega
/-- How great. -/
def asz (a : Int) : Int := if nrm a < 0 then -nrm a else nrm a
theorem De {n : Int} (h : ye n) : 0 <= asz n /\ asz n <= 9223372036854775807 := by
 have := jg h
 unfold asz; omega
/-- A number of 128 bits. -/
def q9 (n : Int) : List AV := [u64 (n / 18446744073709551616), u64 (n % 18446744073709551616)]
theorem Fh (v : Int) : IntKind.u64.wrap v = v % 18446744073709551616 := by rfl
theorem G6 {a : Int} (h : 0 <= a) : j5 .and .u64 a 4294967295 = a % 4294967296 := by
 obtain ⟨n, rfl⟩ := Int.eq_ofNat_of_zero_le h
 show IntKind.u64.wrap ((BitVec.ofInt 64 (n : Int) &&& BitVec.ofInt 64 (4294967295 : Int)).toNat : Int) = _
 rw [Fh]
 have e1 : BitVec.ofInt 64 (n : Int) = BitVec.ofNat 64 n := BitVec.ofInt_natCast ..
 have e2 : BitVec.ofInt 64 (4294967295 : Int) = BitVec.ofNat 64 4294967295 := rfl
 rw [e1, e2, BitVec.toNat_and, BitVec.toNat_ofNat, BitVec.toNat_ofNat]
 have e3 : (4294967295 : Nat) % 2 ^ 64 = 2 ^ 32 - 1 := by decide
 rw [e3, Nat.and_two_pow_sub_one_eq_mod]
 omega
theorem zkt (a : Int) : a.fdiv (2 ^ (min (32 : Int).toNat IntKind.u64.bits)) = a / 4294967296 := by
 have : (min (32 : Int).toNat IntKind.u64.bits) = 32 := by decide
 grind
theorem zpk : (2 : Int) ^ (min (32 : Int).toNat IntKind.u64.bits) = 4294967296 := by decide
theorem zum (a : Int) : a.fdiv 4294967296 = a / 4294967296 := Int.fdiv_eq_ediv_of_nonneg _ (by decide)
theorem Iv {n hi lo : Int} (h1 : hi = n / 18446744073709551616) (h2 : lo = n % 18446744073709551616) : [AV.s (.int .u64 hi), AV.s (.int .u64 lo)] = q9 n := by subst h1 h2; rfl
theorem zp1 {a b : Int} (ha : 0 <= a) (hb : 0 <= b) (hb2 : b < 4294967296) : j5 .or .u64 ((a * 4294967296) % 18446744073709551616) b = (a * 4294967296) % 18446744073709551616 + b := by
 have e : (a * 4294967296) % 18446744073709551616 = (a % 4294967296) * 2 ^ 32 := by omega
 obtain ⟨q, hq⟩ := Int.eq_ofNat_of_zero_le (show 0 <= a % 4294967296 by omega)
 have e2 := @zpz b q 32 hb (by omega) (by omega)
 have comm : ∀ x y : Int, j5 .or .u64 x y = j5 .or .u64 y x := by grind[j5]
 grind
/-- The parts of a product. -/
theorem So (x y : Int) (hx : 0 <= x) (hx2 : x < 18446744073709551616) (hy : 0 <= y) (hy2 : y < 18446744073709551616) :
  ∃ p00 p10 p01 p11 : Int, p00 = (x % 4294967296) * (y % 4294967296) /\ p10 = (x / 4294967296) * (y % 4294967296) /\ p01 = (x % 4294967296) * (y / 4294967296) /\ p11 = (x / 4294967296) * (y / 4294967296) ∧
   x * y = p11 * 18446744073709551616 + (p10 + p01) * 4294967296 + p00 /\ 0 <= p00 /\ p00 <= 18446744065119617025 /\ 0 <= p10 /\ p10 <= 18446744065119617025 /\ 0 <= p01 /\ p01 <= 18446744065119617025 /\ 0 <= p11 /\ p11 <= 18446744065119617025 := by
 have b : ∀ u v : Int, 0 <= u -> u <= 4294967295 -> 0 <= v -> v <= 4294967295 -> 0 <= u * v /\ u * v <= 18446744065119617025 := by
  intro u v h1 h2 h3 h4
  refine ⟨Int.mul_nonneg h1 h3, ?_⟩
  have h5 : u * v <= 4294967295 * 4294967295 := Int.mul_le_mul h2 h4 h3 (by decide)
  exact h5
 refine ⟨_, _, _, _, rfl, rfl, rfl, rfl, ?_, ?_⟩
 ·grind
 ·obtain ⟨h1, h2⟩ := b (x % 4294967296) (y % 4294967296) (by omega) (by omega) (by omega) (by omega)
  obtain ⟨h3, h4⟩ := b (x / 4294967296) (y % 4294967296) (by omega) (by omega) (by omega) (by omega)
  obtain ⟨h5, h6⟩ := b (x % 4294967296) (y / 4294967296) (by omega) (by omega) (by omega) (by omega)
  obtain ⟨h7, h8⟩ := b (x / 4294967296) (y / 4294967296) (by omega) (by omega) (by omega) (by omega)
  omega
/-- A place, a way. -/
abbrev Vc := Int × Int
def zy (p : Vc) : List AV := [int p.1, int p.2]
def Vc.ok (p : Vc) : Prop := ye p.1 /\ ye p.2
def y6 (a b : Vc) : Vc := (yh a.1 b.1, yh a.2 b.2)
def sqr (v : Vc) : Int := asz v.1 * asz v.1 + asz v.2 * asz v.2
/-- Nearer than 'r'. -/
def near (a b : Vc) (r : Int) : Bool := decide (0 < r /\ sqr (y6 a b) < r * r)
end Go.V
namespace Go.V
/-- Two stores side by side. -/
def Store.un (a g : Store) : Store :=
  ⟨fun b => match g.obj b with | some x => some x | none => a.obj b, fun b => match g.tok b with | some x => some x | none => a.tok b⟩
def Store.has (g : Store) (b : Nat) : Prop := g.obj b ≠ none \/ g.tok b ≠ none
def zv (a g : Store) : Prop := ∀ b, a.has b -> ¬ g.has b
theorem Bk {g : Store} {b : Nat} (h : ¬ g.has b) : g.obj b = none /\ g.tok b = none := by
  constructor
  · cases h1 : g.obj b with
    | none => rfl
    | some x => exact absurd (Or.inl (by grind)) h
  · cases h1 : g.tok b with
    | none => rfl
    | some x => exact absurd (Or.inr (by grind)) h
theorem Bq {g : Store} {b : Nat} {x : AObj} (h : g.obj b = some x) : g.has b := .inl (by grind)
theorem Gh {g : Store} {b : Nat} {x : Nat} (h : g.tok b = some x) : g.has b := .inr (by grind)
theorem fresh_iff {g : Store} {b : Nat} : Fresh g b ↔ ¬ g.has b :=
  ⟨fun ⟨h1, h2⟩ h => h.elim (fun h => h h1) (fun h => h h2), Bk⟩
theorem ze {a g : Store} {b : Nat} {x : AObj} (h : g.obj b = some x) : (a.un g).obj b = some x := by simp [Store.un, h]
theorem qj {a g : Store} {b : Nat} {x : AObj} (hd : zv a g) (h : a.obj b = some x) : (a.un g).obj b = some x := by
  simp [Store.un, (Bk (hd b (Bq h))).1, h]
theorem I2 {a g : Store} {b : Nat} {x : Nat} (hd : zv a g) (h : a.tok b = some x) : (a.un g).tok b = some x := by
  simp [Store.un, (Bk (hd b (Gh h))).2, h]
theorem Cf {a g : Store} {b : Nat} {x : Nat} (h : g.tok b = some x) : (a.un g).tok b = some x := by simp [Store.un, h]
theorem Sh {a g : Store} {b : Nat} {x : AObj} (h : (a.un g).obj b = some x) : g.obj b = some x \/ (g.obj b = none /\ a.obj b = some x) := by
  simp only [Store.un] at h
  grind
theorem Sg {a g : Store} {b : Nat} {x : Nat} (h : (a.un g).tok b = some x) : g.tok b = some x \/ (g.tok b = none /\ a.tok b = some x) := by
  simp only [Store.un] at h
  grind
theorem un_has {a g : Store} {b : Nat} : (a.un g).has b ↔ a.has b \/ g.has b := by grind[Store.has,Store.un]
section
variable {P : Program}
/-- What a call does with its own, beside what it does not touch. -/
theorem ACalls.frame {f : FuncId} {xs : List AV} {a g : Store} {R R' : AV -> Store -> Prop} (hd : zv a g) (h : ACalls P f xs a R) (hR : ∀ r a', R r a' -> zv a' g -> R' r (a'.un g)) : ACalls P f xs (a.un g) R' := by
  refine ⟨fun Oth M w vs sto hr => ?_⟩
  let gM : Nat -> Nat -> Prop := fun b o => M b o /\ g.has b
  let M1 : Nat -> Nat -> Prop := fun b o => M b o /\ ¬ g.has b
  let O1 : Nat -> Nat -> Prop := fun b o => Oth b o \/ gM b o
  have hT : (fun (b o : Nat) => M1 b o \/ O1 b o) = fun b o => M b o \/ Oth b o := by grind
  have sto1 : StoreOK a O1 M1 w :=
    { obj := fun b x hx => by
        rw [hT]
        have := sto.obj b x (qj hd hx)
        exact ⟨this.1, fun o => ⟨this.2 o, hd b (Bq hx)⟩⟩
      tok := fun b top hx => by
        obtain ⟨c, e, fr, h1, h2, h3, h4⟩ := sto.tok b top (I2 hd hx)
        exact ⟨c, e, fr, h1, h2, h3, fun o ho => ⟨h4 o ho, hd b (Gh hx)⟩⟩
      mlt := fun b o hm => sto.mlt b o hm.1
      olt := fun b o hm => by
        rcases hm with h | h
        · exact sto.olt b o h
        · exact sto.mlt b o h.1
      dis := fun b o hO hM => by
        rcases hO with h | h
        · exact sto.dis b o h hM.1
        grind }
  have h1 := h.out O1 M1 w vs sto1 (by grind)
  have key : ∀ v w', qe a R O1 M1 w v w' -> qe (a.un g) R' Oth M w v w' := by
    rintro v w' ⟨r, a', M2, hRr, hv, hsto, hchg⟩
    let M' : Nat -> Nat -> Prop := fun b o => M2 b o \/ gM b o
    have hT2 : (fun (b o : Nat) => M2 b o \/ O1 b o) = fun b o => M' b o \/ Oth b o := by grind
    have hglt : ∀ b, g.has b -> b < w.heap.size := by
      intro b hb
      rcases hb with hb | hb
      · cases hx : g.obj b with
        | none => grind
        | some x => exact sto.mlt b 0 ((sto.obj b x (ze hx)).2 0)
      · cases hx : g.tok b with
        | none => grind
        | some x =>
          obtain ⟨c, e, fr, h1, _⟩ := sto.tok b x (Cf hx)
          grind
    have hno : ∀ b o, M2 b o -> ¬ g.has b := fun b o hm hg => (hchg.sub b o hm (hglt b hg)).2 hg
    have hd' : zv a' g := by
      intro b hb
      rcases hb with hb | hb
      · cases hx : a'.obj b with
        | none => grind
        | some x => exact hno b 0 ((hsto.obj b x hx).2 0)
      · cases hx : a'.tok b with
        | none => grind
        | some x =>
          obtain ⟨c, e, fr, h1, h2, h3, h4⟩ := hsto.tok b x hx
          grind
    have hblk : ∀ b, g.has b -> w'.heap[b]? = w.heap[b]? := fun b hg => hchg.blk b (hglt b hg) fun o hm => hm.2 hg
    refine ⟨r, a'.un g, M', hR r a' hRr hd', by grind, ?_, ?_⟩
    · refine { obj := fun b x hx => ?_, tok := fun b top hx => ?_, mlt := fun b o hm => ?_, olt := fun b o hm => Nat.lt_of_lt_of_le (sto.olt b o hm) hchg.size, dis := fun b o hO hM => ?_ }
      · rcases Sh hx with hx | ⟨_, hx⟩
        · have h5 := sto.obj b x (ze hx)
          have hk := hchg.keeps (Oth := O1)
          grind[ObjRel.same,Bq]
        · have h5 := hsto.obj b x hx
          grind
      · rcases Sg hx with hx | ⟨_, hx⟩
        · obtain ⟨c, e, fr, h1, h2, h3, h4⟩ := sto.tok b top (Cf hx)
          grind[Gh]
        · obtain ⟨c, e, fr, h1, h2, h3, h4⟩ := hsto.tok b top hx
          grind
      · rcases hm with h | h
        · exact hsto.mlt b o h
        grind
      · rcases hM with h | h
        · exact hsto.dis b o (.inl hO) h
        · exact sto.dis b o hO h.1
    · exact
        { size := hchg.size
          keep := fun b o hb hm => hchg.keep b o hb fun h => hm h.1
          blk := fun b hb hm => hchg.blk b hb fun o h => hm o h.1
          shp := hchg.shp
          sub := fun b o hm hb => by
            rcases hm with h | h
            · exact (hchg.sub b o h hb).1
            grind
          tape := hchg.tape
          os := hchg.os
          output := hchg.output }
  generalize (callFunc f vs).run P w = res at h1
  cases res with
  | ok n w' =>
    cases n with
    | enter f' args => exact Calls.mono h1 fun e w'' ⟨v, he, hv⟩ => ⟨v, he, key _ _ hv⟩
    | value v => exact key _ _ h1
    | _ => exact h1
  | _ => exact h1
/-- A value that reads by no cell. -/
def d9 (r : AV) : Prop := ∀ w T w' T' v, VRel w T r v -> VRel w' T' r v
/-- A call that only looks at what is there, in its plain form. -/
theorem ACalls.read {f : FuncId} {xs ys : List AV} {g : Store} {Q : AV -> Prop} {R : AV -> Store -> Prop}
    (hb : ∀ Oth M w vs, StoreOK g Oth M w -> Reads w (fun b o => M b o \/ Oth b o) xs vs -> Reads w (fun b o => (M b o \/ Oth b o) /\ g.obj b = none) ys vs)
    (h : ACalls P f ys Store.empty fun r _ => Q r) (hf : ∀ r, Q r -> d9 r) (hR : ∀ r, Q r -> R r g) : ACalls P f xs g R := by
  refine ⟨fun Oth M w vs sto hr => ?_⟩
  let O1 : Nat -> Nat -> Prop := fun b o => (M b o \/ Oth b o) /\ g.obj b = none
  have sto0 : StoreOK Store.empty O1 (fun _ _ => False) w :=
    { obj := fun b x hx => (by cases hx), tok := fun b x hx => (by cases hx), mlt := fun _ _ h => h.elim, olt := fun b o h => Or.elim h.1 (sto.mlt b o) (sto.olt b o), dis := fun _ _ _ h => h }
  have h1 := h.out O1 (fun _ _ => False) w vs sto0 (by grind)
  have key : ∀ v w', qe Store.empty (fun r _ => Q r) O1 (fun _ _ => False) w v w' -> qe g R Oth M w v w' := by
    rintro v w' ⟨r, a', M2, hQ, hv, hsto, hchg⟩
    have hg : Grow w w' := ⟨hchg.size, fun b hb => hchg.blk b hb fun _ h => h, hchg.tape, hchg.os, hchg.output⟩
    exact ⟨r, g, M, hR r hQ, hf r hQ _ _ _ _ _ hv, sto.grow hg, hg.chg M⟩
  generalize (callFunc f vs).run P w = res at h1
  cases res with
  | ok n w' =>
    cases n with
    | enter f' args => exact Calls.mono h1 fun e w'' ⟨v, he, hv⟩ => ⟨v, he, key _ _ hv⟩
    | value v => exact key _ _ h1
    | _ => exact h1
  | _ => exact h1
/-- A slice over an object reads as a list for the time that the object rests. -/
theorem g7 {w : World} {T : Nat -> Nat -> Prop} {b n cap k : Nat} {rows : List (List AV)} {pad : List AV} (ho : CellsRel w T (rows.flatten ++ pad) b) {T' : Nat -> Nat -> Prop} (hT : ∀ o, ¬ T' b o) (hn : rows.length = n) (hcap : n <= cap)
    (hk : ∀ row ∈ rows, row.length = k) (hall : ∀ row ∈ rows, ∀ x ∈ row, ∃ v, x = AV.s v /\ qg v = true) : VRel w T' (.lst k rows none) (.slice (some ⟨b, 0, none⟩) n cap) := by
  obtain ⟨cs, e0, fr, hb0, huf, hlen, hrel⟩ := ho
  subst hn
  have at1 : ∀ (i : Nat) (row : List AV) (j : Nat) (x : AV), rows[i]? = some row -> row[j]? = some x -> ∃ v, x = .s v /\ qg v = true /\ cs[i * k + j]? = some v := by
    intro i row j x hi hj
    obtain ⟨v, rfl, hv⟩ := hall row (List.mem_of_getElem? hi) x (List.mem_of_getElem? hj)
    have h5 := D7 hk hi hj
    have hlt := (List.getElem?_eq_some_iff.1 h5).1
    have h6 : (rows.flatten ++ pad)[i * k + j]? = some (.s v) := by grind
    have hlt2 : i * k + j < cs.size := by grind
    have h7 := hrel _ _ cs[i * k + j] h6 (by simp [hlt2])
    have : cs[i * k + j] = v := by generalize cs[i * k + j] = y at h7; cases h7; rfl
    grind
  refine VRel.lst rows none b 0 cap k (fun p => cs.getD p undef) hcap (fun i row hi => hk row (List.mem_of_getElem? hi)) (fun _ h => by cases h) (fun i row j x hi hj => ?_) (fun i row j x hi hj => ?_) (fun i row j x hi hj => ?_)
  · obtain ⟨v, rfl, hv, h5⟩ := at1 i row j x hi hj
    simp_all[World.cell?]
  · obtain ⟨v, rfl, hv, h5⟩ := at1 i row j x hi hj
    simp_all
  · obtain ⟨v, rfl, hv, h5⟩ := at1 i row j x hi hj
    rw [Array.getD_eq_getD_getElem?, h5]; exact .s _
/-- One store says less than another one. -/
def AObj.le (x y : AObj) : Prop := ∀ w T b, ObjRel w T x b -> ObjRel w T y b
structure Store.Le (st st' : Store) : Prop where
  obj : ∀ b y, st'.obj b = some y -> ∃ x, st.obj b = some x /\ AObj.le x y
  tok : ∀ b x, st'.tok b = some x -> st.tok b = some x
theorem AObj.le_refl (x : AObj) : AObj.le x x := fun _ _ _ h => h
theorem Store.Le.refl (st : Store) : st.Le st := ⟨fun b y h => ⟨y, h, AObj.le_refl y⟩, fun _ _ h => h⟩
theorem Store.Has.toLe {st st' : Store} (h : st.Has st') : st.Le st' := ⟨fun b y hy => ⟨y, h.obj b y hy, AObj.le_refl y⟩, h.tok⟩
theorem Store.Le.trans {a b c : Store} (h : a.Le b) (h' : b.Le c) : a.Le c :=
  ⟨fun i z hz => by
    obtain ⟨y, hy, h2⟩ := h'.obj i z hz
    obtain ⟨x, hx, h3⟩ := h.obj i y hy
    exact ⟨x, hx, fun w T b k => h2 w T b (h3 w T b k)⟩, fun i x hx => h.tok i x (h'.tok i x hx)⟩
theorem StoreOK.weakenLe {st st' : Store} {Oth M : Nat -> Nat -> Prop} {w : World} (h : StoreOK st Oth M w) (hh : st.Le st') : StoreOK st' Oth M w :=
  ⟨fun b y k => by
    obtain ⟨x, hx, hle⟩ := hh.obj b y k
    exact ⟨hle _ _ _ (h.obj b x hx).1, (h.obj b x hx).2⟩, fun b x k => h.tok b x (hh.tok b x k), h.mlt, h.olt, h.dis⟩
/-- A contract that says less. -/
theorem ACalls.post {f : FuncId} {xs : List AV} {st st0 : Store} {R R' : AV -> Store -> Prop} (h : ACalls P f xs st0 R) (h0 : st.Le st0) (hR : ∀ r st', R r st' -> ∃ r' st'', AV.le r r' /\ st'.Le st'' /\ R' r' st'') : ACalls P f xs st R' := by
  refine ⟨fun Oth M w vs sto hr => ?_⟩
  have h1 := h.out Oth M w vs (sto.weakenLe h0) hr
  have key : ∀ v w', qe st0 R Oth M w v w' -> qe st R' Oth M w v w' := by
    rintro v w' ⟨r, a', M2, hQ, hv, hsto, hchg⟩
    obtain ⟨r', st'', h2, h3, h4⟩ := hR r a' hQ
    exact ⟨r', st'', M2, h4, h2 _ _ _ hv, hsto.weakenLe h3, hchg⟩
  generalize (callFunc f vs).run P w = res at h1
  cases res with
  | ok n w' =>
    cases n with
    | enter f' args => exact Calls.mono h1 fun e w'' ⟨v, he, hv⟩ => ⟨v, he, key _ _ hv⟩
    | value v => exact key _ _ h1
    | _ => exact h1
  | _ => exact h1
theorem ACalls.imp {f : FuncId} {xs : List AV} {st : Store} {R R' : AV -> Store -> Prop} (h : ACalls P f xs st R) (hR : ∀ r st', R r st' -> R' r st') : ACalls P f xs st R' :=
  h.post (Store.Le.refl st) fun r st' hr => ⟨r, st', AV.le_refl r, Store.Le.refl st', hR r st' hr⟩
/-- A contract off a walk in words of worlds. -/
theorem ACalls.of_calls {f : FuncId} {fn : Func} {code : Code} {xs : List AV} {st : Store} {R : AV -> Store -> Prop} (hf : P.funcs[f]? = some fn) (hb : fn.body = some code) (hname : (fn.name == "runtime.NumGoroutine") = false)
    (h : ∀ (Oth M : Nat -> Nat -> Prop) (w : World) (vs : Array Value), StoreOK st Oth M w -> Reads w (fun b o => M b o \/ Oth b o) xs vs.toList -> Calls P f vs w fun e w' => ∃ v, e = .returned v /\ qe st R Oth M w v w') : ACalls P f xs st R := by
  refine ⟨fun Oth M w vs sto hr => ?_⟩
  have hrun : (callFunc f vs).run P w = .ok (.enter f vs) w := by simp_all[callFunc]
  rw [hrun]
  exact h Oth M w vs sto hr
/-- A contract off what a function without a text is said to do. -/
theorem ACalls.of_value {f : FuncId} {xs : List AV} {st : Store} {R : AV -> Store -> Prop}
    (h : ∀ (Oth M : Nat -> Nat -> Prop) (w : World) (vs : Array Value), StoreOK st Oth M w -> Reads w (fun b o => M b o \/ Oth b o) xs vs.toList -> ∃ v w', (callFunc f vs).run P w = .ok (.value v) w' /\ qe st R Oth M w v w') : ACalls P f xs st R := by
  refine ⟨fun Oth M w vs sto hr => ?_⟩
  obtain ⟨v, w', h1, h2⟩ := h Oth M w vs sto hr
  rw [h1]
  exact h2
end
/-- Once for all ways; the way to the place may be cut. -/
theorem AWp.meetA {P : Program} {c : Cfg} {σ : Type} (H : Meet σ) {x y : Code} {Q : Exit -> Fr -> Store -> Prop} {A : Fr} {st : Store} (hx : AWp P c x (I3 H.at Q) A st)
    (hy : ∀ s st', H.inv s st' -> AWp P c y Q (Cr (H.t s) (H.bx s)) st') : AWp P c (.seq x y) Q A st := by
  refine AWp.seq (hx.mono fun e A' st' h => ?_)
  cases e with
  | normal =>
    obtain ⟨s, h1, h2, h3⟩ := h
    exact AWp.weaken (hy s st' h1) h2 h3 (Store.Has.refl st')
  | _ => exact h
/-- A test whose ways are not yet walked. -/
theorem AWp.cond {P : Program} {c : Cfg} {x : Operand} {p q : Code} {Q : Exit -> Fr -> Store -> Prop} {A : Fr} {st : Store} (t : Bool) (ht : A.ev x = .av (.s (.bool t))) (h : vl t (AWp P c p Q A st) (AWp P c q Q A st)) : AWp P c (.cond x p q) Q A st := by
  refine ⟨fun Oth M a w sim => ?_⟩
  have hv : a.eval x = .bool t := by
    obtain ⟨β, s⟩ := sim
    exact VRel.eq_s (yv s.env ht)
  refine wpIn_cond hv ?_
  cases t with
  | true => exact (AWp.out (show AWp P c p Q A st from h)) Oth M a w sim
  | false => exact (AWp.out (show AWp P c q Q A st from h)) Oth M a w sim
section
variable {P : Program} {c : Cfg} {I : Info} {w : World} {T : Nat -> Nat -> Prop}
def cy : Ty -> Bool
  | .int _ => true
  | _ => false
/-- A value that may be asked for in a map. -/
def Hy (I : Info) (kt : TypeId) (k : AV) : Bool :=
  match I kt with
  | none => false
  | some i => match i.ty, k with
    | .int _, _ => true
    | .bool, _ => true
    | .struct fs, .agg cs => fs.all fun f => match I f.2 with | some j => cy j.ty && (vr j (cs.drop f.1)).isSome | none => false
    | _, _ => false
theorem ge {kt : TypeId} {k : IntKind} (h : P.underlying kt = some (.int k)) (v : Value) (e : Bool) (n : Nat) : (Instr.checkKey e (n + 1) kt v).run P w = .ok () w := by simp_all[Instr.checkKey,ya]
theorem zwa {kt : TypeId} (h : P.underlying kt = some .bool) (v : Value) (e : Bool) (n : Nat) : (Instr.checkKey e (n + 1) kt v).run P w = .ok () w := by simp_all[Instr.checkKey,ya]
theorem Ra (hI : yk P I) {kt : TypeId} {k : AV} {kv : Value} (h : Hy I kt k = true) (hv : VRel w T k kv) (e : Bool) : (Instr.checkKey e 10000 kt kv).run P w = .ok () w := by
  unfold Hy at h
  cases hi : I kt with
  | none => grind
  | some i =>
    rw [hi] at h
    have ht := hI kt i hi
    simp only at h
    split at h
    · rename_i k' hy; exact ge (Fm ht hy) kv e 9999
    · grind[zwa,Sk]
    · rename_i fs cs hy
      obtain ⟨cv, rfl, hr⟩ := Aj hv
      obtain ⟨a, ha1, ha2⟩ := Fk ht hy
      rw [show (10000 : Nat) = 9999 + 1 from rfl, Instr.checkKey]
      simp only [Sem.run_bind, ya ha1, Result.andThen_ok]
      rw [<- Array.forIn_toList]
      subst ha2
      clear ha1 hy
      generalize a.toList = L at h
      induction L with
      | nil => simp
      | cons f L ih =>
        simp only [List.map_cons, List.all_cons, Bool.and_eq_true] at h
        obtain ⟨h1, h2⟩ := h
        cases hj : I f.type with
        | none => grind
        | some j =>
          simp only [hj, Bool.and_eq_true] at h1
          obtain ⟨h3, h4⟩ := h1
          obtain ⟨x, hx⟩ := Option.isSome_iff_exists.1 h4
          obtain ⟨v, r1, r2⟩ := Hs (hI _ _ hj) hr hx
          have hk : ∃ k, j.ty = .int k := by
            unfold cy at h3
            grind
          obtain ⟨k, hk⟩ := hk
          have r3 := ge (w := w) (Fm (hI _ _ hj) hk) v e 9998
          simp_all
    · cases h
theorem zna {kt : TypeId} {d : TypeDesc} (hd : P.underlying kt = some d) {a b : Value} {r : Bool} (h : Instr.sameNow d a b = some r) (D : Nat) : (Op.equalIn (D + 1) kt a b).run P w = .ok r w := by
  unfold Instr.sameNow at h
  split at h
  · simp_all[Op.equalIn,ya]
  · simp_all[Op.equalIn,ya]
  · simp_all[Op.equalIn,ya]
  · cases h
/-- The first entry with the key. -/
theorem Pm (hI : yk P I) {kt : TypeId} {k : AV} {kv : Value} (hv : VRel w T k kv) (q : AV × AV -> Bool) {es : List (AV × AV)} {ms : List MapEntry} (hl : es.length = ms.length)
    (hr : ∀ (i : Nat) (x : AV × AV) (y : MapEntry), es[i]? = some x -> ms[i]? = some y -> VRel w T x.1 y.key) (hq : ∀ e ∈ es, Ab I 5 kt k e.1 = some (q e)) (hkt : (I kt).isSome) :
    ∃ r, (Instr.findKey kt kv ms).run P w = .ok r w /\ ((r = none /\ es.findIdx? q = none) \/ ∃ i e m, r = some (i, m.val) /\ es.findIdx? q = some i /\ es[i]? = some e /\ ms[i]? = some m /\ q e = true) := by
  have eqrun : ∀ (i : Nat) (e : AV × AV) (m : MapEntry), es[i]? = some e -> ms[i]? = some m -> (Op.equal kt kv m.key).run P w = .ok (q e) w := fun i e m he hm =>
    er hI 5 kt k e.1 (q e) (hq e (List.mem_of_getElem? he)) 10000 (by omega) kv m.key hv (hr i e m he hm)
  obtain ⟨ik, hik⟩ := Option.isSome_iff_exists.1 hkt
  obtain ⟨d, hd, _⟩ := (hI kt ik hik).und
  have same : ∀ (i : Nat) (e : AV × AV) (m : MapEntry) (b : Bool), es[i]? = some e -> ms[i]? = some m -> Instr.sameNow d kv m.key = some b -> b = q e := by
    intro i e m b he hm hs
    have h1 := eqrun i e m he hm
    have h2 : (Op.equal kt kv m.key).run P w = .ok b w := zna hd hs 9999
    grind
  have res : ∀ (es : List (AV × AV)) (ms : List MapEntry) (i0 : Nat), es.length = ms.length ->
      (∀ (i : Nat) (e : AV × AV) (m : MapEntry), es[i]? = some e -> ms[i]? = some m -> (Op.equal kt kv m.key).run P w = .ok (q e) w /\ ∀ b, Instr.sameNow d kv m.key = some b -> b = q e) ->
      ∃ r, ((r = none /\ es.findIdx? q = none) \/ ∃ i e m, r = some (i0 + i, m.val) /\ es.findIdx? q = some i /\ es[i]? = some e /\ ms[i]? = some m /\ q e = true) /\ (Instr.findAsking kt kv ms i0).run P w = .ok r w ∧
        ∀ r', Instr.findNow d kv ms i0 = some r' -> r' = r := by
    intro es
    induction es with
    | nil =>
      intro ms i0 hl _
      cases ms with
      | cons m ms => simp at hl
      | nil => simp_all[Instr.findAsking,Instr.findNow]
    | cons e es ih =>
      intro ms i0 hl hall
      cases ms with
      | nil => simp at hl
      | cons m ms =>
        obtain ⟨h1, h2⟩ := hall 0 e m rfl rfl
        cases hqe : q e with
        | true =>
          rw [hqe] at h1 h2
          refine ⟨some (i0, m.val), .inr ⟨0, e, m, rfl, by grind, rfl, rfl, hqe⟩, ?_, fun r' h => ?_⟩
          · simp_all[Instr.findAsking]
          · unfold Instr.findNow at h
            grind
        | false =>
          rw [hqe] at h1 h2
          obtain ⟨r, h3, h4, h5⟩ := ih ms (i0 + 1) (by grind) fun i e' m' he hm => hall (i + 1) e' m' he hm
          refine ⟨r, ?_, ?_, fun r' h => ?_⟩
          · rcases h3 with ⟨h6, h7⟩ | ⟨i, e', m', h6, h7, h8, h9, h10⟩
            · grind
            · exact .inr ⟨i + 1, e', m', by grind, by grind, h8, h9, h10⟩
          · simp_all[Instr.findAsking]
          · unfold Instr.findNow at h
            grind
  obtain ⟨r, h1, h2, h3⟩ := res es ms 0 hl fun i e m he hm => ⟨eqrun i e m he hm, fun b => same i e m b he hm⟩
  refine ⟨r, ?_, ?_⟩
  · unfold Instr.findKey
    simp only [Sem.run_bind, ya hd, Result.andThen_ok]
    cases hf : Instr.findNow d kv ms 0 with
    | none => exact h2
    | some r' => simp_all
  grind
/-- What a type's variables hold at first. -/
def wi (i : TI) : AV := bif k6 i.ty then .agg (i.zero.map AV.s) else match i.zero with | v :: _ => .s v | [] => .any
theorem i9 {t : TypeId} {i : TI} (h : TIok P t i) (w : World) (T : Nat -> Nat -> Prop) : ∃ z, (zeroValue t).run P w = .ok z w /\ VRel w T (wi i) z := by
  obtain ⟨inf, h1, _, _, z, h2, h3⟩ := h.info
  refine ⟨z, by simp [zeroValue, typeInfo, h1, h2], ?_⟩
  unfold wi
  rcases h.zag inf z h1 h2 with ⟨h4, cs, rfl⟩ | ⟨h4, h5⟩
  · rw [h4]
    refine Hb ?_
    have : i.zero = cs.toList := h3.symm
    rw [this]
    exact Reads.map_s _
  · rw [h4, h5]
    exact .s _
end
section
variable {P : Program} {c : Cfg} {w : World} {st : Store} {Oth M : Nat -> Nat -> Prop}
theorem H5 {b : Nat} {old : Obj} (new : Obj) (hb : w.heap[b]? = some old) : (w.heap.setIfInBounds b new)[b]? = some new := by grind
theorem zsl {b b' : Nat} (new : Obj) (h : b' ≠ b) : (w.heap.setIfInBounds b new)[b']? = w.heap[b']? := by grind
theorem vq {r : Nat} {es : Array MapEntry} {clock : Nat} (hb : w.heap[r]? = some (.map es clock)) : (getObj r).run P w = .ok (.map es clock) w := by
  simp [getObj, Sem.run, hb]
theorem Ke {r : Nat} {es : Array MapEntry} {clock : Nat} (o : Obj) (hb : w.heap[r]? = some (.map es clock)) : (setObj r o).run P w = .ok () { w with heap := w.heap.setIfInBounds r o } := by
  simp [setObj, Sem.run, hb]
def Fe : Obj -> Prop
  | .cells .. => False
  | _ => True
theorem gn {b : Nat} {old new : Obj} (hb : w.heap[b]? = some old) (ho : Fe old) (hn : Fe new) (a : Addr) : World.cell? { w with heap := w.heap.setIfInBounds b new } a = w.cell? a := by grind[World.cell?,Fe]
theorem D1 {b : Nat} {old new : Obj} (hb : w.heap[b]? = some old) (ho : Fe old) (hn : Fe new) (T : Nat -> Nat -> Prop) : Keeps w T { w with heap := w.heap.setIfInBounds b new } T where
  cell b' o c hc _ := by rw [gn hb ho hn]; exact hc
  out _ _ _ _ h := h
  shp b' c e fr h := by
    by_cases hbb : b' = b
    · subst hbb; rw [hb] at h; cases h; trivial
    grind
/-- An object that is no row of cells is turned. -/
theorem Hf (sto : StoreOK st Oth M w) {b : Nat} {old new : Obj} {x y : AObj} (hx : st.obj b = some x) (hb : w.heap[b]? = some old) (ho : Fe old) (hn : Fe new)
    (hy : ObjRel { w with heap := w.heap.setIfInBounds b new } (fun b o => M b o \/ Oth b o) y b) :
    StoreOK (st.setObj b y) Oth M { w with heap := w.heap.setIfInBounds b new } /\ Chg M w M { w with heap := w.heap.setIfInBounds b new } := by
  have hk := D1 hb ho hn (fun b o => M b o \/ Oth b o)
  have hM := (sto.obj b x hx).2
  refine ⟨{ obj := fun b' z hz => ?_, tok := fun b' top ht => ?_, mlt := fun b' o hm => ?_, olt := fun b' o hm => ?_, dis := sto.dis }, ?_⟩
  · by_cases hbb : b' = b
    · grind[zd]
    · rw [zw hbb] at hz
      exact ⟨ObjRel.same (sto.obj b' z hz).1 hk (zsl new hbb), (sto.obj b' z hz).2⟩
  · obtain ⟨c, e, fr, h1, h2⟩ := sto.tok b' top ht
    have hbb : b' ≠ b := fun e => by rw [e, hb] at h1; cases h1; trivial
    grind
  · have := sto.mlt b' o hm; grind
  · have := sto.olt b' o hm; grind
  · exact { size := by simp
            keep := fun b' o hb' _ => gn hb ho hn _
            blk := fun b' hb' hm => by
              have hbb : b' ≠ b := fun e => hm 0 (e ▸ hM 0)
              grind
            shp := fun b' c e fr h => (D1 hb ho hn (fun _ _ => False)).shp b' c e fr h
            sub := fun _ _ h _ => h
            tape := rfl, os := rfl, output := rfl }
theorem ee {α : Type} {q : α -> Bool} : ∀ {l : List α} {i : Nat} {e : α}, l.findIdx? q = some i -> l[i]? = some e -> l.find? q = some e := by
  intro l
  induction l with
  | nil => simp
  | cons a l ih =>
    intro i e h he
    rw [List.findIdx?_cons] at h
    cases hq : q a with
    | true => grind
    | false =>
      rw [hq] at h
      simp only [Bool.false_eq_true, if_false, Option.map_eq_some_iff] at h
      grind
theorem zug {α : Type} {q : α -> Bool} {l : List α} (h : l.findIdx? q = none) : l.find? q = none := by grind
/-- What a look-up tells. -/
def Bl (ok : Bool) (z : AV) (r : Option (AV × AV)) : AV :=
  match ok, r with
  | true, some e => .tup [e.2, .s (.bool true)]
  | true, none => .tup [z, .s (.bool false)]
  | false, some e => e.2
  | false, none => z
theorem R3 {T : Nat -> Nat -> Prop} {x : AV} {v : Value} (b : Bool) (h : VRel w T x v) : VRel w T (.tup [x, .s (.bool b)]) (.tuple #[v, .bool b]) :=
  k9 (Reads.cons h (Reads.cons (.s _) Reads.nil))
theorem Hn {T : Nat -> Nat -> Prop} {x y : AV} {vs : List Value} (h : Reads w T [x, y] vs) : ∃ u v, vs = [u, v] /\ VRel w T x u /\ VRel w T y v := by
  obtain ⟨h1, h2⟩ := h
  match vs, h1 with
  | [u, v], _ => exact ⟨u, v, rfl, h2 0 x u rfl rfl, h2 1 y v rfl rfl⟩
theorem Wh {T : Nat -> Nat -> Prop} {x y z : AV} {vs : List Value} (h : Reads w T [x, y, z] vs) : ∃ u v t, vs = [u, v, t] /\ VRel w T x u /\ VRel w T y v /\ VRel w T z t := by
  obtain ⟨h1, h2⟩ := h
  match vs, h1 with
  | [u, v, t], _ => exact ⟨u, v, t, rfl, h2 0 x u rfl rfl, h2 1 y v rfl rfl, h2 2 z t rfl rfl⟩
theorem Ho {T : Nat -> Nat -> Prop} {x : AV} {vs : List Value} (h : Reads w T [x] vs) : ∃ u, vs = [u] /\ VRel w T x u := by
  obtain ⟨h1, h2⟩ := h
  match vs, h1 with
  | [u], _ => exact ⟨u, rfl, h2 0 x u rfl rfl⟩
theorem Ah {o : Oper} {t kt e : TypeId} {x ix : Operand} {ok : Bool} (ho : o.op = .lookup t x ix ok) {it ie ik : TI} (hit : c.I t = some it) (hty : it.ty = .map kt e) (hie : c.I e = some ie) (hik : c.I kt = some ik)
    {m clk : Nat} {es : List (AV × AV)} {bs : List Nat} {k : AV} (hm : st.obj m = some (.map es bs clk)) (hk : Hy c.I kt k = true) (q : AV × AV -> Bool) (hq : ∀ e ∈ es, Ab c.I 5 kt k e.1 = some (q e))
    {R : AV -> Store -> Prop} (h : R (Bl ok (wi ie) (es.find? q)) st) : AEff P c o [.s (.map (some m)), k] st R := by
  refine ⟨fun Oth M w ρ hI sto hr => ?_⟩
  rw [ho] at hr
  have hr : Reads w (fun b o => M b o \/ Oth b o) [.s (.map (some m)), k] [ρ x, ρ ix] := by simpa [Op.operands] using hr
  obtain ⟨u, v, he, h1, h2⟩ := Hn hr
  simp only [List.cons.injEq, and_true] at he
  obtain ⟨hu, hv⟩ := he
  rw [<- hu] at h1
  rw [<- hv] at h2
  have h1 := VRel.eq_s h1
  obtain ⟨⟨ms, g1, g2, g3, g4⟩, hM⟩ := sto.obj m _ hm
  obtain ⟨r, r1, r2⟩ := Pm (kt := kt) (k := k) (kv := ρ ix) hI h2 q (es := es) (ms := ms.toList) (by omega) (fun i x y hx hy => (g3 i x y hx (by grind)).1) hq (by grind)
  obtain ⟨z, z1, z2⟩ := i9 (hI _ _ hie) w (fun b o => M b o \/ Oth b o)
  have hck := Ra hI hk h2 ms.isEmpty
  have hu := ya (P := P) (Fl (hI _ _ hit) hty)
  have done : ∀ val : Value, VRel w (fun b o => M b o \/ Oth b o) (Bl ok (wi ie) (es.find? q)) val -> (execOp ρ o).run P w = .ok (.value val) w ->
      match (execOp ρ o).run P w with
      | .ok (.value v) w' => qe st R Oth M w v w'
      | .ok .skip w' => o.dst = none /\ qe st R Oth M w (.tuple #[]) w'
      | _ => False := by
    intro val hval hrun
    rw [hrun]
    exact ⟨_, st, M, h, hval, sto, Chg.refl _ _⟩
  rcases r2 with ⟨rfl, r3⟩ | ⟨i, en, me, rfl, r3, r4, r5, r6⟩
  · rw [zug r3] at done
    cases ok with
    | true => exact done _ (R3 false z2) (by simp [execOp, ho, Instr.lookup, hu, h1, vq g1, hck, r1, z1])
    | false => exact done _ z2 (by simp [execOp, ho, Instr.lookup, hu, h1, vq g1, hck, r1, z1])
  · have hval := (g3 i en me r4 (by grind)).2
    rw [ee r3 r4] at done
    cases ok with
    | true => exact done _ (R3 true hval) (by simp [execOp, ho, Instr.lookup, hu, h1, vq g1, hck, r1])
    | false => exact done _ hval (by simp [execOp, ho, Instr.lookup, hu, h1, vq g1, hck, r1])
/-- A key whose value is told. -/
def O8 : AV -> Bool
  | .s (.int _ _) => true
  | .s (.bool _) => true
  | .agg cs => cs.all fun | .s (.int _ _) => true | _ => false
  | _ => false
theorem cr {T T' : Nat -> Nat -> Prop} {w' : World} {k : AV} {u v : Value} (hk : O8 k = true) (hu : VRel w T k u) (hv : VRel w' T' k v) : u = v /\ ∀ n, Instr.sameBits (n + 1) u u = true := by
  unfold O8 at hk
  split at hk
  · rw [VRel.eq_s hu, VRel.eq_s hv]; simp_all[Instr.sameBits]
  · rw [VRel.eq_s hu, VRel.eq_s hv]; simp_all[Instr.sameBits]
  · rename_i cs
    obtain ⟨c1, rfl, h1⟩ := Aj hu
    obtain ⟨c2, rfl, h2⟩ := Aj hv
    have hint : ∀ (i : Nat) (y : AV), cs[i]? = some y -> ∃ k n, y = .s (.int k n) := by
      intro i y hy
      have := List.all_eq_true.1 hk y (List.mem_of_getElem? hy)
      grind
    have heq : c1 = c2 := by
      apply Array.ext_getElem?
      intro i
      have e1 := h1.1
      have e2 := h2.1
      simp only [Array.length_toList] at e1 e2
      by_cases hi : i < cs.length
      · obtain ⟨k, n, hy⟩ := hint i cs[i] (List.getElem?_eq_getElem hi)
        have h3 := h1.2 i cs[i] c1[i] (List.getElem?_eq_getElem hi) (by simp)
        have h4 := h2.2 i cs[i] c2[i] (List.getElem?_eq_getElem hi) (by simp)
        grind[VRel.eq_s]
      grind
    refine ⟨by rw [heq], fun n => ?_⟩
    have hall : ∀ y ∈ c1.toList, ∃ k n, y = .int k n := by
      intro y hy
      obtain ⟨i, hi, rfl⟩ := List.getElem_of_mem hy
      have hi' : i < cs.length := by rw [h1.1]; exact hi
      obtain ⟨k, n, hx⟩ := hint i cs[i] (List.getElem?_eq_getElem hi')
      have h3 := h1.2 i cs[i] _ (List.getElem?_eq_getElem hi') (List.getElem?_eq_getElem hi)
      grind[VRel.eq_s]
    rw [Instr.sameBits]
    simp only [beq_self_eq_true, Bool.true_and]
    generalize c1.toList = L at hall
    clear heq h1 h2 hu hv
    induction L with
    | nil => simp
    | cons a L ih =>
      obtain ⟨k, m, rfl⟩ := hall a (by simp)
      simp_all[Instr.sameBits]
  grind
/-- The entries with one turned, or one more. -/
def j3 (es : List (AV × AV)) (bs : List Nat) (clk : Nat) (q : AV × AV -> Bool) (k v : AV) : AObj :=
  match es.findIdx? q with
  | some i => .map (es.set i (k, v)) bs clk
  | none => .map (es ++ [(k, v)]) (bs ++ [clk]) (clk + 1)
theorem Ff {o : Oper} {t kt e : TypeId} {x ix y : Operand} (ho : o.op = .mapUpdate t x ix y \/ o.op = .insert t x ix y) (hd : o.dst = none) {it ik : TI} (hit : c.I t = some it) (hty : it.ty = .map kt e) (hik : c.I kt = some ik)
    {m clk : Nat} {es : List (AV × AV)} {bs : List Nat} {k v : AV} (hm : st.obj m = some (.map es bs clk)) (hk : Hy c.I kt k = true) (hdet : O8 k = true) (q : AV × AV -> Bool) (hq : ∀ e ∈ es, Ab c.I 5 kt k e.1 = some (q e))
    (hsame : ∀ e ∈ es, q e = true -> e.1 = k) {R : AV -> Store -> Prop} (h : R (.tup []) (st.setObj m (j3 es bs clk q k v))) : AEff P c o [.s (.map (some m)), k, v] st R := by
  refine ⟨fun Oth M w ρ hI sto hr => ?_⟩
  have hops : o.op.operands = #[x, ix, y] := by rcases ho with ho | ho <;> rw [ho] <;> rfl
  rw [hops] at hr
  have hr : Reads w (fun b o => M b o \/ Oth b o) [.s (.map (some m)), k, v] [ρ x, ρ ix, ρ y] := by grind
  obtain ⟨u, v', t', he, h1, h2, h3⟩ := Wh hr
  simp only [List.cons.injEq, and_true] at he
  obtain ⟨hu, hv, ht'⟩ := he
  rw [<- hu] at h1
  rw [<- hv] at h2
  rw [<- ht'] at h3
  have h1 := VRel.eq_s h1
  obtain ⟨⟨ms, g1, g2, g3, g4, g5, g6⟩, hM⟩ := sto.obj m _ hm
  obtain ⟨r, r1, r2⟩ := Pm (kt := kt) (k := k) (kv := ρ ix) hI h2 q (es := es) (ms := ms.toList) (by omega) (fun i x y hx hy => (g3 i x y hx (by grind)).1) hq (by grind)
  have hck := Ra hI hk h2 false
  have hund := ya (P := P) (Fl (hI _ _ hit) hty)
  have done : ∀ w', (execOp ρ o).run P w = .ok .skip w' -> (StoreOK (st.setObj m (j3 es bs clk q k v)) Oth M w' /\ Chg M w M w') ->
      match (execOp ρ o).run P w with
      | .ok (.value v) w' => qe st R Oth M w v w'
      | .ok .skip w' => o.dst = none /\ qe st R Oth M w (.tuple #[]) w'
      | _ => False := by
    intro w' hrun hok
    rw [hrun]
    exact ⟨hd, _, _, M, h, k9 Reads.nil, hok.1, hok.2⟩
  have hexec : (execOp ρ o).run P w = ((Instr.mapUpdate t (ρ x) (ρ ix) (ρ y)).run P w).andThen fun _ w' => .ok .skip w' := by
    rcases ho with ho | ho <;> simp [execOp, ho]
  rcases r2 with ⟨rfl, r3⟩ | ⟨i, en, me, rfl, r3, r4, r5, r6⟩
  · refine done { w with heap := w.heap.setIfInBounds m (.map (ms.push { key := ρ ix, val := ρ y, born := clk }) (clk + 1)) } ?_ ?_
    · rw [hexec]
      simp [Instr.mapUpdate, hund, h1, vq g1, hck, r1, Ke _ g1]
    · refine Hf sto hm g1 trivial trivial ?_
      unfold j3
      rw [r3]
      have hkp := D1 (new := .map (ms.push { key := ρ ix, val := ρ y, born := clk }) (clk + 1)) g1 trivial trivial (fun b o => M b o \/ Oth b o)
      refine ⟨_, H5 _ g1, by simp [g2], fun i x' y' hx hy => ?_, by simp [g4], fun t ht => ?_, ?_⟩
      · by_cases hi : i < es.length
        · rw [List.getElem?_append_left hi] at hx
          rw [Array.getElem?_push_lt (by omega)] at hy
          have hy : ms[i]? = some y' := by grind
          exact ⟨(g3 i x' y' hx hy).1.keep hkp, (g3 i x' y' hx hy).2.keep hkp⟩
        · rw [List.getElem?_append_right (by omega)] at hx
          have hi2 : i = es.length := by grind
          subst hi2
          rw [g2, Array.getElem?_push_size] at hy
          simp at hx hy
          subst hx hy
          exact ⟨h2.keep hkp, h3.keep hkp⟩
      · grind
      grind
  · have hme : ms[i]? = some me := by grind
    have hkey : me.key = ρ ix := by grind[cr]
    have hsb := (cr hdet h2 h2).2 9999
    have hstay : (Instr.keyThatStays (((ms[i]?).map (·.key)).getD (ρ ix)) (ρ ix)).run P w = .ok (ρ ix) w := by simp_all[Instr.keyThatStays]
    refine done { w with heap := w.heap.setIfInBounds m (.map (ms.modify i fun e => { e with key := ρ ix, val := ρ y }) clk) } ?_ ?_
    · rw [hexec]
      simp only [Instr.mapUpdate, Sem.run_bind, hund, Result.andThen_ok, h1, vq g1, hck, r1, hstay, Ke _ g1]
    · refine Hf sto hm g1 trivial trivial ?_
      unfold j3
      rw [r3]
      have hkp := D1 (new := .map (ms.modify i fun e => { e with key := ρ ix, val := ρ y }) clk) g1 trivial trivial (fun b o => M b o \/ Oth b o)
      refine ⟨_, H5 _ g1, by simp [g2], fun j x' y' hx hy => ?_, ?_, g5, g6⟩
      · rw [Array.getElem?_modify] at hy
        by_cases hij : i = j
        · subst hij
          rw [if_pos rfl, hme] at hy
          simp at hy
          rw [List.getElem?_set_self (List.getElem?_eq_some_iff.1 r4).1] at hx
          simp at hx
          subst hx hy
          exact ⟨h2.keep hkp, h3.keep hkp⟩
        · rw [if_neg hij] at hy
          rw [List.getElem?_set_ne hij] at hx
          exact ⟨(g3 j x' y' hx hy).1.keep hkp, (g3 j x' y' hx hy).2.keep hkp⟩
      · rw [g4]
        apply List.ext_getElem?
        grind
end
section
variable {P : Program} {c : Cfg} {w : World} {st : Store} {Oth M : Nat -> Nat -> Prop}
/-- A new object that is no row of cells. -/
theorem Oq (sto : StoreOK st Oth M w) (new : Obj) {y : AObj} (hy : ObjRel (w.alloc new) (fun b o => jm M w.heap.size b o \/ Oth b o) y w.heap.size) :
    Fresh st w.heap.size /\ StoreOK (st.setObj w.heap.size y) Oth (jm M w.heap.size) (w.alloc new) /\ Chg M w (jm M w.heap.size) (w.alloc new) := by
  refine ⟨sto.fresh (Nat.le_refl _), ?_, Fa w new M⟩
  have h := sto.alloc new
  refine { obj := fun b z hz => ?_, tok := h.tok, mlt := h.mlt, olt := h.olt, dis := h.dis }
  by_cases hb : b = w.heap.size
  · subst hb
    rw [zd] at hz
    cases hz
    exact ⟨hy, fun o => .inr rfl⟩
  · rw [zw hb] at hz
    exact h.obj b z hz
theorem Mg {o : Oper} {t : TypeId} (ho : o.op = .makeMap t none) {R : AV -> Store -> Prop}
    (h : ∀ b, Fresh st b -> R (.s (.map (some b))) (st.setObj b (.map [] [] 0))) : AEff P c o [] st R := by
  refine ⟨fun Oth M w ρ hI sto hr => ?_⟩
  have hrun : (execOp ρ o).run P w = .ok (.value (.map (some w.heap.size))) (w.alloc (.map #[] 0)) := by
    simp [execOp, ho, Instr.makeMap]
  rw [hrun]
  obtain ⟨h1, h2, h3⟩ := Oq sto (.map #[] 0) (y := .map [] [] 0) ⟨#[], Gg w _, rfl, fun i x y hx => by simp, rfl, by simp, List.Pairwise.nil⟩
  exact ⟨_, _, _, h _ h1, .s _, h2, h3⟩
/-- The entries with one less. -/
def Aw (es : List (AV × AV)) (bs : List Nat) (clk : Nat) (q : AV × AV -> Bool) : AObj :=
  match es.findIdx? q with
  | some i => .map (es.eraseIdx i) (bs.eraseIdx i) clk
  | none => .map es bs clk
theorem getElem?_eraseIdx' {α : Type} (l : List α) (i j : Nat) : (l.eraseIdx i)[j]? = if j < i then l[j]? else l[j + 1]? := List.getElem?_eraseIdx
theorem Ln {α β : Type} (f : α -> β) : ∀ (l : List α) (i : Nat), (l.map f).eraseIdx i = (l.eraseIdx i).map f
  | [], _ => rfl
  | _ :: _, 0 => rfl
  | a :: l, i + 1 => by simp [Ln f l i]
theorem Rn {o : Oper} {cl : Call} {t kt e : TypeId} {x ix : Operand} (ho : o.op = .call cl) (hcl : cl.callee = .builtin .delete) (hargs : cl.args = #[x, ix]) (hat : cl.argTypes[0]? = some t)
    {it ik : TI} (hit : c.I t = some it) (hty : it.ty = .map kt e) (hik : c.I kt = some ik)
    {m clk : Nat} {es : List (AV × AV)} {bs : List Nat} {k : AV} (hm : st.obj m = some (.map es bs clk)) (hk : Hy c.I kt k = true) (q : AV × AV -> Bool) (hq : ∀ e ∈ es, Ab c.I 5 kt k e.1 = some (q e))
    {R : AV -> Store -> Prop} (h : R (.tup []) (st.setObj m (Aw es bs clk q))) : AEff P c o [.s (.map (some m)), k] st R := by
  refine ⟨fun Oth M w ρ hI sto hr => ?_⟩
  have hops : o.op.operands = #[x, ix] := by grind[Op.operands,Call.operands]
  rw [hops] at hr
  have hr : Reads w (fun b o => M b o \/ Oth b o) [.s (.map (some m)), k] [ρ x, ρ ix] := by grind
  obtain ⟨u, v', he, h1, h2⟩ := Hn hr
  simp only [List.cons.injEq, and_true] at he
  obtain ⟨hu, hv⟩ := he
  rw [<- hu] at h1
  rw [<- hv] at h2
  have h1 := VRel.eq_s h1
  obtain ⟨⟨ms, g1, g2, g3, g4, g5, g6⟩, hM⟩ := sto.obj m _ hm
  obtain ⟨r, r1, r2⟩ := Pm (kt := kt) (k := k) (kv := ρ ix) hI h2 q (es := es) (ms := ms.toList) (by omega) (fun i x y hx hy => (g3 i x y hx (by grind)).1) hq (by grind)
  have hck := Ra hI hk h2 ms.isEmpty
  have hund := ya (P := P) (Fl (hI _ _ hit) hty)
  have hexec : (execOp ρ o).run P w = ((Builtin.delete_ cl.argTypes o.type #[ρ x, ρ ix]).run P w).andThen fun v w' => .ok (.value v) w' := by simp_all[execOp,resolve,invoke,builtin]
  have done : ∀ w', (execOp ρ o).run P w = .ok (.value (.tuple #[])) w' -> (StoreOK (st.setObj m (Aw es bs clk q)) Oth M w' /\ Chg M w M w') ->
      match (execOp ρ o).run P w with
      | .ok (.value v) w' => qe st R Oth M w v w'
      | .ok .skip w' => o.dst = none /\ qe st R Oth M w (.tuple #[]) w'
      | _ => False := by
    intro w' hrun hok
    rw [hrun]
    exact ⟨_, _, M, h, k9 Reads.nil, hok.1, hok.2⟩
  rcases r2 with ⟨rfl, r3⟩ | ⟨i, en, me, rfl, r3, r4, r5, r6⟩
  · refine done { w with heap := w.heap.setIfInBounds m (.map ms clk) } ?_ ?_
    · rw [hexec]
      simp [Builtin.delete_, hat, hund, h1, vq g1, hck, r1, Ke _ g1]
    · refine Hf sto hm g1 trivial trivial ?_
      unfold Aw
      rw [r3]
      have hkp := D1 (new := .map ms clk) g1 trivial trivial (fun b o => M b o \/ Oth b o)
      exact ⟨_, H5 _ g1, g2, fun i x' y' hx hy => ⟨(g3 i x' y' hx hy).1.keep hkp, (g3 i x' y' hx hy).2.keep hkp⟩, g4, g5, g6⟩
  · refine done { w with heap := w.heap.setIfInBounds m (.map (ms.eraseIdxIfInBounds i) clk) } ?_ ?_
    · rw [hexec]
      simp [Builtin.delete_, hat, hund, h1, vq g1, hck, r1, Ke _ g1]
    · refine Hf sto hm g1 trivial trivial ?_
      unfold Aw
      rw [r3]
      have hkp := D1 (new := .map (ms.eraseIdxIfInBounds i) clk) g1 trivial trivial (fun b o => M b o \/ Oth b o)
      have hi : i < ms.size := by grind
      have htl : (ms.eraseIdxIfInBounds i).toList = ms.toList.eraseIdx i := by simp
      have hsub : (bs.eraseIdx i).Sublist bs := List.eraseIdx_sublist ..
      refine ⟨_, H5 _ g1, ?_, fun j x' y' hx hy => ?_, ?_, fun t ht => g5 t (hsub.subset ht), g6.sublist hsub⟩
      · grind
      · have hy : (ms.toList.eraseIdx i)[j]? = some y' := by grind
        rw [getElem?_eraseIdx'] at hx hy
        by_cases hj : j < i
        · rw [if_pos hj] at hx hy
          have := g3 j x' y' hx (by grind)
          exact ⟨this.1.keep hkp, this.2.keep hkp⟩
        · rw [if_neg hj] at hx hy
          have := g3 (j + 1) x' y' hx (by grind)
          exact ⟨this.1.keep hkp, this.2.keep hkp⟩
      · rw [htl, g4, Ln]
theorem zxt {o : Oper} {t kt e : TypeId} {x : Operand} (ho : o.op = .range t x) {it : TI} (hit : c.I t = some it) (hty : it.ty = .map kt e)
    {m clk : Nat} {es : List (AV × AV)} {bs : List Nat} (hm : st.obj m = some (.map es bs clk)) {R : AV -> Store -> Prop}
    (h : ∀ b, Fresh st b -> R (.s (.pointer (some ⟨b, 0, none⟩))) (st.setObj b (.iter m clk [] clk))) : AEff P c o [.s (.map (some m))] st R := by
  refine ⟨fun Oth M w ρ hI sto hr => ?_⟩
  rw [ho] at hr
  have hr : Reads w (fun b o => M b o \/ Oth b o) [.s (.map (some m))] [ρ x] := by simpa [Op.operands] using hr
  obtain ⟨u, he, h1⟩ := Ho hr
  simp only [List.cons.injEq, and_true] at he
  rw [<- he] at h1
  have h1 := VRel.eq_s h1
  obtain ⟨⟨ms, g1, g2⟩, hM⟩ := sto.obj m _ hm
  have hund := ya (P := P) (Fl (hI _ _ hit) hty)
  have hrun : (execOp ρ o).run P w = .ok (.value (.pointer (some ⟨w.heap.size, 0, none⟩))) (w.alloc (.mapIter (some m) clk #[] clk)) := by
    simp [execOp, ho, Instr.range, hund, h1, vq g1]
  rw [hrun]
  obtain ⟨h2, h3, h4⟩ := Oq sto (.mapIter (some m) clk #[] clk) (y := .iter m clk [] clk) (Gg w _)
  exact ⟨_, _, _, h _ h2, .s _, h3, h4⟩
theorem zng (n : Nat) (hn : 0 < n) (w : World) : ∃ i w', i < n /\ Grow w w' /\ w'.heap = w.heap /\ (choose (.mapNext n)).run P w = .ok i w' := by
  by_cases h1 : n <= 1
  · refine ⟨0, w, hn, Grow.refl w, rfl, ?_⟩
    simp_all[Question.forced]
  · refine ⟨w.tape w.drawn (.mapNext n) % n, w.drew, Nat.mod_lt _ hn, Grow.drew w, rfl, ?_⟩
    simp only [choose, Sem.run]
    rw [if_neg (by simpa [Question.forced] using h1)]
    rfl
theorem zxu {o : Oper} {x : Operand} (ho : o.op = .next x false)
    {b m clk : Nat} {es : List (AV × AV)} {bs seen : List Nat} (hb : st.obj b = some (.iter m clk seen clk)) (hm : st.obj m = some (.map es bs clk)) {R : AV -> Store -> Prop}
    (h1 : (∀ t ∈ bs, t ∈ seen) -> R (.tup [.s (.bool false)]) st)
    (h2 : ∀ (i : Nat) (e : AV × AV) (t : Nat), es[i]? = some e -> bs[i]? = some t -> t ∉ seen -> R (.tup [.s (.bool true), e.1, e.2]) (st.setObj b (.iter m clk (seen ++ [t]) clk))) : AEff P c o [.s (.pointer (some ⟨b, 0, none⟩))] st R := by
  refine ⟨fun Oth M w ρ hI sto hr => ?_⟩
  rw [ho] at hr
  have hr : Reads w (fun b o => M b o \/ Oth b o) [.s (.pointer (some ⟨b, 0, none⟩))] [ρ x] := by simpa [Op.operands] using hr
  obtain ⟨u, he, hx⟩ := Ho hr
  simp only [List.cons.injEq, and_true] at he
  rw [<- he] at hx
  have hx := VRel.eq_s hx
  obtain ⟨⟨ms, g1, g2, g3, g4, g5, g6⟩, hM⟩ := sto.obj m _ hm
  obtain ⟨hit, hMb⟩ := sto.obj b _ hb
  have hit : w.heap[b]? = some (.mapIter (some m) clk seen.toArray clk) := hit
  have born : ∀ y ∈ ms, y.born < clk := fun y hy => g5 _ (by grind)
  have hall : (!seen.toArray.isEmpty && !ms.isEmpty && ms.all (fun e => decide (e.born >= clk))) = false := by
    cases hms : ms.isEmpty with
    | true => simp
    | false =>
      have hne : 0 < ms.size := by grind
      grind
  have hnew : (Array.filter (fun e => !seen.toArray.contains e.born) ms).filter (fun e => decide (e.born >= clk)) = #[] := by grind[Array.filter_eq_empty_iff]
  have hold : (Array.filter (fun e => !seen.toArray.contains e.born) ms).filter (fun e => decide (e.born < clk)) = Array.filter (fun e => !seen.toArray.contains e.born) ms := by grind[Array.filter_eq_self]
  have hgo : (getObj b).run P w = .ok (.mapIter (some m) clk seen.toArray clk) w := by simp [getObj, Sem.run, hit]
  generalize hleft : Array.filter (fun e => !seen.toArray.contains e.born) ms = left at hnew hold
  have hlm : ∀ y ∈ left, y ∈ ms /\ y.born ∉ seen := by grind
  let cands : Array (Option MapEntry) := (if left.isEmpty then #[none] else #[]) ++ (left ++ #[]).map some
  have hcs : 0 < cands.size := by grind
  obtain ⟨i, w1, hi, hg, hheap, hch⟩ := zng (P := P) cands.size hcs w
  have hexec : (execOp ρ o).run P w = ((Instr.next (ρ x) false o.type).run P w).andThen fun v w' => .ok (.value v) w' := by
    simp [execOp, ho]
  cases hl : left.isEmpty with
  | true =>
    have hc0 : cands = #[none] := by
      have : left = #[] := by simpa using hl
      simp [cands, this]
    have hi0 : i = 0 := by rw [hc0] at hi; simpa using hi
    have hrun : (execOp ρ o).run P w = .ok (.value (.tuple #[.bool false])) w1 := by
      rw [hexec]
      simp only [Instr.next, hx, Sem.run_bind, hgo, Result.andThen_ok, vq g1, hall, Bool.false_eq_true, if_false, hleft, hold, hnew, Sem.run_pure]
      show ((((choose (.mapNext cands.size)).run P w).andThen _).andThen _) = _
      rw [hch]
      simp only [Result.andThen_ok]
      rw [show ((if left.isEmpty = true then #[none] else #[]) ++ Array.map some (left ++ #[]) : Array (Option MapEntry)) = cands from rfl, hc0, hi0]
      simp
    rw [hrun]
    refine ⟨_, st, M, h1 fun t ht => ?_, k9 (Reads.cons (.s _) Reads.nil), sto.grow hg, hg.chg M⟩
    rw [g4] at ht
    obtain ⟨y, hy, rfl⟩ := List.mem_map.1 ht
    have hle : left = #[] := by simpa using hl
    rw [<- hleft, Array.filter_eq_empty_iff] at hle
    have := hle _ (Array.mem_toList_iff.1 hy)
    simpa using this
  | false =>
    have hce : cands = left.map some := by simp [cands, hl]
    have hil : i < left.size := by rw [hce] at hi; simpa using hi
    have hcg : cands[i]? = some (some left[i]) := by rw [hce]; simp [hil]
    have hgo1 : w1.heap[b]? = some (.mapIter (some m) clk seen.toArray clk) := by rw [hheap]; exact hit
    have hset : ∀ ob : Obj, (setObj b ob).run P w1 = .ok () { w1 with heap := w1.heap.setIfInBounds b ob } := fun ob => by simp [setObj, Sem.run, hgo1]
    have hrun : (execOp ρ o).run P w = .ok (.value (.tuple #[.bool true, left[i].key, left[i].val])) { w1 with heap := w1.heap.setIfInBounds b (.mapIter (some m) clk (seen.toArray.push left[i].born) clk) } := by
      rw [hexec]
      simp only [Instr.next, hx, Sem.run_bind, hgo, Result.andThen_ok, vq g1, hall, Bool.false_eq_true, if_false, hleft, hold, hnew, Sem.run_pure]
      show ((((choose (.mapNext cands.size)).run P w).andThen _).andThen _) = _
      rw [hch]
      simp only [Result.andThen_ok]
      rw [show ((if left.isEmpty = true then #[none] else #[]) ++ Array.map some (left ++ #[]) : Array (Option MapEntry)) = cands from rfl, hcg]
      simp only [Sem.run_bind, hset, Result.andThen_ok, Sem.run_pure]
    rw [hrun]
    obtain ⟨hlm1, hlm2⟩ := hlm left[i] (by simp)
    obtain ⟨j, hj, hje⟩ := Array.mem_iff_getElem.1 hlm1
    have hjs : j < es.length := by omega
    have hms : ms[j]? = some left[i] := by rw [Array.getElem?_eq_getElem hj, hje]
    have hrel := g3 j es[j] left[i] (List.getElem?_eq_getElem hjs) hms
    have hbs : bs[j]? = some left[i].born := by
      rw [g4, List.getElem?_map, Array.getElem?_toList, hms]; rfl
    have sto1 := sto.grow hg
    have hk1 := hg.keeps (fun b o => M b o \/ Oth b o)
    have hk2 := D1 (new := .mapIter (some m) clk (seen.toArray.push left[i].born) clk) hgo1 trivial trivial (fun b o => M b o \/ Oth b o)
    obtain ⟨s1, s2⟩ := Hf (y := .iter m clk (seen ++ [left[i].born]) clk) sto1 hb hgo1 trivial trivial (new := .mapIter (some m) clk (seen.toArray.push left[i].born) clk) (by
      show _ = _
      rw [H5 _ hgo1]
      simp)
    exact ⟨_, _, M, h2 j es[j] left[i].born (List.getElem?_eq_getElem hjs) hbs hlm2,
      k9 (Reads.cons (.s _) (Reads.cons ((hrel.1.keep hk1).keep hk2) (Reads.cons ((hrel.2.keep hk1).keep hk2) Reads.nil))), s1, (hg.chg M).trans s2⟩
end
section
variable {P : Program} {c : Cfg} {w : World} {st : Store} {Oth M : Nat -> Nat -> Prop}
/-- Cells of an object are stored. -/
theorem Ai (sto : StoreOK st Oth M w) {b o : Nat} {l xs : List AV} {vs : List Value} {w' : World} (hk : st.obj b = some (.cells l))
    (hx : Reads w (fun b o => M b o \/ Oth b o) xs vs) (hw : Wrote w b o vs w') : StoreOK (st.setObj b (.cells (z7 l o xs))) Oth M w' /\ Chg M w M w' := by
  have hM := (sto.obj b _ hk).2
  have hT : ∀ o, M b o \/ Oth b o := fun o => .inl (hM o)
  refine ⟨{ obj := fun b' x hx' => ?_, tok := fun b' top ht => ?_, mlt := fun b' o' hm => ?_, olt := fun b' o' hm => ?_, dis := sto.dis }, hw.chg hM⟩
  · by_cases he : b' = b
    · subst he
      rw [zd] at hx'
      cases hx'
      exact ⟨CellsRel.wrote hw hT (sto.obj b' _ hk).1 hx, hM⟩
    · rw [zw he] at hx'
      exact ⟨ObjRel.same (sto.obj b' x hx').1 (hw.keeps hT) (hw.other b' he), (sto.obj b' x hx').2⟩
  · obtain ⟨c, e, fr, h1, h2, h3, h4⟩ := sto.tok b' top ht
    by_cases he : b' = b
    · subst he
      obtain ⟨c', h5, _, h6⟩ := hw.blk c e fr h1
      grind
    · exact ⟨c, e, fr, by rw [hw.other b' he]; exact h1, h2, h3, h4⟩
  · rw [hw.size]; exact sto.mlt b' o' hm
  · rw [hw.size]; exact sto.olt b' o' hm
/-- A new row of cells. -/
theorem Cq (sto : StoreOK st Oth M w) (cs : Array Value) (e : TypeId) {l : List AV} (h : Reads w (fun b o => M b o \/ Oth b o) l cs.toList) :
    Fresh st w.heap.size /\ StoreOK (st.setObj w.heap.size (.cells l)) Oth (jm M w.heap.size) (w.alloc (.cells cs e)) /\ Chg M w (jm M w.heap.size) (w.alloc (.cells cs e)) :=
  Oq sto (.cells cs e) (y := .cells l) (Ig w e M Oth h)
theorem zue {T : Nat -> Nat -> Prop} {b n cap k : Nat} {l : List AV} (h : CellsRel w T l b) (hn : n * k <= l.length) :
    ∃ new : Array Value, Reads w T (l.take (n * k)) new.toList /\ new.size = n * k /\ ∀ w', w'.heap = w.heap -> (Builtin.firstCells k n (.slice (some ⟨b, 0, none⟩) n cap)).run P w' = .ok new w' := by
  obtain ⟨c, e, fr, h1, h2, h3, h4⟩ := h
  have hsz : n * k <= c.size := by omega
  refine ⟨((List.range' 0 (n * k)).map fun i => c.getD i undef).toArray, ?_, by simp, fun w' hw => ?_⟩
  · refine ⟨by grind, fun i x y hx hy => ?_⟩
    have hi : i < n * k := by grind
    rw [List.getElem?_take_of_lt hi] at hx
    simp [hi] at hy
    grind
  · have := Dq (P := P) ⟨b, 0, none⟩ w' (fun i => c.getD i undef) (n * k) 0 #[] (fun p _ hp => by
      rw [x8, K5 hw]
      simp only [World.cell?, h1]
      have : p < c.size := by omega
      simp [this])
    grind[Builtin.firstCells,loadCells]
theorem W0 {T : Nat -> Nat -> Prop} {xs : List AV} {vs : List Value} (h : Reads w T xs vs) (h1 : ∀ x ∈ xs, x.one = true) : ∀ v ∈ vs, qg v = true := by
  intro v hv
  obtain ⟨i, hi⟩ := List.mem_iff_getElem?.1 hv
  have hlt : i < xs.length := by rw [h.1]; grind
  exact Ok (h.2 i xs[i] v (List.getElem?_eq_getElem hlt) hi) (h1 _ (List.getElem_mem hlt))
/-- An append to a slice over an object. -/
theorem ir {e : TypeId} {ie : TI} (hie : c.I e = some ie) {b n cap : Nat} {l : List AV} {x : AV} {rows : List (List AV)} (ho : st.obj b = some (.cells l)) (hcap : cap * ie.size <= l.length) (hn : n <= cap)
    (hx : jc ie.size (.av x) = some rows) (hroom : room (n + rows.length) ie.bytes) {K : AV -> Store -> Prop}
    (h1 : n + rows.length <= cap -> K (.s (.slice (some ⟨b, 0, none⟩) (n + rows.length) cap)) (st.setObj b (.cells (z7 l (n * ie.size) rows.flatten))))
    (h2 : cap < n + rows.length -> ∀ b' cap', Fresh st b' -> n + rows.length <= cap' -> cap' <= 9223372036854775807 -> K (.s (.slice (some ⟨b', 0, none⟩) (n + rows.length) cap')) (st.setObj b' (.cells (l.take (n * ie.size) ++ rows.flatten ++ List.replicate ((cap' - (n + rows.length)) * ie.size) .any)))) :
    AppX P c st e (.s (.slice (some ⟨b, 0, none⟩) n cap)) x K := by
  refine ⟨⟨ie, hie⟩, fun ie' hie' Oth M w sv xv argTypes ty args t sto hs hxv hat ht1 hu hti h0 h1' => ?_⟩
  rw [hie] at hie'
  cases hie'
  have hs := VRel.eq_s hs
  subst hs
  have A : AppArgs P c argTypes args t e ie (some ⟨b, 0, none⟩) n cap xv := ⟨hat, ht1, hu, hti, h0, h1'⟩
  obtain ⟨hl1, hl2, new, hnew, hone, hnsz, hfc⟩ := Dn (P := P) (β := fun _ => 0) (k := ie.size) (x := .av x) hxv hx
  have hnn : n * ie.size <= l.length := Nat.le_trans (Nat.mul_le_mul_right _ hn) hcap
  by_cases hc : n + rows.length <= cap
  · obtain ⟨⟨cs, e0, fr, hb0, huf, hlen, hrel⟩, hM⟩ := sto.obj b _ ho
    have hfit : n * ie.size + new.toList.length <= cs.size := by
      rw [Array.length_toList, hnsz, <- Nat.add_mul, <- hlen]
      exact Nat.le_trans (Nat.mul_le_mul_right _ hc) hcap
    obtain ⟨w', hw1, hw2⟩ := F0 (P := P) w b (n * ie.size) new.toList 0 w cs e0 fr hb0 (.inl huf) hfit hone
    have hrun := Ik (w' := w') ty A hl1 (hfc w rfl) hc (fun a ha => by
      cases ha
      rw [x8, Nat.zero_add]; exact hw1) (fun h => by cases h)
    obtain ⟨k1, k2⟩ := Ai sto ho hnew hw2
    exact ⟨_, _, hrun, _, _, M, h1 hc, .s _, k1, k2⟩
  · have hc : cap < n + rows.length := by omega
    obtain ⟨old, hold1, hold2, hold3⟩ := zue (P := P) (cap := cap) (sto.obj b _ ho).1 hnn
    obtain ⟨newCap, rest, g1, g0, g2, g3⟩ := G5 ty A hl1 (hfc w.drew rfl) (hold3 w.drew rfl) hc hroom
    have gd : Grow w w.drew := Grow.drew w
    have sto1 := sto.grow gd
    obtain ⟨f1, f2, f3⟩ := Cq sto1 (old ++ new ++ rest) e (l := l.take (n * ie.size) ++ rows.flatten ++ List.replicate rest.size .any) (by
      rw [Array.toList_append, Array.toList_append]
      refine ((hold1.append hnew).append ⟨by simp, fun i x y hx hy => ?_⟩).keep (gd.keeps _)
      rw [List.getElem?_replicate] at hx
      split at hx
      · cases hx; exact .any _
      grind)
    have e1 : w.drew.heap.size = w.heap.size := rfl
    rw [g2] at f2
    exact ⟨_, _, g3, _, _, _, h2 hc _ newCap f1 g1 g0, .s _, f2, (gd.chg M).trans f3⟩
/-- An append to no slice, that makes an object. -/
theorem iv {e : TypeId} {ie : TI} (hie : c.I e = some ie) {x : AV} {rows : List (List AV)} (hx : jc ie.size (.av x) = some rows) (hroom : room rows.length ie.bytes) (hne : 0 < rows.length) {K : AV -> Store -> Prop}
    (h2 : ∀ b' cap', Fresh st b' -> rows.length <= cap' -> cap' <= 9223372036854775807 -> K (.s (.slice (some ⟨b', 0, none⟩) rows.length cap')) (st.setObj b' (.cells (rows.flatten ++ List.replicate ((cap' - rows.length) * ie.size) .any)))) :
    AppX P c st e (.s (.slice none 0 0)) x K := by
  refine ⟨⟨ie, hie⟩, fun ie' hie' Oth M w sv xv argTypes ty args t sto hs hxv hat ht1 hu hti h0 h1' => ?_⟩
  rw [hie] at hie'
  cases hie'
  have hs := VRel.eq_s hs
  subst hs
  have A : AppArgs P c argTypes args t e ie none 0 0 xv := ⟨hat, ht1, hu, hti, h0, h1'⟩
  obtain ⟨hl1, hl2, new, hnew, hone, hnsz, hfc⟩ := Dn (P := P) (β := fun _ => 0) (k := ie.size) (x := .av x) hxv hx
  obtain ⟨newCap, rest, g1, g0, g2, g3⟩ := G5 (old := #[]) ty A hl1 (hfc w.drew rfl) (by rfl) (by omega) (by grind)
  have gd : Grow w w.drew := Grow.drew w
  have sto1 := sto.grow gd
  obtain ⟨f1, f2, f3⟩ := Cq sto1 (#[] ++ new ++ rest) e (l := rows.flatten ++ List.replicate rest.size .any) (by
    rw [Array.toList_append, Array.toList_append]
    refine ((show Reads w _ rows.flatten ([] ++ new.toList) from hnew).append ⟨by simp, fun i x y hx hy => ?_⟩).keep (gd.keeps _)
    rw [List.getElem?_replicate] at hx
    split at hx
    · cases hx; exact .any _
    grind)
  rw [g2] at f2
  simp only [Nat.zero_add] at g1 g3 f2
  exact ⟨_, _, g3, _, _, _, h2 _ newCap f1 g1 g0, .s _, f2, (gd.chg M).trans f3⟩
/-- A slice of wc over an object: its numbers, and how much room. -/
def Ints (st : Store) (v : AV) (ns : List Int) : Prop :=
  (v = .s (.slice none 0 0) /\ ns = []) \/ ∃ b cap L, v = .s (.slice (some ⟨b, 0, none⟩) ns.length cap) /\ st.obj b = some (.cells (ns.map (fun n => AV.s (.int .i64 n)) ++ L)) /\ ns.length <= cap /\ cap <= ns.length + L.length /\ cap <= 9223372036854775807
end
end Go.V
