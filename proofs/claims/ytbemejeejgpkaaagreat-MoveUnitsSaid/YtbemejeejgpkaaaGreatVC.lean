/- The ground on which laws of thronglaw24 are proved: contracts of functions and plain lemmas; no condition beyond the row's own. -/
import Derived.Orders
import Derived.SizedLaws
import Derived.OpenShut
import Derived.Deep.Slices
import Derived.RowKit3
import Derived.Carry
import Derived.ProofKit
import Derived.Test.YtbemejeejgpkaaaGreatVB
set_option linter.unusedSimpArgs false
set_option linter.unusedVariables false
namespace Go.V
section
variable {P : Program} {c : Cfg}
theorem zj2 {ev ev' : Operand -> LV} {l : List Operand} (h : ∀ x ∈ l, ev' x = ev x) :
    (l.mapM fun x => (ev' x).toAV) = (l.mapM fun x => (ev x).toAV) := by
  induction l with
  | nil => rfl
  | cons a l ih =>
    rw [List.mapM_cons, List.mapM_cons, h a (by simp), ih fun x hx => h x (by simp [hx])]
theorem zel {ev ev' : Operand -> LV} {x : Option Operand} (h : ∀ y ∈ x.toArray, ev' y = ev y) : zb6 ev' x = zb6 ev x := by
  cases x with
  | none => rfl
  | some y => simp only [zb6]; rw [h y (by simp)]
theorem zpt {ev : Operand -> LV} {bx : Nat -> Option (List AV)} {st : Store} {d : Nat} {op : Op} {K K' : LV -> Prop} (hI : zw P c.I) (hK : ∀ x, K x -> K' x) (h : vcV c ev bx st d op K) : vcV c ev bx st d op K' := by
  obtain ⟨x, hx, hx', _⟩ := zje hI op h
  exact hx' K' (hK x hx)
theorem zk9 {ev ev' : Operand -> LV} {bx : Nat -> Option (List AV)} {st : Store} {d : Nat} {op : Op} {K : LV -> Prop} (h : ∀ x ∈ op.operands, ev' x = ev x) (hv : vcV c ev bx st d op K) : vcV c ev' bx st d op K := by
  cases op <;> simp only [Op.operands] at h <;> first | exact hv | skip
  case move x => simp only [vcV] at hv ⊢; rwa [h x (by simp)]
  case assign x => simp only [vcV] at hv ⊢; rwa [h x (by simp)]
  case pick a b e => simp only [vcV] at hv ⊢; rwa [h a (by simp), h b (by simp), h e (by simp)]
  case load t x => simp only [vcV] at hv ⊢; rwa [h x (by simp)]
  case nilCheck x => simp only [vcV] at hv ⊢; rwa [h x (by simp)]
  case binOp op t x y yt => simp only [vcV] at hv ⊢; rwa [h x (by simp), h y (by simp)]
  case unOp op t x => simp only [vcV] at hv ⊢; rwa [h x (by simp)]
  case convert s t x => simp only [vcV] at hv ⊢; rwa [h x (by simp)]
  case fieldAddr s x f => simp only [vcV] at hv ⊢; rwa [h x (by simp)]
  case field s x f => simp only [vcV] at hv ⊢; rwa [h x (by simp)]
  case indexAddr t x i => simp only [vcV] at hv ⊢; rwa [h x (by simp), h i (by simp)]
  case index t x i => simp only [vcV] at hv ⊢; rwa [h x (by simp), h i (by simp)]
  case extract x i => simp only [vcV] at hv ⊢; rwa [h x (by simp)]
  case slice t x lo hi mx =>
    simp only [vcV] at hv ⊢
    have e1 := zel (ev := ev) (ev' := ev') (x := lo) (fun y hy => h y (by simp [hy]))
    have e2 := zel (ev := ev) (ev' := ev') (x := hi) (fun y hy => h y (by simp [hy]))
    rwa [h x (by simp), e1, e2]
  case build t ps =>
    simp only [vcV] at hv ⊢
    have e : (ps.toList.map fun p => (p.1, ev' p.2)) = (ps.toList.map fun p => (p.1, ev p.2)) := List.map_congr_left fun p hp => by
      rw [h p.2 (by simp; exact ⟨p.1, by simpa using hp⟩)]
    rwa [e]
  case makeFunc f first cap =>
    cases f <;> simp only [vcV] at hv ⊢ <;> try exact hv
    rwa [zj2 (ev := ev) (ev' := ev') fun x hx => h x (by simp; exact .inr (by simpa using hx))]
  case call cl =>
    obtain ⟨callee, args, argTypes⟩ := cl
    simp only [vcV, vl] at hv ⊢
    cases callee with
    | value f => exact hv
    | invoke r m => exact hv
    | builtin b =>
      have ha : ∀ x ∈ args, ev' x = ev x := fun x hx => h x (by simp [Call.operands, hx])
      cases b <;> simp only at hv ⊢ <;> try exact hv
      case len =>
        obtain ⟨t, ht, hv⟩ := ze hv
        obtain ⟨i, hi, hv⟩ := ze hv
        obtain ⟨x, hx, hv⟩ := ze hv
        refine za t ht (za i hi (za x hx ?_))
        rwa [ha x (Array.mem_of_getElem? hx)]
      case cap =>
        obtain ⟨t, ht, hv⟩ := ze hv
        obtain ⟨i, hi, hv⟩ := ze hv
        obtain ⟨x, hx, hv⟩ := ze hv
        refine za t ht (za i hi (za x hx ?_))
        rwa [ha x (Array.mem_of_getElem? hx)]
      case min => rwa [show args.toList.map ev' = args.toList.map ev from List.map_congr_left fun x hx => ha x (by simpa using hx)]
      case max => rwa [show args.toList.map ev' = args.toList.map ev from List.map_congr_left fun x hx => ha x (by simpa using hx)]
/-- The operations whose value hangs on nothing but their operands. -/
def zin : Op -> Bool
  | .load .. => false
  | .call cl => match cl.callee with | .builtin .min => true | .builtin .max => true | _ => false
  | _ => true
theorem zhz {ev : Operand -> LV} {bx bx' : Nat -> Option (List AV)} {st st' : Store} {d : Nat} {op : Op} {K : LV -> Prop} (hn : zin op = true) (hv : vcV c ev bx st d op K) : vcV c ev bx' st' d op K := by
  cases op <;> first | exact hv | skip
  case load t x => simp [zin] at hn
  case call cl =>
    obtain ⟨callee, args, argTypes⟩ := cl
    simp only [vcV, vl] at hv ⊢
    cases callee with
    | value f => exact hv
    | invoke r m => exact hv
    | builtin b => cases b <;> simp [zin] at hn <;> exact hv
/-- A slice literal, as a value. -/
def bsK (c : Cfg) (ev : Operand -> LV) (t : TypeId) (n : Nat) (parts : Array (Nat × Operand)) (K : LV -> Prop) : Prop :=
  optK (c.I t) fun i => match i.ty with
    | .slice e => optK (c.I e) fun ie => optK (zba ie.size n (List.replicate n (qu ie)) (parts.toList.map fun p => (p.1, ev p.2))) fun rows =>
      bif rows.flatten.all AV.one then n * ie.size <= 16777216 /\ (match rows with
        | [] => K (.av .emp)
        | _ :: _ => K (.av (.lst ie.size rows none))) else False
    | _ => False
/-- The operations that may be carried out at any time. -/
def vcW (c : Cfg) (ev : Operand -> LV) (bx : Nat -> Option (List AV)) (st : Store) (d : Nat) (op : Op) (K : LV -> Prop) : Prop :=
  match op with
  | .buildSlice t n parts => bsK c ev t n parts K
  | op => vcV c ev bx st d op K
theorem zqw {ev : Operand -> LV} {t : TypeId} {n : Nat} {parts : Array (Nat × Operand)} {K : LV -> Prop} (h : bsK c ev t n parts K) :
    ∃ (i ie : TI) (e : TypeId) (rows : List (List AV)) (x : LV), c.I t = some i /\ i.ty = .slice e /\ c.I e = some ie /\ zba ie.size n (List.replicate n (qu ie)) (parts.toList.map fun p => (p.1, ev p.2)) = some rows /\ rows.flatten.all AV.one = true ∧
      n * ie.size <= 16777216 /\ x = (match rows with | [] => .av .emp | _ :: _ => .av (.lst ie.size rows none)) /\ K x /\ ∀ K' : LV -> Prop, K' x -> bsK c ev t n parts K' := by
  unfold bsK at h
  obtain ⟨i, hi, h⟩ := ze h
  split at h
  · rename_i e hty
    obtain ⟨ie, hie, h⟩ := ze h
    obtain ⟨rows, hrows, h⟩ := ze h
    cases hone : rows.flatten.all AV.one with
    | false => rw [hone] at h; exact h.elim
    | true =>
      rw [hone] at h
      simp only [cond_true] at h
      obtain ⟨hroom, h⟩ := h
      refine ⟨i, ie, e, rows, _, hi, hty, hie, hrows, hone, hroom, rfl, by cases rows <;> exact h, fun K' h' => ?_⟩
      refine za i hi ?_
      simp only [hty]
      refine za ie hie (za rows hrows ?_)
      rw [hone]
      exact ⟨hroom, by cases rows <;> exact h'⟩
  · exact h.elim
theorem zfn {ev ev' : Operand -> LV} {bx : Nat -> Option (List AV)} {st : Store} {d : Nat} {op : Op} {K : LV -> Prop} (h : ∀ x ∈ op.operands, ev' x = ev x) (hv : vcW c ev bx st d op K) : vcW c ev' bx st d op K := by
  cases op <;> first | exact zk9 (bx := bx) (st := st) (d := d) (K := K) h (show vcV c ev bx st d _ K from hv) | skip
  case buildSlice t n parts =>
    have e : (parts.toList.map fun p => (p.1, ev' p.2)) = (parts.toList.map fun p => (p.1, ev p.2)) := List.map_congr_left fun p hp => by
      rw [h p.2 (by simp [Op.operands]; exact ⟨p.1, by simpa using hp⟩)]
    simp only [vcW] at hv ⊢
    unfold bsK at hv ⊢
    rwa [e]
theorem zrd {ev : Operand -> LV} {bx bx' : Nat -> Option (List AV)} {st st' : Store} {d : Nat} {op : Op} {K : LV -> Prop} (hn : zin op = true) (hv : vcW c ev bx st d op K) : vcW c ev bx' st' d op K := by
  cases op <;> first | exact zhz (bx := bx) (st := st) (d := d) (K := K) hn (show vcV c ev bx st d _ K from hv) | exact hv | skip
  case call cl => exact zhz (bx := bx) (bx' := bx') (st := st) (st' := st') (d := d) (op := .call cl) hn hv
end
end Go.V
namespace Go.V
/-- In what order a region is carried out: values at once, then the effects that may come next, each with what follows; 'chk': the operations whose values must stand behind the effect. -/
inductive Sched where
  | done
  | v (i : Nat) (r : Sched)
  | e (i : Nat) (chk : List Nat) (r alt : Sched)
  | stop
def sv : List Nat -> Sched -> Sched
  | [], s => s
  | i :: l, s => .v i (sv l s)
/-- May the operation float? -/
def isV (c : Cfg) (o : Oper) : Bool :=
  match o.op with
  | .alloc _ => false
  | .box _ _ => false
  | .store _ _ _ => false
  | .assign _ => false
  | .convert s t _ => !Nat.beq s t
  | .buildSlice _ _ _ => match o.dst with | some d => !c.G.contains d | none => false
  | .call cl => match cl.callee with
    | .builtin .len => true
    | .builtin .cap => true
    | .builtin .min => true
    | .builtin .max => true
    | _ => false
  | .mapUpdate .. | .insert .. | .mapEntry .. | .entryStore .. | .makeMap .. | .makeSlice .. | .lookup .. | .range .. | .next .. | .entry .. | .makeInterface .. | .typeAssert .. | .select .. | .go .. | .defer .. | .panic .. | .send .. | .recv .. | .ready .. | .waits .. | .makeChan .. => false
  | _ => true
def qd (ops : Array Oper) (i : Nat) : List Nat :=
  match ops[i]? with
  | some o => o.after.toList.filterMap fun e => bif Region.binds .any e then some e.on else none
  | none => []
def mem (i : Nat) : List Nat -> Bool
  | [] => false
  | j :: l => bif Nat.beq i j then true else mem i l
theorem mem_iff (i : Nat) : ∀ (l : List Nat), mem i l = true ↔ i ∈ l := by
  intro l
  induction l with
  | nil => simp [mem]
  | cons j l ih =>
    simp only [mem, List.mem_cons]
    by_cases h : i = j
    · subst h; simp
    · simp [nbeq h, ih, h]
def sub (l m : List Nat) : Bool := l.all fun i => mem i m
/-- The alternatives that a schedule lists from here on. -/
def znm : Sched -> List Nat
  | .e i _ _ alt => i :: znm alt
  | _ => []
/-- What must have been carried out before 'i'. -/
def zva (ops : Array Oper) (i : Nat) : List Nat :=
  (List.range i).reverse.foldl (fun acc j => bif mem j acc then qd ops j ++ acc else acc) (qd ops i)
/-- What the effect 'i' asks of those that have been taken before it. -/
def zxo (c : Cfg) (ops : Array Oper) (i : Nat) (chk L : List Nat) : Bool :=
  !mem i L && Nat.blt i ops.size && sub (qd ops i) L && (match ops[i]? with | some o => !isV c o | none => false) &&
  L.all fun j => mem j (zva ops i) || mem j chk || (match ops[j]?, ops[i]? with
    | some o, some o' => !isV c o || (zin o.op && (match o'.op with | .alloc _ => false | .box _ _ => false | _ => true))
    | _, _ => false)
/-- Is the schedule one of the region's, all that may come next listed? -/
def qb (c : Cfg) (ops : Array Oper) : Sched -> List Nat -> Bool -> Bool
  | .done, L, first => first && (List.range ops.size).all fun i => mem i L
  | .v i r, L, first => first && (!mem i L && Nat.blt i ops.size && (match ops[i]? with | some o => isV c o | none => false) && sub (qd ops i) L && qb c ops r (i :: L) true)
  | .e i chk r alt, L, first => zxo c ops i chk L && qb c ops r (i :: L) true && qb c ops alt L false &&
      (!first || (List.range ops.size).all fun j => mem j L || !sub (qd ops j) L || mem j (i :: znm alt))
  | .stop, _, first => !first
/-- What holds of the operations among themselves. -/
def ze0 (c : Cfg) (ops : Array Oper) : Bool :=
  (List.range ops.size).all fun i => match ops[i]? with
    | none => false
    | some o => (qd ops i).all (fun j => Nat.blt j i) && (match o.op with | .select .. => false | .defer .. => false | _ => true) && (match o.dst with
      | none => !isV c o
      | some t => Nat.blt t c.n && !mem t (o.looksAt ops) &&
        (List.range ops.size).all fun k => Nat.beq k i || (match ops[k]? with
          | none => false
          | some o' => (match o'.dst with | some t' => !Nat.beq t t' | none => true) && (!mem t (o'.looksAt ops) || mem i (qd ops k) || (!isV c o && mem k (qd ops i)))))
/-- An operation under its guard: carried out, or left out. -/
def zeo (ops : Array Oper) (o : Oper) (A : Fr) (go skip : Fr -> Prop) : Prop :=
  match o.guard with
  | none => go A
  | some (j, want) => optK ((ops[j]?).bind (·.dst)) fun t =>
    match A.t t with
    | .av (.s (.bool b)) => zed b (bif want then go (A.put t (j5 true)) else skip (A.put t (j5 true))) (bif want then skip (A.put t (j5 false)) else go (A.put t (j5 false)))
    | .und => skip A
    | _ => False
/-- The operation's value stands. -/
def stands (c : Cfg) (ops : Array Oper) (A : Fr) (st : Store) (i : Nat) : Prop :=
  optK ops[i]? fun o => optK o.dst fun d => zeo ops o A (fun A => vcW c A.ev A.bx st d o.op fun x => x = A.t d) (fun A => A.t d = .und)
def kr (c : Cfg) (ops : Array Oper) (A : Fr) (st : Store) : List Nat -> Prop
  | [] => True
  | i :: l => stands c ops A st i /\ kr c ops A st l
def vcDr (P : Program) (c : Cfg) (ops : Array Oper) (K : Fr -> Store -> Prop) : Sched -> Fr -> Store -> Prop
  | .done, A, st => K A st
  | .v i r, A, st => optK ops[i]? fun o => optK o.dst fun d =>
      zeo ops o A (fun A => vcW c A.ev A.bx st d o.op fun x => vcDr P c ops K r (A.put d x) st) (fun A => vcDr P c ops K r (A.put d .und) st)
  | .e i chk r alt, A, st => (optK ops[i]? fun o =>
      zeo ops o A (fun A => vcOp P c o (fun A' st' => kr c ops A' st' chk /\ vcDr P c ops K r A' st') A st)
        (fun A => putO A c.n o.dst .und fun A' => kr c ops A' st chk /\ vcDr P c ops K r A' st)) /\ vcDr P c ops K alt A st
  | .stop, _, _ => True
end Go.V
namespace Go.V
section
variable {P : Program} {c : Cfg} {ops : Array Oper}
/-- How a guard stands. -/
def j9 (ops : Array Oper) (o : Oper) (A : Fr) : Option Bool :=
  match o.guard with
  | none => some true
  | some (j, want) => match (ops[j]?).bind (·.dst) with
    | none => none
    | some t => match A.t t with
      | .av (.s (.bool b)) => some (b == want)
      | .und => some false
      | _ => none
theorem guardK_iff {o : Oper} {A : Fr} {go skip : Fr -> Prop} : zeo ops o A go skip ↔ (j9 ops o A = some true /\ go A) \/ (j9 ops o A = some false /\ skip A) := by
  unfold zeo j9
  cases hg : o.guard with
  | none => simp
  | some jw =>
    obtain ⟨j, want⟩ := jw
    simp only
    cases hd : (ops[j]?).bind (·.dst) with
    | none => simp [optK]
    | some t =>
      simp only [optK]
      generalize hy : A.t t = y
      split
      · rename_i b
        cases b with
        | true => rw [Fr.put_self (A := A) (x := j5 true) hy]; cases want <;> simp [zed]
        | false => rw [Fr.put_self (A := A) (x := j5 false) hy]; cases want <;> simp [zed]
      · simp
      · rename_i h1 h2
        simp
theorem kj {o : Oper} {B : Fr} {st : Store} {n : Nat} {Oth M : Nat -> Nat -> Prop} {a : Act} {w : World} (sim : Sim n Oth B st M a w) {b : Bool} (h : j9 ops o B = some b) : Region.wanted o (yielded ops a.tmps) = b := by
  obtain ⟨β, s⟩ := sim
  unfold j9 at h
  unfold Region.wanted
  cases hg : o.guard with
  | none => rw [hg] at h; simp at h; simp [h]
  | some jw =>
    obtain ⟨j, want⟩ := jw
    rw [hg] at h
    simp only at h ⊢
    cases hd : (ops[j]?).bind (·.dst) with
    | none => rw [hd] at h; cases h
    | some t =>
      rw [hd] at h
      simp only at h
      have hs := s.tm t
      split at h
      · rename_i b' hb
        simp at h
        rw [hb] at hs
        rw [zit hd (VRel.eq_s hs), <- h]
        simp
      · rename_i hb
        simp at h
        rw [hb] at hs
        rw [zmo hd hs, h]
        cases want <;> rfl
      · cases h
theorem zpc {b : Bool} {p : Prop} (h : bif b then p else False) : b = true /\ p := by
  cases b with
  | true => exact ⟨rfl, h⟩
  | false => exact h.elim
theorem zpd {b : Bool} {p : Prop} (hb : b = true) (h : p) : bif b then p else False := by subst hb; exact h
/-- Some slots forgotten. -/
def zz (A : Fr) (D : List Nat) : Fr := ⟨fun t => bif mem t D then .any else A.t t, A.bx⟩
theorem jb {t : Nat} {D : List Nat} (h : t ∉ D) : mem t D = false := by
  cases hm : mem t D with
  | false => rfl
  | true => exact absurd ((mem_iff _ _).1 hm) h
theorem zdc {A : Fr} {D : List Nat} {t : Nat} (h : t ∉ D) : (zz A D).t t = A.t t := by
  simp [zz, jb h]
theorem zxb {A : Fr} {D : List Nat} {x : Operand} (h : ∀ t, x = .tmp t -> t ∉ D) : (zz A D).ev x = A.ev x := by
  cases x with
  | tmp t => exact zdc (h t rfl)
  | _ => rfl
theorem xe {A : Fr} {D : List Nat} {d : Nat} (h : d ∉ D) (x : LV) : (zz A D).put d x = zz (A.put d x) D := by
  unfold zz Fr.put
  congr
  funext i
  by_cases hi : i = d
  · subst hi; simp [jb h]
  · simp [nbeq hi]
theorem zeq {A : Fr} {D : List Nat} {d : Nat} (h : d ∉ D) (l : List AV) : (zz A D).newBx d l = zz (A.newBx d l) D := by
  unfold zz Fr.newBx
  congr
  funext i
  by_cases hi : i = d
  · subst hi; simp [jb h]
  · simp only [nbeq hi, cond_false]
    cases mem i D <;> simp [LV.kill]
/-- What an effect leaves of the slots. -/
def Kept (o : Oper) (A A' : Fr) : Prop := (match o.op with | .alloc _ => False | .box _ _ => False | _ => True) -> ∀ t, o.dst ≠ some t -> A'.t t = A.t t
theorem zad {o : Oper} {A : Fr} {d : Nat} {x : LV} (hd : o.dst = some d) : Kept o A (A.put d x) := fun _ t ht => by
  have : t ≠ d := fun h => ht (by rw [h]; exact hd)
  simp [Fr.put, nbeq this]
theorem zgp {o : Oper} {A : Fr} : Kept o A A := fun _ _ _ => rfl
/-- What an effect does in a frame in which slots are forgotten that it does not look at. -/
theorem znu (hI : zw P c.I) {o : Oper} {K : Fr -> Store -> Prop} {A : Fr} {st : Store} {D : List Nat} (h : vcOp P c o K A st) (hop : ∀ x ∈ o.op.operands, ∀ t, x = .tmp t -> t ∉ D) (hd : ∀ d, o.dst = some d -> d ∉ D) :
    vcOp P c o (fun B' st' => ∃ A', K A' st' /\ B' = zz A' D /\ Kept o A A') (zz A D) st := by
  have hev : ∀ x ∈ o.op.operands, (zz A D).ev x = A.ev x := fun x hx => zxb (hop x hx)
  have hputO : ∀ (x : LV) (st' : Store), (putO A c.n o.dst x fun A' => K A' st') -> putO (zz A D) c.n o.dst x fun B' => ∃ A', K A' st' /\ B' = zz A' D /\ Kept o A A' := by
    intro x st' hx
    unfold putO at hx ⊢
    cases hdst : o.dst with
    | none => rw [hdst] at hx; exact ⟨A, hx, rfl, zgp⟩
    | some d =>
      rw [hdst] at hx
      obtain ⟨hlt, hx⟩ := qs hx
      simp only [show Nat.blt d c.n = true from Nat.ble_eq_true_of_le hlt, cond_true]
      exact ⟨_, hx, xe (hd d hdst) x, zad hdst⟩
  have hval : ∀ op', op' = o.op -> (optK o.dst fun d => bif Nat.blt d c.n then vcV c A.ev A.bx st d op' (fun x => K (A.put d x) st) else False) ->
      optK o.dst fun d => bif Nat.blt d c.n then vcV c (zz A D).ev (zz A D).bx st d op' (fun x => ∃ A', K A' st /\ (zz A D).put d x = zz A' D /\ Kept o A A') else False := by
    rintro op' rfl hx
    obtain ⟨d, hdst, hx⟩ := ze hx
    obtain ⟨hlt, hx⟩ := qs hx
    refine za d hdst ?_
    simp only [show Nat.blt d c.n = true from Nat.ble_eq_true_of_le hlt, cond_true]
    exact zpt hI (fun x hx => ⟨_, hx, xe (hd d hdst) x, zad hdst⟩) (zk9 hev hx)
  unfold vcOp at h ⊢
  have hX : vcX P c o K A st -> vcX P c o (fun B' st' => ∃ A', K A' st' /\ B' = zz A' D /\ Kept o A A') (zz A D) st := by
    intro h
    obtain ⟨vs, hvs, h⟩ := ze h
    have e : (o.op.operands.toList.mapM fun x => ((zz A D).ev x).toAV) = o.op.operands.toList.mapM fun x => (A.ev x).toAV :=
      zj2 fun x hx => hev x (by simpa using hx)
    refine za vs (by rw [e]; exact hvs) ⟨fun Oth M w ρ hI' sto hr => ?_⟩
    have := h.out Oth M w ρ hI' sto hr
    have hpost : ∀ v w', zt st (fun r st' => putO A c.n o.dst (.av r) fun A' => K A' st') Oth M w v w' -> zt st (fun r st' => putO (zz A D) c.n o.dst (.av r) fun B' => ∃ A', K A' st' /\ B' = zz A' D /\ Kept o A A') Oth M w v w' :=
      fun v w' ⟨r, st', M', h1, h2⟩ => ⟨r, st', M', hputO _ st' h1, h2⟩
    generalize (execOp ρ o).run P w = res at *
    cases res with
    | halt x w' => exact this.elim
    | ok nx w' =>
      cases nx with
      | value v => exact hpost v w' this
      | skip => exact ⟨this.1, hpost _ w' this.2⟩
      | _ => exact this.elim
  cases hx : isX o.op with
  | true => rw [hx] at h; exact hX h
  | false =>
  rw [hx] at h
  replace h : zhg P c o K A st := h
  change zhg P c o (fun B' st' => ∃ A', K A' st' /\ B' = zz A' D /\ Kept o A A') (zz A D) st
  unfold zhg at h ⊢
  cases ho : o.op with
  | alloc t =>
    simp only [ho, xo] at h ⊢
    obtain ⟨i, hi, h⟩ := ze h
    obtain ⟨d, hdst, h⟩ := ze h
    obtain ⟨hlt, h⟩ := qs h
    refine za i hi (za d hdst ?_)
    simp only [show Nat.blt d c.n = true from Nat.ble_eq_true_of_le hlt, cond_true]
    cases hg : c.G.contains d with
    | true => rw [hg] at h; exact fun b hb => ⟨_, h b hb, xe (hd d hdst) _, fun hh => by rw [ho] at hh; exact hh.elim⟩
    | false => rw [hg] at h; exact ⟨_, h, zeq (hd d hdst) _, fun hh => by rw [ho] at hh; exact hh.elim⟩
  | box t x =>
    simp only [ho] at h ⊢
    rw [ho] at hev
    obtain ⟨d, hdst, h⟩ := ze h
    obtain ⟨hlt, h⟩ := qs h
    refine za d hdst ?_
    simp only [show Nat.blt d c.n = true from Nat.ble_eq_true_of_le hlt, cond_true]
    rw [hev x (by simp [Op.operands])]
    split at h
    · obtain ⟨l, hl, h⟩ := ze h
      refine za l hl ?_
      cases hg : c.G.contains d with
      | true => rw [hg] at h; exact fun b hb => ⟨_, h b hb, xe (hd d hdst) _, fun hh => by rw [ho] at hh; exact hh.elim⟩
      | false => rw [hg] at h; exact ⟨_, h, zeq (hd d hdst) _, fun hh => by rw [ho] at hh; exact hh.elim⟩
    · exact h.elim
  | buildSlice t n parts =>
    simp only [ho] at h ⊢
    rw [ho] at hev
    have e : (parts.toList.map fun p => (p.1, (zz A D).ev p.2)) = (parts.toList.map fun p => (p.1, A.ev p.2)) := List.map_congr_left fun p hp => by
      rw [hev p.2 (by simp [Op.operands]; exact ⟨p.1, by simpa using hp⟩)]
    rw [e]
    obtain ⟨i, hi, h⟩ := ze h
    obtain ⟨d, hdst, h⟩ := ze h
    obtain ⟨hlt, h⟩ := qs h
    refine za i hi (za d hdst ?_)
    simp only [show Nat.blt d c.n = true from Nat.ble_eq_true_of_le hlt, cond_true]
    split at h
    · obtain ⟨ie, hie, h⟩ := ze h
      obtain ⟨rows, hrows, h⟩ := ze h
      refine za ie hie (za rows hrows ?_)
      cases hone : rows.flatten.all AV.one with
      | false => rw [hone] at h; exact h.elim
      | true =>
        rw [hone] at h
        simp only [cond_true] at h ⊢
        refine ⟨h.1, ?_⟩
        replace h := h.2
        cases rows with
        | nil => exact ⟨_, h, xe (hd d hdst) _, zad hdst⟩
        | cons r rs =>
          cases hg : c.G.contains d with
          | true =>
            cases hg2 : c.G.contains (d + 1000000) with
            | true => simp only [hg, hg2, cond_true] at h ⊢; exact fun b hb => ⟨_, h b hb, xe (hd d hdst) _, zad hdst⟩
            | false => simp only [hg, hg2, cond_true, cond_false] at h ⊢; exact fun b hb => ⟨_, h b hb, xe (hd d hdst) _, zad hdst⟩
          | false => simp only [hg, cond_false] at h ⊢; exact ⟨_, h, xe (hd d hdst) _, zad hdst⟩
    · exact h.elim
  | store t p x =>
    simp only [ho] at h ⊢
    rw [ho] at hev
    cases hdst : o.dst with
    | some d => rw [hdst] at h; exact h.elim
    | none =>
      rw [hdst] at h
      simp only [Option.isNone_none, cond_true] at h ⊢
      obtain ⟨i, hi, h⟩ := ze h
      refine za i hi ?_
      rw [hev x (by simp [Op.operands])]
      split at h
      · unfold zcs at h ⊢
        rw [hev p (by simp [Op.operands])]
        obtain ⟨xs, hxs, h⟩ := ze h
        refine za xs hxs ?_
        cases hb : (Nat.beq xs.length i.size && xs.all AV.one) with
        | false => rw [hb] at h; exact h.elim
        | true =>
          rw [hb] at h
          simp only [cond_true] at h ⊢
          split at h
          · rename_i k off hp
            obtain ⟨l, hl, h⟩ := ze h
            refine za l hl ?_
            cases hb2 : Nat.ble (off + xs.length) l.length with
            | false => rw [hb2] at h; exact h.elim
            | true => rw [hb2] at h; simp only [cond_true, xo] at h ⊢; exact ⟨_, h, rfl, fun _ _ _ => rfl⟩
          · obtain ⟨y, hy, h⟩ := ze h
            refine za y hy ?_
            cases y with
            | cells l => simp only [xo] at h ⊢; exact ⟨h.1, _, h.2, rfl, zgp⟩
            | map es bs clock => exact h.elim
            | iter m since seen last => exact h.elim
            | ghost o gh => exact h.elim
          · exact h.elim
      · exact h.elim
  | binOp op t x y yt =>
    simp only [ho] at h ⊢
    have hev' := hev
    rw [ho] at hev'
    unfold zqx at h ⊢
    rw [hev' x (by simp [Op.operands]), hev' y (by simp [Op.operands])]
    split at h
    · obtain ⟨i, hi, h⟩ := ze h
      refine za i hi ?_
      cases hty : i.ty with
      | slice e =>
        rw [hty] at h
        cases op with
        | eql => exact fun b hb => hputO _ st (h b hb)
        | neq => exact fun b hb => hputO _ st (h b hb)
        | _ => exact h.elim
      | _ => rw [hty] at h; exact h.elim
    · exact hval _ ho.symm h
  | convert s t x =>
    simp only [ho] at h ⊢
    have hev' := hev
    rw [ho] at hev'
    unfold yi3 at h ⊢
    rw [hev' x (by simp [Op.operands])]
    split at h
    · obtain ⟨hb, h⟩ := zpc h
      refine zpd hb ?_
      obtain ⟨i, hi, h⟩ := ze h
      refine za i hi ?_
      split at h
      · obtain ⟨ie, hie, h⟩ := ze h
        obtain ⟨hu, h⟩ := zpc h
        obtain ⟨top, htop, h⟩ := ze h
        exact za ie hie (zpd hu (za top htop (hputO _ st h)))
      · exact h.elim
    · exact hval _ ho.symm h
  | call cl =>
    simp only [ho] at h ⊢
    have hev' := hev
    rw [ho] at hev'
    cases hcl : cl.callee with
    | value f =>
      simp only [hcl] at h ⊢
      rw [hev' f (by simp [Op.operands, Call.operands, hcl])]
      split at h
      · obtain ⟨vs, hvs, h⟩ := ze h
        have e : (cl.args.toList.mapM fun x => ((zz A D).ev x).toAV) = cl.args.toList.mapM fun x => (A.ev x).toAV :=
          zj2 fun x hx => hev' x (by simp [Op.operands, Call.operands]; exact .inr (by simpa using hx))
        rw [e]
        refine za vs hvs ⟨fun Oth M w us sto hr => ?_⟩
        have := h.out Oth M w us sto hr
        have hpost : ∀ v w', zt st (fun r st' => putO A c.n o.dst (.av r) fun A' => K A' st') Oth M w v w' -> zt st (fun r st' => putO (zz A D) c.n o.dst (.av r) fun B' => ∃ A', K A' st' /\ B' = zz A' D /\ Kept o A A') Oth M w v w' :=
          fun v w' ⟨r, st', M', h1, h2⟩ => ⟨r, st', M', hputO _ st' h1, h2⟩
        generalize (callFunc _ us).run P w = res at *
        cases res with
        | halt x w' => exact this.elim
        | ok nx w' =>
          cases nx with
          | enter f as => exact Calls.mono this fun e w'' ⟨v, he, hp⟩ => ⟨v, he, hpost v w'' hp⟩
          | value v => exact hpost v w' this
          | _ => exact this.elim
      · exact h.elim
    | invoke y m =>
      simp only [hcl] at h ⊢
      unfold zj6 at h ⊢
      rw [hev' y (by simp [Op.operands, Call.operands, hcl])]
      split at h
      · obtain ⟨vs, hvs, g, x, hm, h⟩ := ze h
        have e : (cl.args.toList.mapM fun x => ((zz A D).ev x).toAV) = cl.args.toList.mapM fun x => (A.ev x).toAV :=
          zj2 fun x hx => hev' x (by simp [Op.operands, Call.operands]; exact .inr (by simpa using hx))
        rw [e]
        refine za vs hvs ⟨g, x, hm, ⟨fun Oth M w us sto hr => ?_⟩⟩
        have := h.out Oth M w us sto hr
        have hpost : ∀ v w', zt st (fun r st' => putO A c.n o.dst (.av r) fun A' => K A' st') Oth M w v w' -> zt st (fun r st' => putO (zz A D) c.n o.dst (.av r) fun B' => ∃ A', K A' st' /\ B' = zz A' D /\ Kept o A A') Oth M w v w' :=
          fun v w' ⟨r, st', M', h1, h2⟩ => ⟨r, st', M', hputO _ st' h1, h2⟩
        generalize (callFunc _ us).run P w = res at *
        cases res with
        | halt x w' => exact this.elim
        | ok nx w' =>
          cases nx with
          | enter f as => exact Calls.mono this fun e w'' ⟨v, he, hp⟩ => ⟨v, he, hpost v w'' hp⟩
          | value v => exact hpost v w' this
          | _ => exact this.elim
      · exact h.elim
    | builtin b =>
      cases b with
      | append =>
        simp only [hcl] at h ⊢
        obtain ⟨t, ht, h⟩ := ze h
        obtain ⟨i, hi, h⟩ := ze h
        obtain ⟨s, hs, h⟩ := ze h
        obtain ⟨x, hx, h⟩ := ze h
        refine za t ht (za i hi (za s hs (za x hx ?_)))
        rw [hev' s (by simp [Op.operands, Call.operands, hcl]; exact Array.mem_of_getElem? hs), hev' x (by simp [Op.operands, Call.operands, hcl]; exact Array.mem_of_getElem? hx)]
        split at h
        · cases hb : (cl.argTypes[1]?.bind c.I).any zf2 with
          | false => rw [hb] at h; exact hX h
          | true =>
          rw [hb] at h
          replace h := h.out
          rcases h with h | ⟨s', x', hes, hex, h⟩
          rotate_left
          · refine ⟨.inr ⟨s', x', hes, hex, h.has, fun ie hie Oth M w sv xv at' ty args t sto h1 h2 h3 h4 h5 h6 h7 h8 => ?_⟩⟩
            obtain ⟨v, w', hr, r, st', M', hK, hp⟩ := h.out ie hie Oth M w sv xv at' ty args t sto h1 h2 h3 h4 h5 h6 h7 h8
            exact ⟨v, w', hr, r, st', M', hputO _ st' hK, hp⟩
          refine ⟨.inl ?_⟩
          unfold zpl at h ⊢
          obtain ⟨ie, hie, h⟩ := ze h
          refine za ie hie ?_
          split at h
          · obtain ⟨rows, hrows, hroom, h⟩ := ze h
            exact za rows hrows ⟨hroom, fun v st' ho => hputO _ st' (h v st' ho)⟩
          · obtain ⟨rows, hrows, hroom, h⟩ := ze h
            exact za rows hrows ⟨hroom, fun v st' ho => hputO _ st' (h v st' ho)⟩
          · rename_i k rows b hev2
            obtain ⟨hk, h⟩ := zpc h
            obtain ⟨rows', hrows, htok, hroom, h⟩ := ze h
            exact zpd hk (za rows' hrows ⟨htok, hroom, fun v st' ho => hputO _ st' (h v st' ho)⟩)
          · exact h.elim
        · exact h.elim
      | _ => simp only [hcl] at h ⊢; have := hval o.op rfl (by rw [ho]; exact h); rw [ho] at this; exact this
  | _ => simp only [ho] at h ⊢; exact hval _ ho.symm h
end
end Go.V
namespace Go.V
section
variable {P : Program} {c : Cfg} {ops : Array Oper}
theorem all_range {n : Nat} {p : Nat -> Bool} : (List.range n).all p = true ↔ ∀ i, i < n -> p i = true := by
  simp [List.all_eq_true]
structure OpFacts (c : Cfg) (ops : Array Oper) (i : Nat) (o : Oper) : Prop where
  lt : ∀ j ∈ qd ops i, j < i
  sel : ∀ cs b, o.op ≠ .select cs b
  nd : ∀ cl, o.op ≠ .defer cl
  dst : isV c o = true -> ∃ d, o.dst = some d
  dlt : ∀ d, o.dst = some d -> d < c.n
  own : ∀ d, o.dst = some d -> d ∉ o.looksAt ops
  one : ∀ d, o.dst = some d -> ∀ k o', ops[k]? = some o' -> k ≠ i -> o'.dst ≠ some d
  look : ∀ d, o.dst = some d -> ∀ k o', ops[k]? = some o' -> k ≠ i -> d ∈ o'.looksAt ops -> i ∈ qd ops k \/ (isV c o = false /\ k ∈ qd ops i)
theorem qw (h : ze0 c ops = true) {i : Nat} {o : Oper} (hi : ops[i]? = some o) : OpFacts c ops i o := by
  have hlt : i < ops.size := (Array.getElem?_eq_some_iff.1 hi).1
  have h1 := all_range.1 h i hlt
  simp only [hi, Bool.and_eq_true, List.all_eq_true] at h1
  obtain ⟨⟨hd, hs⟩, h2⟩ := h1
  refine ⟨fun j hj => Nat.le_of_ble_eq_true (hd j hj), fun cs b hop => (by rw [hop] at hs; cases hs), fun cl hop => (by rw [hop] at hs; cases hs), fun hv => ?_, fun d hdst => ?_, fun d hdst => ?_, fun d hdst k o' hk hne => ?_, fun d hdst k o' hk hne hl => ?_⟩
  · cases hdst : o.dst with
    | none => rw [hdst] at h2; simp [hv] at h2
    | some d => exact ⟨d, rfl⟩
  all_goals
    rw [hdst] at h2
    simp only [Bool.and_eq_true, Bool.not_eq_true'] at h2
    obtain ⟨⟨h3, h4⟩, h5⟩ := h2
  · exact Nat.le_of_ble_eq_true h3
  · intro hm
    rw [(mem_iff _ _).2 hm] at h4
    cases h4
  all_goals
    have hklt : k < ops.size := (Array.getElem?_eq_some_iff.1 hk).1
    have h6 := all_range.1 h5 k hklt
    rw [hk] at h6
    simp only [Bool.or_eq_true, nbeq hne, Bool.false_eq_true, false_or, Bool.and_eq_true, Bool.not_eq_true'] at h6
  · intro hd'
    rw [hd'] at h6
    simp at h6
  · rcases h6.2 with (h | h) | h
    · rw [(mem_iff _ _).2 hl] at h; cases h
    · exact .inl ((mem_iff _ _).1 h)
    · exact .inr ⟨h.1, (mem_iff _ _).1 h.2⟩
theorem zpb {p q : Nat -> Bool} {i : Nat} : ∀ (l : List Nat), l.Nodup -> i ∈ l -> p i = true -> q i = false -> (∀ j, j ≠ i -> p j = q j) -> l.countP p = l.countP q + 1 := by
  intro l
  induction l with
  | nil => intro _ h; cases h
  | cons a l ih =>
    intro hn hi hp hq he
    rw [List.nodup_cons] at hn
    rw [List.countP_cons, List.countP_cons]
    by_cases ha : a = i
    · subst ha
      have : l.countP p = l.countP q := List.countP_congr fun j hj => by rw [he j fun h => hn.1 (h ▸ hj)]
      rw [this, hp, hq]
      simp
    · have hi' : i ∈ l := by
        rcases List.mem_cons.1 hi with h | h
        · exact absurd h.symm ha
        · exact h
      rw [ih hn.2 hi' hp hq he, he a ha]
      omega
/-- How many are still to come. -/
def left (ops : Array Oper) (listed : Array Bool) : Nat := (List.range ops.size).countP fun i => !listed.getD i true
theorem ze9 {listed : Array Bool} (hs : listed.size = ops.size) {i : Nat} (hi : i < ops.size) (hl : listed.getD i true = false) : left ops listed = left ops (listed.setIfInBounds i true) + 1 := by
  unfold left
  refine zpb (i := i) _ List.nodup_range (List.mem_range.2 hi) (by simp [hl]) ?_ fun j hj => ?_
  · simp [hs, hi]
  · rw [getD_set_ne true (Ne.symm hj)]
theorem zme {listed : Array Bool} (h : left ops listed = 0) {i : Nat} (hi : i < ops.size) : listed.getD i true = true := by
  unfold left at h
  rw [List.countP_eq_zero] at h
  have := h i (List.mem_range.2 hi)
  simpa using this
theorem least {p : Nat -> Prop} : ∀ n, (∃ i, i < n /\ p i) -> ∃ i, i < n /\ p i /\ ∀ j, j < i -> ¬ p j := by
  intro n
  induction n with
  | zero => rintro ⟨i, h, _⟩; omega
  | succ n ih =>
    rintro ⟨i, h, hp⟩
    by_cases hx : ∃ j, j < n /\ p j
    · obtain ⟨j, h1, h2, h3⟩ := ih hx
      exact ⟨j, by omega, h2, h3⟩
    · have : i = n := Nat.le_antisymm (by omega) (Nat.not_lt.1 fun hl => hx ⟨i, hl, hp⟩)
      subst this
      exact ⟨i, h, hp, fun j hj hpj => hx ⟨j, hj, hpj⟩⟩
theorem zqk {i j : Nat} {o : Oper} (hi : ops[i]? = some o) : j ∈ qd ops i ↔ ∃ e ∈ o.after, Region.binds .any e = true /\ e.on = j := by
  unfold qd
  rw [hi]
  simp only [List.mem_filterMap, Array.mem_toList_iff]
  constructor
  · rintro ⟨e, he, hx⟩
    cases hb : Region.binds .any e with
    | false => rw [hb] at hx; cases hx
    | true => rw [hb] at hx; simp at hx; exact ⟨e, he, hb, hx⟩
  · rintro ⟨e, he, hb, hx⟩
    exact ⟨e, he, by simp [hb, hx]⟩
theorem ready_iff {i : Nat} {listed : Array Bool} : i ∈ Region.ready .any ops listed ↔ listed.getD i true = false /\ i < ops.size /\ ∀ j ∈ qd ops i, listed.getD j false = true := by
  rw [mem_ready]
  constructor
  · rintro ⟨h1, o, ho, h2⟩
    refine ⟨h1, (Array.getElem?_eq_some_iff.1 ho).1, fun j hj => ?_⟩
    obtain ⟨e, he, hb, rfl⟩ := (zqk ho).1 hj
    exact h2 e he hb
  · rintro ⟨h1, hlt, h2⟩
    refine ⟨h1, ops[i], Array.getElem?_eq_getElem hlt, fun e he hb => h2 _ ((zqk (Array.getElem?_eq_getElem hlt)).2 ⟨e, he, hb, rfl⟩)⟩
/-- The slots of some operations. -/
def xp (ops : Array Oper) (U : List Nat) : List Nat := U.filterMap fun i => (ops[i]?).bind (·.dst)
theorem mem_dsts {U : List Nat} {t : Nat} : t ∈ xp ops U ↔ ∃ k ∈ U, ∃ o, ops[k]? = some o /\ o.dst = some t := by
  unfold xp
  rw [List.mem_filterMap]
  constructor
  · rintro ⟨k, hk, h⟩
    cases ho : ops[k]? with
    | none => rw [ho] at h; cases h
    | some o => rw [ho] at h; exact ⟨k, hk, o, ho, h⟩
  · rintro ⟨k, hk, o, ho, h⟩
    exact ⟨k, hk, by rw [ho]; exact h⟩
theorem SimB.weaken {n : Nat} {Oth M : Nat -> Nat -> Prop} {β : Nat -> Nat} {A B : Fr} {st : Store} {a : Act} {w : World} (h : SimB n Oth β A st M a w) (hb : B.bx = A.bx) (ht : ∀ t, A.t t = B.t t \/ B.t t = .any) : SimB n Oth β B st M a w where
  tsz := h.tsz
  dfr := h.dfr
  tm i := by
    rcases ht i with h1 | h1
    · rw [<- h1]; exact h.tm i
    · rw [h1]; trivial
  bx := by rw [hb]; exact h.bx
  inj := by rw [hb]; exact h.inj
  sep := by rw [hb]; exact h.sep
  sto := h.sto
theorem Oper.wp_q {o : Oper} {a : Act} {w : World} {K : Act -> World -> Prop} {Q : Exit -> Act -> World -> Prop} (h : o.wp P a w K fun _ _ _ => False) : o.wp P a w K Q := by
  unfold Oper.wp at *
  generalize (execOp a.eval o).run P w = r at *
  cases r with
  | ok n w' =>
    cases n <;> simp only [Oper.upon] at h ⊢ <;>
      first
        | exact h
        | exact Calls.mono h (fun e w'' he => by cases e <;> first | exact he | exact he.elim | (obtain ⟨_, _, he⟩ := he; exact he.elim))
        | exact Rows.mono h (fun _ _ he => he)
  | halt x w' => cases x <;> simp only [Oper.upon] at h ⊢ <;> exact h.elim
/-- An operation whose value stands, carried out. -/
theorem zyb (hI : zw P c.I) {o : Oper} {d : Nat} {x : LV} {B : Fr} {st : Store} (hd : o.dst = some d) (hlt : d < c.n) (h : vcW c B.ev B.bx st d o.op (fun y => y = x)) : AOp P c.n o (fun A' st' => A' = B.put d x /\ st' = st) B st := by
  have key : (∀ t n ps, o.op ≠ .buildSlice t n ps) -> AOp P c.n o (fun A' st' => A' = B.put d x /\ st' = st) B st := by
    intro hne
    refine zhe hI (za d hd ?_)
    simp only [show Nat.blt d c.n = true from Nat.ble_eq_true_of_le hlt, cond_true]
    unfold vcW at h
    split at h
    · rename_i heq; exact absurd heq (hne _ _ _)
    · exact zpt hI (fun y hy => ⟨by rw [hy], Tv⟩) h
  cases hop : o.op with
  | buildSlice t n parts =>
    clear key
    rw [hop] at h
    obtain ⟨i, ie, e, rows, y, hi, hty, hie, hrows, hone, hroom, hy, hyx, _⟩ := zqw (show bsK c B.ev t n parts (fun y => y = x) from h)
    subst hyx
    refine zca (c := { c with G := [] }) hop hI (za i hi (za d hd ?_))
    simp only [show Nat.blt d c.n = true from Nat.ble_eq_true_of_le hlt, cond_true, hty]
    refine za ie hie (za rows hrows ?_)
    rw [hone]
    refine ⟨hroom, ?_⟩
    cases rows with
    | nil => subst hy; exact ⟨rfl, Tv⟩
    | cons r rs => subst hy; exact ⟨rfl, Tv⟩
  | _ => exact key (by rw [hop]; intro _ _ _ h; cases h)
theorem xz {o : Oper} {A B : Fr} (h : ∀ t ∈ o.looksAt ops, B.t t = A.t t) : j9 ops o B = j9 ops o A := by
  unfold j9
  cases hg : o.guard with
  | none => rfl
  | some jw =>
    obtain ⟨j, want⟩ := jw
    simp only
    cases hd : (ops[j]?).bind (·.dst) with
    | none => rfl
    | some t =>
      simp only
      rw [h t (by unfold Oper.looksAt; rw [hg]; simp [hd])]
theorem zwg {o : Oper} {t : Nat} (h : Operand.tmp t ∈ o.op.operands) : t ∈ o.looksAt ops :=
  List.mem_append_left _ (List.mem_filterMap.2 ⟨.tmp t, by simpa using h, rfl⟩)
theorem zkf {o : Oper} {A B : Fr} (h : ∀ t ∈ o.looksAt ops, B.t t = A.t t) : ∀ x ∈ o.op.operands, B.ev x = A.ev x := by
  intro x hx
  cases x with
  | tmp t => exact h t (zwg hx)
  | _ => rfl
theorem stands_iff {A : Fr} {st : Store} {i : Nat} : stands c ops A st i ↔ ∃ o d, ops[i]? = some o /\ o.dst = some d ∧
    ((j9 ops o A = some true /\ vcW c A.ev A.bx st d o.op fun x => x = A.t d) \/ (j9 ops o A = some false /\ A.t d = .und)) := by
  unfold stands
  constructor
  · intro h
    obtain ⟨o, ho, h⟩ := ze h
    obtain ⟨d, hd, h⟩ := ze h
    exact ⟨o, d, ho, hd, guardK_iff.1 h⟩
  · rintro ⟨o, d, ho, hd, h⟩
    exact za o ho (za d hd (guardK_iff.2 h))
/-- A value that stands, in another frame. -/
theorem zeg {A B : Fr} {st st' : Store} {i : Nat} {o : Oper} (hi : ops[i]? = some o) (h : stands c ops A st i) (hl : ∀ t ∈ o.looksAt ops, B.t t = A.t t) (hd : ∀ d, o.dst = some d -> B.t d = A.t d)
    (hn : (B.bx = A.bx /\ st' = st) \/ zin o.op = true) : stands c ops B st' i := by
  obtain ⟨o', d, ho, hdst, h⟩ := stands_iff.1 h
  rw [hi] at ho
  cases ho
  refine stands_iff.2 ⟨o, d, hi, hdst, ?_⟩
  rw [xz hl, hd d hdst]
  refine h.imp (fun h => ⟨h.1, ?_⟩) id
  have h2 := zfn (ev' := B.ev) (zkf hl) h.2
  rcases hn with ⟨h3, h4⟩ | hn
  · rw [h3, h4]; exact h2
  · exact zrd hn h2
theorem zjn {A : Fr} {st : Store} : ∀ {l : List Nat}, kr c ops A st l -> ∀ i ∈ l, stands c ops A st i := by
  intro l
  induction l with
  | nil => intro _ i h; cases h
  | cons a l ih =>
    intro h i hi
    rcases List.mem_cons.1 hi with rfl | h'
    · exact h.1
    · exact ih h.2 i h'
/-- What the effect 'i' does, in the schedule. -/
def zxn (P : Program) (c : Cfg) (ops : Array Oper) (K : Fr -> Store -> Prop) (i : Nat) (chk : List Nat) (r : Sched) (A : Fr) (st : Store) : Prop :=
  optK ops[i]? fun o =>
      zeo ops o A (fun A => vcOp P c o (fun A' st' => kr c ops A' st' chk /\ vcDr P c ops K r A' st') A st)
        (fun A => putO A c.n o.dst .und fun A' => kr c ops A' st chk /\ vcDr P c ops K r A' st)
theorem yje {K : Fr -> Store -> Prop} {A : Fr} {st : Store} {i : Nat} {L : List Nat} : ∀ (S : Sched) (first : Bool), qb c ops S L first = true -> vcDr P c ops K S A st -> i ∈ znm S ->
    ∃ chk r, zxo c ops i chk L = true /\ qb c ops r (i :: L) true = true /\ zxn P c ops K i chk r A st := by
  intro S
  induction S with
  | done => intro _ _ _ h; cases h
  | stop => intro _ _ _ h; cases h
  | v j r _ => intro _ _ _ h; cases h
  | e j chk r alt _ ih =>
    intro first hs hv hi
    simp only [qb, Bool.and_eq_true] at hs
    simp only [znm, List.mem_cons] at hi
    rcases hi with rfl | hi
    · exact ⟨chk, r, hs.1.1.1, hs.1.1.2, hv.1⟩
    · exact ih false hs.1.2 hv.2 hi
structure DInv (c : Cfg) (ops : Array Oper) (Oth M0 : Nat -> Nat -> Prop) (w0 : World) (listed : Array Bool) (Lab U : List Nat) (A : Fr) (st : Store) (M : Nat -> Nat -> Prop) (a : Act) (w : World) : Prop where
  lsz : listed.size = ops.size
  lst : ∀ i, i < ops.size -> (listed.getD i false = true ↔ i ∈ Lab /\ i ∉ U)
  usub : ∀ i ∈ U, i ∈ Lab
  lab : ∀ i ∈ Lab, i < ops.size /\ ∀ j ∈ qd ops i, j ∈ Lab
  uv : ∀ i ∈ U, ∃ o, ops[i]? = some o /\ isV c o = true
  std : ∀ i ∈ U, stands c ops A st i
  sim : Sim c.n Oth (zz A (xp ops U)) st M a w
  chg : Chg M0 w0 M w
  cls : ∀ i, i < ops.size -> listed.getD i false = true -> ∀ j ∈ qd ops i, listed.getD j false = true
theorem zoy {listed : Array Bool} {i : Nat} (h : i < listed.size) : listed.getD i true = listed.getD i false := by
  simp [h]
theorem zly {ops : Array Oper} {listed : Array Bool} (cls : ∀ i, i < ops.size -> listed.getD i false = true -> ∀ j ∈ qd ops i, listed.getD j false = true) (hlt : ∀ i j, j ∈ qd ops i -> j < ops.size) {i : Nat} (hi : ∀ j ∈ qd ops i, listed.getD j false = true) :
    ∀ k ∈ zva ops i, listed.getD k false = true := by
  have key : ∀ (l acc : List Nat), (∀ k ∈ acc, k < ops.size /\ listed.getD k false = true) -> ∀ k ∈ l.foldl (fun acc j => bif mem j acc then qd ops j ++ acc else acc) acc, k < ops.size /\ listed.getD k false = true := by
    intro l
    induction l with
    | nil => intro acc h; exact h
    | cons j l ih =>
      intro acc h
      refine ih _ ?_
      by_cases hm : mem j acc = false
      · simp only [hm, cond_false]; exact h
      · have hm : mem j acc = true := by simpa using hm
        have hj := h j ((mem_iff _ _).1 hm)
        intro k hk
        simp only [hm, cond_true, List.mem_append] at hk
        rcases hk with hk | hk
        · exact ⟨hlt j k hk, cls j hj.1 hj.2 k hk⟩
        · exact h k hk
  exact fun k hk => (key _ _ (fun k hk => ⟨hlt i k hk, hi k hk⟩) k hk).2
end
end Go.V
namespace Go.V
section
variable {P : Program} {c : Cfg} {ops : Array Oper} {Oth M0 : Nat -> Nat -> Prop} {w0 : World}
def zea (c : Cfg) (Oth M0 : Nat -> Nat -> Prop) (w0 : World) (K : Fr -> Store -> Prop) : Exit -> Act -> World -> Prop :=
  fun e a' w' => ∃ A' st' M', (match e with | .normal => K A' st' | _ => False) /\ Sim c.n Oth A' st' M' a' w' /\ Chg M0 w0 M' w'
theorem zyp (hI : zw P c.I) {ev : Operand -> LV} {bx : Nat -> Option (List AV)} {st : Store} {d : Nat} {op : Op} {K : LV -> Prop} (h : vcW c ev bx st d op K) : ∃ x, K x /\ vcW c ev bx st d op fun y => y = x := by
  unfold vcW at h ⊢
  split at h
  · obtain ⟨_, _, _, _, x, _, _, _, _, _, _, _, hx, hx'⟩ := zqw h
    exact ⟨x, hx, hx' _ rfl⟩
  · obtain ⟨x, hx, hx', _⟩ := zje hI _ h
    exact ⟨x, hx, hx' _ rfl⟩
section
variable {listed : Array Bool} {Lab U : List Nat} {A : Fr} {st : Store} {M : Nat -> Nat -> Prop} {a : Act} {w : World}
theorem DInv.listed_iff (h : DInv c ops Oth M0 w0 listed Lab U A st M a w) {i : Nat} (hi : i < ops.size) : listed.getD i true = false ↔ ¬ (i ∈ Lab /\ i ∉ U) := by
  rw [zoy (by rw [h.lsz]; exact hi), <- h.lst i hi]
  simp
theorem DInv.done (hops : ze0 c ops = true) {K : Fr -> Store -> Prop} {S : Sched} (h : DInv c ops Oth M0 w0 listed Lab U A st M a w) (hs : qb c ops S Lab true = true) (hv : vcDr P c ops K S A st)
    (hl : left ops listed = 0) : zea c Oth M0 w0 K .normal a w := by
  have hall : ∀ i, i < ops.size -> i ∈ Lab /\ i ∉ U := fun i hi => by
    have := zme hl hi
    rw [zoy (by rw [h.lsz]; exact hi)] at this
    exact (h.lst i hi).1 this
  have hU : U = [] := by
    cases U with
    | nil => rfl
    | cons u U => exact absurd (List.mem_cons_self) (hall u (h.lab u (h.usub u List.mem_cons_self)).1).2
  subst hU
  cases S with
  | done => exact ⟨A, st, M, hv, h.sim, h.chg⟩
  | stop => simp [qb] at hs
  | v i r =>
    simp only [qb, Bool.and_eq_true, Bool.not_eq_true'] at hs
    have hlt : i < ops.size := Nat.le_of_ble_eq_true hs.2.1.1.1.2
    have := hs.2.1.1.1.1
    rw [(mem_iff _ _).2 (hall i hlt).1] at this
    cases this
  | e i chk r alt =>
    simp only [qb, zxo, Bool.and_eq_true, Bool.not_eq_true'] at hs
    have hlt : i < ops.size := Nat.le_of_ble_eq_true hs.1.1.1.1.1.1.2
    have := hs.1.1.1.1.1.1.1
    rw [(mem_iff _ _).2 (hall i hlt).1] at this
    cases this
theorem DInv.ready_ne (hops : ze0 c ops = true) (h : DInv c ops Oth M0 w0 listed Lab U A st M a w) {n : Nat} (hl : left ops listed = n + 1) : Region.ready .any ops listed ≠ [] := by
  intro hr
  have hex : ∃ i, i < ops.size /\ listed.getD i true = false := by
    unfold left at hl
    have : 0 < (List.range ops.size).countP fun i => !listed.getD i true := by omega
    obtain ⟨i, hi, hp⟩ := List.countP_pos_iff.1 this
    exact ⟨i, List.mem_range.1 hi, by simpa using hp⟩
  obtain ⟨i, hi, hp, hmin⟩ := least ops.size hex
  have : i ∈ Region.ready .any ops listed := by
    rw [ready_iff]
    refine ⟨hp, hi, fun j hj => ?_⟩
    have hlt := (qw hops (Array.getElem?_eq_getElem hi)).lt j hj
    have := hmin j hlt
    rw [zoy (by rw [h.lsz]; omega)] at this
    simpa using this
  rw [hr] at this
  cases this
/-- What a ready operation looks at stands in the frame. -/
theorem DInv.clear (hops : ze0 c ops = true) (h : DInv c ops Oth M0 w0 listed Lab U A st M a w) {i : Nat} (hr : i ∈ Region.ready .any ops listed) {o : Oper} (hi : ops[i]? = some o) : ∀ t ∈ o.looksAt ops, t ∉ xp ops U := by
  intro t ht hd
  obtain ⟨k, hk, o', ho', hd'⟩ := mem_dsts.1 hd
  have hf := qw hops ho'
  by_cases hki : i = k
  · subst hki
    rw [hi] at ho'
    cases ho'
    exact hf.own t hd' ht
  · obtain ⟨o2, ho2, hv⟩ := h.uv k hk
    rw [ho'] at ho2
    cases ho2
    rcases hf.look t hd' i o hi hki ht with h1 | ⟨h1, _⟩
    · have := (ready_iff.1 hr).2.2 k h1
      exact ((h.lst k (h.lab k (h.usub k hk)).1).1 this).2 hk
    · rw [hv] at h1; cases h1
theorem DInv.look (h : DInv c ops Oth M0 w0 listed Lab U A st M a w) {i : Nat} {o : Oper} (hl : ∀ t ∈ o.looksAt ops, t ∉ xp ops U) : ∀ t ∈ o.looksAt ops, (zz A (xp ops U)).t t = A.t t :=
  fun t ht => zdc (hl t ht)
theorem yoh (hops : ze0 c ops = true) : ∀ i j, j ∈ qd ops i -> j < ops.size := by
  intro i j hj
  cases hi : ops[i]? with
  | none => unfold qd at hj; rw [hi] at hj; simp at hj
  | some o =>
    have := (qw hops hi).lt j hj
    have h2 := (Array.getElem?_eq_some_iff.1 hi).1
    omega
theorem zxw (h : DInv c ops Oth M0 w0 listed Lab U A st M a w) (hops : ze0 c ops = true) {i : Nat} (hr : i ∈ Region.ready .any ops listed) :
    ∀ k, k < ops.size -> (listed.setIfInBounds i true).getD k false = true -> ∀ j ∈ qd ops k, (listed.setIfInBounds i true).getD j false = true := by
  have mono : ∀ j, listed.getD j false = true -> (listed.setIfInBounds i true).getD j false = true := by
    intro j hj
    by_cases hji : i = j
    · subst hji
      have : i < listed.size := by
        rw [h.lsz]; exact (ready_iff.1 hr).2.1
      simp [this]
    · rw [getD_set_ne false hji]; exact hj
  intro k hk hl j hj
  by_cases hki : i = k
  · subst hki; exact mono j ((ready_iff.1 hr).2.2 j hj)
  · rw [getD_set_ne false hki] at hl
    exact mono j (h.cls k hk hl j hj)
/-- A pending operation comes. -/
theorem DInv.pend (hI : zw P c.I) (hops : ze0 c ops = true) {K : Fr -> Store -> Prop} {fuel : Nat} (h : DInv c ops Oth M0 w0 listed Lab U A st M a w) {i : Nat} (hr : i ∈ Region.ready .any ops listed) (hU : i ∈ U)
    (ih : ∀ (U' : List Nat) (M' : Nat -> Nat -> Prop) (a' : Act) (w' : World), DInv c ops Oth M0 w0 (listed.setIfInBounds i true) Lab U' A st M' a' w' -> wpAny P .any ops (zea c Oth M0 w0 K) fuel (listed.setIfInBounds i true) a' w') :
    wpOp P ops (zea c Oth M0 w0 K) i (wpAny P .any ops (zea c Oth M0 w0 K) fuel (listed.setIfInBounds i true)) a w := by
  obtain ⟨o, d, hi, hd, hst⟩ := stands_iff.1 (h.std i hU)
  have hf := qw hops hi
  have hclear := h.clear hops hr hi
  have hlook := h.look (i := i) hclear
  have hilt := (Array.getElem?_eq_some_iff.1 hi).1
  -- the frame behind it
  have next : ∀ (M' : Nat -> Nat -> Prop) (a' : Act) (w' : World), Sim c.n Oth ((zz A (xp ops U)).put d (A.t d)) st M' a' w' -> Chg M w M' w' ->
      wpAny P .any ops (zea c Oth M0 w0 K) fuel (listed.setIfInBounds i true) a' w' := by
    rintro M' a' w' ⟨β, sim⟩ hchg
    refine ih (U.filter fun k => !Nat.beq k i) M' a' w' ⟨by simp [h.lsz], fun j hj => ?_, fun j hj => h.usub j (List.mem_filter.1 hj).1, h.lab, fun j hj => h.uv j (List.mem_filter.1 hj).1, fun j hj => h.std j (List.mem_filter.1 hj).1, ⟨β, sim.weaken rfl fun t => ?_⟩, h.chg.trans hchg, zxw h hops hr⟩
    · by_cases hji : i = j
      · subst hji
        have : i < listed.size := by rw [h.lsz]; exact hilt
        simp [this, h.usub i hU]
      · rw [getD_set_ne false hji, h.lst j hj]
        simp [List.mem_filter, nbeq (Ne.symm hji)]
    · by_cases ht : t = d
      · subst ht
        left
        rw [zdc]
        · simp [Fr.put]
        · intro hm
          obtain ⟨k, hk, o', ho', hd'⟩ := mem_dsts.1 hm
          have hki : k ≠ i := by
            have := (List.mem_filter.1 hk).2
            intro h; subst h; simp at this
          exact hf.one t hd k o' ho' hki hd'
      · by_cases hm : t ∈ xp ops (U.filter fun k => !Nat.beq k i)
        · right; simp [zz, (mem_iff _ _).2 hm]
        · left
          have hm2 : t ∉ xp ops U := by
            intro h2
            obtain ⟨k, hk, o', ho', hd'⟩ := mem_dsts.1 h2
            refine hm (mem_dsts.2 ⟨k, List.mem_filter.2 ⟨hk, ?_⟩, o', ho', hd'⟩)
            by_cases hki : k = i
            · subst hki; rw [hi] at ho'; cases ho'; rw [hd] at hd'; cases hd'; exact absurd rfl ht
            · simp [nbeq hki]
          simp only [Fr.put, nbeq ht, cond_false]
          rw [zdc hm, zdc hm2]
  unfold Go.wpOp
  simp only [hi]
  rcases hst with ⟨hg, hv⟩ | ⟨hg, hu⟩
  · have hg' : j9 ops o (zz A (xp ops U)) = some true := by rw [xz hlook]; exact hg
    rw [kj h.sim hg']
    simp only [if_true]
    refine .inl (Oper.wp_q (Oper.wp_mono ?_ (zyb hI hd (hf.dlt d hd) (zfn (ev' := (zz A (xp ops U)).ev) (zkf hlook) hv) Oth M a w h.sim)))
    rintro a' w' ⟨A', st', M', ⟨hA, hst⟩, hsim, hchg⟩
    subst hA hst
    exact next M' a' w' hsim hchg
  · have hg' : j9 ops o (zz A (xp ops U)) = some false := by rw [xz hlook]; exact hg
    rw [kj h.sim hg']
    simp only [Bool.false_eq_true, if_false]
    obtain ⟨β, sim⟩ := h.sim
    refine next M _ w ⟨β, ?_⟩ (Chg.refl M w)
    rw [hd, hu]
    exact sim.put (hf.dlt d hd) rfl
/-- An effect comes. -/
theorem DInv.eff (hI : zw P c.I) (hops : ze0 c ops = true) {K : Fr -> Store -> Prop} {fuel : Nat} (h : DInv c ops Oth M0 w0 listed Lab U A st M a w) {i : Nat} (hr : i ∈ Region.ready .any ops listed) {chk : List Nat} {r : Sched}
    (he : zxo c ops i chk Lab = true) (hv : zxn P c ops K i chk r A st)
    (ih : ∀ (A' : Fr) (st' : Store) (M' : Nat -> Nat -> Prop) (a' : Act) (w' : World), vcDr P c ops K r A' st' -> DInv c ops Oth M0 w0 (listed.setIfInBounds i true) (i :: Lab) U A' st' M' a' w' -> wpAny P .any ops (zea c Oth M0 w0 K) fuel (listed.setIfInBounds i true) a' w') :
    wpOp P ops (zea c Oth M0 w0 K) i (wpAny P .any ops (zea c Oth M0 w0 K) fuel (listed.setIfInBounds i true)) a w := by
  obtain ⟨o, hi, hv⟩ := ze hv
  have hf := qw hops hi
  have hclear := h.clear hops hr hi
  have hlook := h.look (i := i) hclear
  have hilt := (Array.getElem?_eq_some_iff.1 hi).1
  simp only [zxo, hi, Bool.and_eq_true, Bool.not_eq_true', List.all_eq_true] at he
  obtain ⟨⟨⟨⟨hnL, _⟩, hdeps⟩, hnV⟩, hL⟩ := he
  have hiL : i ∉ Lab := fun hm => by rw [(mem_iff _ _).2 hm] at hnL; cases hnL
  have hiU : i ∉ U := fun hm => hiL (h.usub i hm)
  have hdD : ∀ d, o.dst = some d -> d ∉ xp ops U := by
    intro d hd hm
    obtain ⟨k, hk, o', ho', hd'⟩ := mem_dsts.1 hm
    exact hf.one d hd k o' ho' (fun h => hiU (h ▸ hk)) hd'
  have hdl : ∀ j ∈ qd ops i, j ∈ Lab /\ j ∉ U := fun j hj => by
    have h1 := (ready_iff.1 hr).2.2 j hj
    have hlt : j < ops.size := by
      have := hf.lt j hj; omega
    exact (h.lst j hlt).1 h1
  have hkr : ∀ k ∈ U, k ∉ zva ops i := fun k hk hm => by
    have h1 := zly h.cls (yoh hops) (ready_iff.1 hr).2.2 k hm
    exact ((h.lst k (h.lab k (h.usub k hk)).1).1 h1).2 hk
  -- what follows
  have next : ∀ (A' : Fr) (st' : Store) (M' : Nat -> Nat -> Prop) (a' : Act) (w' : World), kr c ops A' st' chk -> vcDr P c ops K r A' st' -> Kept o A A' -> ((∃ k, A' = A.put k .und /\ o.dst = some k /\ st' = st) \/ A' = A /\ st' = st \/ True) -> Sim c.n Oth (zz A' (xp ops U)) st' M' a' w' -> Chg M w M' w' ->
      (∀ k ∈ U, k ∉ chk -> ∀ o', ops[k]? = some o' -> ∀ t, o.dst ≠ some t -> A'.t t = A.t t) ->
      wpAny P .any ops (zea c Oth M0 w0 K) fuel (listed.setIfInBounds i true) a' w' := by
    intro A' st' M' a' w' hchk hvc hkept _ hsim hchg hk2
    refine ih A' st' M' a' w' hvc ⟨by simp [h.lsz], fun j hj => ?_, fun j hj => List.mem_cons_of_mem _ (h.usub j hj), fun j hj => ?_, h.uv, fun k hk => ?_, hsim, h.chg.trans hchg, zxw h hops hr⟩
    · by_cases hji : i = j
      · subst hji
        have : i < listed.size := by rw [h.lsz]; exact hilt
        simp [this, hiU]
      · rw [getD_set_ne false hji, h.lst j hj]
        simp [Ne.symm hji]
    · rcases List.mem_cons.1 hj with rfl | hj
      · exact ⟨hilt, fun k hk => List.mem_cons_of_mem _ (hdl k hk).1⟩
      · exact ⟨(h.lab j hj).1, fun k hk => List.mem_cons_of_mem _ ((h.lab j hj).2 k hk)⟩
    · by_cases hkc : k ∈ chk
      · exact zjn hchk k hkc
      · obtain ⟨o', ho', hV⟩ := h.uv k hk
        have hk3 := hk2 k hk hkc o' ho'
        have hki : k ≠ i := fun h => hiU (h ▸ hk)
        have hkd : k ∉ qd ops i := fun hd => (hdl k hd).2 hk
        have h4 := hL k (h.usub k hk)
        have m1 : mem k (zva ops i) = false := jb (hkr k hk)
        have m2 : mem k chk = false := jb hkc
        rw [ho'] at h4
        simp only [m1, m2, Bool.false_or, Bool.or_eq_true, Bool.not_eq_true', Bool.and_eq_true, hV, Bool.true_eq_false, false_or] at h4
        refine zeg ho' (h.std k hk) (fun t ht => hk3 t fun hd => ?_) (fun d hd => hk3 d fun hd2 => hf.one d hd2 k o' ho' hki hd) (.inr h4.1)
        rcases hf.look t hd k o' ho' hki ht with h5 | ⟨_, h5⟩
        · exact hiL ((h.lab k (h.usub k hk)).2 i h5)
        · exact hkd h5
  have hkept : ∀ (A' : Fr), Kept o A A' -> ∀ k ∈ U, k ∉ chk -> ∀ o', ops[k]? = some o' -> ∀ t, o.dst ≠ some t -> A'.t t = A.t t := by
    intro A' hK k hk hkc o' ho' t ht
    obtain ⟨o2, ho2, hV⟩ := h.uv k hk
    rw [ho'] at ho2
    cases ho2
    have hkd : k ∉ qd ops i := fun hd => (hdl k hd).2 hk
    have h4 := hL k (h.usub k hk)
    have m1 : mem k (zva ops i) = false := jb (hkr k hk)
    have m2 : mem k chk = false := jb hkc
    rw [ho'] at h4
    simp only [m1, m2, Bool.false_or, Bool.or_eq_true, Bool.not_eq_true', Bool.and_eq_true, hV, Bool.true_eq_false, false_or] at h4
    refine hK ?_ t ht
    have h5 := h4.2
    revert h5
    cases o.op <;> simp
  unfold Go.wpOp
  simp only [hi]
  rcases guardK_iff.1 hv with ⟨hg, hv⟩ | ⟨hg, hv⟩
  · have hg' : j9 ops o (zz A (xp ops U)) = some true := by rw [xz hlook]; exact hg
    rw [kj h.sim hg']
    simp only [if_true]
    have hF := znu (D := xp ops U) hI hv (fun x hx t ht => hclear t (zwg (by rw [<- ht]; exact hx))) hdD
    refine .inl (Oper.wp_q (Oper.wp_mono ?_ (znl hI hF Oth M a w h.sim)))
    rintro a' w' ⟨B', st', M', ⟨A', ⟨hchk, hvc⟩, hB, hkp⟩, hsim, hchg⟩
    subst hB
    exact next A' st' M' a' w' hchk hvc hkp (.inr (.inr trivial)) hsim hchg (hkept A' hkp)
  · have hg' : j9 ops o (zz A (xp ops U)) = some false := by rw [xz hlook]; exact hg
    rw [kj h.sim hg']
    simp only [Bool.false_eq_true, if_false]
    obtain ⟨β, sim⟩ := h.sim
    unfold putO at hv
    cases hd : o.dst with
    | none =>
      rw [hd] at hv
      exact next A st M _ w hv.1 hv.2 zgp (.inr (.inr trivial)) ⟨β, sim⟩ (Chg.refl M w) (fun _ _ _ _ _ _ _ => rfl)
    | some d =>
      rw [hd] at hv
      obtain ⟨hlt, hv⟩ := qs hv
      refine next (A.put d .und) st M _ w hv.1 hv.2 (zad hd) (.inr (.inr trivial)) ⟨β, ?_⟩ (Chg.refl M w) (fun _ _ _ _ _ t ht => by
        have : t ≠ d := fun h => ht (by rw [h]; exact hd)
        simp [Fr.put, nbeq this])
      rw [<- xe (hdD d hd)]
      exact sim.put hlt rfl
/-- A value moves to the pending ones. -/
theorem DInv.move (hI : zw P c.I) (hops : ze0 c ops = true) {K : Fr -> Store -> Prop} (h : DInv c ops Oth M0 w0 listed Lab U A st M a w) {j : Nat} {r : Sched} (hs : qb c ops (.v j r) Lab true = true) (hv : vcDr P c ops K (.v j r) A st) :
    ∃ A', qb c ops r (j :: Lab) true = true /\ vcDr P c ops K r A' st /\ DInv c ops Oth M0 w0 listed (j :: Lab) (j :: U) A' st M a w := by
  simp only [qb, Bool.and_eq_true, Bool.not_eq_true', true_and] at hs
  obtain ⟨⟨⟨⟨hn, hlt⟩, hV⟩, hdep⟩, hs⟩ := hs
  have hjL : j ∉ Lab := fun hm => by rw [(mem_iff _ _).2 hm] at hn; cases hn
  have hlt : j < ops.size := Nat.le_of_ble_eq_true hlt
  obtain ⟨o, hi, hv⟩ := ze hv
  obtain ⟨d, hd, hv⟩ := ze hv
  rw [hi] at hV
  replace hV : isV c o = true := hV
  have hf := qw hops hi
  have hdl : ∀ k ∈ qd ops j, k ∈ Lab := fun k hk => (mem_iff _ _).1 (List.all_eq_true.1 hdep k hk)
  have key : ∀ x, vcDr P c ops K r (A.put d x) st -> ((j9 ops o A = some true /\ vcW c A.ev A.bx st d o.op fun y => y = x) \/ (j9 ops o A = some false /\ x = .und)) ->
      ∃ A', qb c ops r (j :: Lab) true = true /\ vcDr P c ops K r A' st /\ DInv c ops Oth M0 w0 listed (j :: Lab) (j :: U) A' st M a w := by
    intro x hx hst
    have hout : ∀ t, t ≠ d -> (A.put d x).t t = A.t t := fun t ht => by simp [Fr.put, nbeq ht]
    refine ⟨A.put d x, hs, hx, h.lsz, fun k hk => ?_, fun k hk => ?_, fun k hk => ?_, fun k hk => ?_, fun k hk => ?_, ?_, h.chg, h.cls⟩
    · rw [h.lst k hk]
      by_cases hkj : k = j
      · subst hkj; simp [hjL]
      · simp [hkj]
    · rcases List.mem_cons.1 hk with rfl | hk
      · exact List.mem_cons_self
      · exact List.mem_cons_of_mem _ (h.usub k hk)
    · rcases List.mem_cons.1 hk with rfl | hk
      · exact ⟨hlt, fun k hk => List.mem_cons_of_mem _ (hdl k hk)⟩
      · exact ⟨(h.lab k hk).1, fun k' hk' => List.mem_cons_of_mem _ ((h.lab k hk).2 k' hk')⟩
    · rcases List.mem_cons.1 hk with rfl | hk
      · exact ⟨o, hi, hV⟩
      · exact h.uv k hk
    · rcases List.mem_cons.1 hk with rfl | hk
      · have hl : ∀ t ∈ o.looksAt ops, (A.put d x).t t = A.t t := fun t ht => hout t fun hh => hf.own d hd (hh ▸ ht)
        refine stands_iff.2 ⟨o, d, hi, hd, ?_⟩
        rw [xz hl, show (A.put d x).t d = x by simp [Fr.put]]
        exact hst.imp (fun h => ⟨h.1, zfn (ev' := (A.put d x).ev) (zkf hl) h.2⟩) id
      · obtain ⟨o', ho', hV'⟩ := h.uv k hk
        have hkj : k ≠ j := fun hh => hjL (hh ▸ h.usub k hk)
        refine zeg ho' (h.std k hk) (fun t ht => hout t fun hh => ?_) (fun d' hd' => hout d' fun hh => hf.one d hd k o' ho' hkj (hh ▸ hd')) (.inl ⟨rfl, rfl⟩)
        subst hh
        rcases hf.look t hd k o' ho' hkj ht with h5 | ⟨h5, _⟩
        · exact hjL ((h.lab k (h.usub k hk)).2 j h5)
        · rw [hV] at h5; cases h5
    · obtain ⟨β, sim⟩ := h.sim
      refine ⟨β, sim.weaken rfl fun t => ?_⟩
      have hds : xp ops (j :: U) = d :: xp ops U := by simp [xp, hi, hd]
      rw [hds]
      by_cases ht : t = d
      · subst ht; right; simp [zz, mem]
      · by_cases hm : t ∈ xp ops U
        · right; simp [zz, mem, nbeq ht, (mem_iff _ _).2 hm]
        · left; simp [zz, mem, nbeq ht, jb hm, Fr.put]
  rcases guardK_iff.1 hv with ⟨hg, hv⟩ | ⟨hg, hv⟩
  · have : ∃ x, vcDr P c ops K r (A.put d x) st /\ vcW c A.ev A.bx st d o.op fun y => y = x := zyp hI hv
    obtain ⟨x, h1, h2⟩ := this
    exact key x h1 (.inl ⟨hg, h2⟩)
  · exact key .und hv (.inr ⟨hg, rfl⟩)
end
theorem zxp (hI : zw P c.I) (hops : ze0 c ops = true) {K : Fr -> Store -> Prop} {fuel : Nat}
    (ih : ∀ (S : Sched) (listed : Array Bool) (Lab U : List Nat) (A : Fr) (st : Store) (M : Nat -> Nat -> Prop) (a : Act) (w : World), qb c ops S Lab true = true -> vcDr P c ops K S A st -> DInv c ops Oth M0 w0 listed Lab U A st M a w -> left ops listed = fuel ->
      wpAny P .any ops (zea c Oth M0 w0 K) fuel listed a w) {listed : Array Bool} {M : Nat -> Nat -> Prop} {a : Act} {w : World} {st : Store} (hl : left ops listed = fuel + 1) {i : Nat} (hr : i ∈ Region.ready .any ops listed) :
    ∀ (S : Sched) (Lab U : List Nat) (A : Fr), qb c ops S Lab true = true -> vcDr P c ops K S A st -> DInv c ops Oth M0 w0 listed Lab U A st M a w ->
      wpOp P ops (zea c Oth M0 w0 K) i (wpAny P .any ops (zea c Oth M0 w0 K) fuel (listed.setIfInBounds i true)) a w := by
  obtain ⟨hun, hilt, hdeps⟩ := ready_iff.1 hr
  intro S
  induction S with
  | done =>
    intro Lab U A hs hv h
    by_cases hU : i ∈ U
    · exact h.pend hI hops hr hU fun U' M' a' w' h' => ih .done _ _ _ _ _ _ _ _ hs hv h' (by have := ze9 h.lsz hilt hun; omega)
    · simp only [qb, Bool.true_and] at hs
      exact absurd ⟨(mem_iff _ _).1 (all_range.1 hs i hilt), hU⟩ ((h.listed_iff hilt).1 hun)
  | stop => intro Lab U A hs; simp [qb] at hs
  | v j r ihr =>
    intro Lab U A hs hv h
    by_cases hU : i ∈ U
    · exact h.pend hI hops hr hU fun U' M' a' w' h' => ih (.v j r) _ _ _ _ _ _ _ _ hs hv h' (by have := ze9 h.lsz hilt hun; omega)
    · obtain ⟨A', h1, h2, h3⟩ := h.move hI hops hs hv
      exact ihr _ _ A' h1 h2 h3
  | e j chk r alt _ _ =>
    intro Lab U A hs hv h
    by_cases hU : i ∈ U
    · exact h.pend hI hops hr hU fun U' M' a' w' h' => ih (.e j chk r alt) _ _ _ _ _ _ _ _ hs hv h' (by have := ze9 h.lsz hilt hun; omega)
    · have hiL : i ∉ Lab := fun hm => (h.listed_iff hilt).1 hun ⟨hm, hU⟩
      have hin : i ∈ znm (.e j chk r alt) := by
        have hs2 := hs
        simp only [qb, Bool.and_eq_true, Bool.not_true, Bool.false_or] at hs2
        have h1 := all_range.1 hs2.2 i hilt
        simp only [Bool.or_eq_true, Bool.not_eq_true', jb hiL, Bool.false_eq_true, false_or] at h1
        rcases h1 with h1 | h1
        · have : sub (qd ops i) Lab = true := by
            unfold sub
            rw [List.all_eq_true]
            intro k hk
            have hlt : k < ops.size := by
              have := (qw hops (Array.getElem?_eq_getElem hilt)).lt k hk
              omega
            exact (mem_iff _ _).2 ((h.lst k hlt).1 (hdeps k hk)).1
          rw [this] at h1; cases h1
        · exact (mem_iff _ _).1 h1
      obtain ⟨chk', r', h1, h2, h3⟩ := yje _ true hs hv hin
      exact h.eff hI hops hr h1 h3 fun A' st' M' a' w' h4 h5 => ih r' _ _ _ _ _ _ _ _ h2 h4 h5 (by have := ze9 h.lsz hilt hun; omega)
theorem yix (hI : zw P c.I) (hops : ze0 c ops = true) {K : Fr -> Store -> Prop} : ∀ (fuel : Nat) (S : Sched) (listed : Array Bool) (Lab U : List Nat) (A : Fr) (st : Store) (M : Nat -> Nat -> Prop) (a : Act) (w : World), qb c ops S Lab true = true -> vcDr P c ops K S A st -> DInv c ops Oth M0 w0 listed Lab U A st M a w -> left ops listed = fuel ->
      wpAny P .any ops (zea c Oth M0 w0 K) fuel listed a w := by
  intro fuel
  induction fuel with
  | zero =>
    intro S listed Lab U A st M a w hs hv h hl
    refine ⟨?_, h.done hops hs hv hl⟩
    cases hr : Region.ready .any ops listed with
    | nil => rfl
    | cons i rs =>
      have hi : i ∈ Region.ready .any ops listed := by rw [hr]; exact List.mem_cons_self
      obtain ⟨h1, h2, _⟩ := ready_iff.1 hi
      rw [zme hl h2] at h1
      cases h1
  | succ fuel ih =>
    intro S listed Lab U A st M a w hs hv h hl
    refine ⟨fun hr => absurd hr (h.ready_ne hops hl), fun i hi => zxp hI hops ih hl hi S Lab U A hs hv h⟩
theorem zyk {ops : Array Oper} (hd : ∀ (i : Nat) (o : Oper), ops[i]? = some o -> ∀ cl, o.op ≠ .defer cl) {Q : Exit -> Act -> World -> Prop} {i : Nat} {K K' : Act -> World -> Prop} {a : Act} {w : World} (hk : ∀ a w, K a w -> K' a w) (h : wpOp P ops Q i K a w) (hn : ∀ e a w, e ≠ .normal -> ¬ Q e a w) : wpOpIn c.F 0 P ops Q i K' a w := by
  unfold wpOp at h
  unfold wpOpIn
  split
  · rename_i hi; simp only [hi] at h; exact hk _ _ h
  · rename_i o hi
    simp only [hi] at h
    split
    · rename_i hw
      simp only [hw, if_true] at h
      rcases h with h | ⟨_, a1, w1, h⟩
      · exact znr hk hn (Oper.wpIn_F (hd i o hi) h)
      · exact (hn _ _ _ (by simp) h).elim
    · rename_i hw
      simp only [hw] at h
      exact ⟨fun _ _ => Tv, hk _ _ h⟩
theorem ztv {ops : Array Oper} (hd : ∀ (i : Nat) (o : Oper), ops[i]? = some o -> ∀ cl, o.op ≠ .defer cl) {Q : Exit -> Act -> World -> Prop} (hn : ∀ e a w, e ≠ .normal -> ¬ Q e a w) {md : Region.Mode} : ∀ (fuel : Nat) (listed : Array Bool) (a : Act) (w : World), wpAny P md ops Q fuel listed a w -> wpAnyIn c.F 0 P md ops Q fuel listed a w := by
  intro fuel
  induction fuel with
  | zero => intro listed a w h; exact h
  | succ fuel ih => intro listed a w h; exact ⟨h.1, fun i hi => zyk hd (fun a w h => ih _ a w h) (h.2 i hi) hn⟩
/-- A region whose order is drawn, by its schedule. -/
theorem ADraw.of_sched (hI : zw P c.I) (hm : P.follows .mixedOrders = true) (hops : ze0 c ops = true) {K : Fr -> Store -> Prop} {A : Fr} {st : Store} (S : Sched) (hs : qb c ops S [] true = true) (hv : vcDr P c ops K S A st) : ADraw P c ops K A st := by
  refine ⟨fun id => ⟨fun Oth M a w sim => wpIn_region_any hm (ztv (fun i o hi => (qw hops hi).nd) ?_ _ _ _ _ ?_)⟩⟩
  · rintro e a' w' hne ⟨A', st', M', h, _⟩
    cases e <;> first | exact hne rfl | exact h
  obtain ⟨β, sim⟩ := sim
  have g := Grow.drew w
  have hinv : DInv c ops Oth M w (Array.replicate ops.size false) [] [] A st M a w.drew :=
    ⟨by simp, fun i hi => by simp [hi], fun i h => (by cases h), fun i h => (by cases h), fun i h => (by cases h), fun i h => (by cases h), ⟨β, sim.grow g⟩, g.chg M, fun i hi hl => by simp [hi] at hl⟩
  have hl : left ops (Array.replicate ops.size false) = ops.size := by
    unfold left
    have : (List.range ops.size).countP (fun i => !(Array.replicate ops.size false).getD i true) = (List.range ops.size).length := by
      rw [List.countP_eq_length]
      intro i hi
      simp [List.mem_range.1 hi]
    rw [this, List.length_range]
  exact yix hI hops ops.size S _ [] [] A st M a w.drew hs hv hinv hl
end
end Go.V
namespace Go.V
/-- A function's end. -/
theorem ret {x : AV} {st : Store} {R : AV -> Store -> Prop} (h : R x st) : ∃ r st', AV.le x r /\ st.Has st' /\ R r st' := ⟨x, st, Tt, Store.Has.refl _, h⟩
theorem j8 {x r : AV} {st st' : Store} {R : AV -> Store -> Prop} (h : AV.le x r) (k : st.Has st') (q : R r st') : ∃ r st', AV.le x r /\ st.Has st' /\ R r st' := ⟨r, st', h, k, q⟩
theorem optR {α : Type} {x : α} {K : α -> Prop} (h : K x) : optK (some x) K := h
/-- Tests. -/
theorem bcd {c : Prop} [Decidable c] {p q : Prop} (h : c -> p) (h' : ¬ c -> q) : zed (decide c) p q := zd (fun e => h (of_decide_eq_true e)) (fun e => h' (of_decide_eq_false e))
theorem bceq {a b : Int} {p q : Prop} (h : a = b -> p) (h' : a ≠ b -> q) : zed (a == b) p q := zd (fun e => h (eq_of_beq e)) (fun e => h' (ne_of_beq_false e))
theorem bcne {a b : Int} {p q : Prop} (h : a ≠ b -> p) (h' : a = b -> q) : zed (a != b) p q := by
  refine zd (fun e => h ?_) (fun e => h' ?_) <;> simpa using e
theorem yk {b : Bool} {p q : Prop} (h : zed b q p) : zed (!b) p q := by cases b <;> exact h
/-- The lower bound and the upper one. -/
theorem in64 {v : Int} {K : Prop} (h : -9223372036854775808 <= v /\ v <= 9223372036854775807) (k : K) : yi v /\ K := ⟨h, k⟩
end Go.V
namespace Go.V
theorem Fresh.ne_obj {st : Store} {b p : Nat} {x : AObj} (h : Fresh st b) (hp : st.obj p = some x) : b ≠ p := fun e => by rw [<- e, h.1] at hp; cases hp
theorem zb (st : Store) (p : Nat) (x : AObj) : (st.setObj p x).obj p = some x := by simp [Store.setObj]
theorem zf {st : Store} {p b : Nat} {x : AObj} (h : b ≠ p) : (st.setObj p x).obj b = st.obj b := by simp [Store.setObj, nbeq h]
theorem zun {st : Store} {p b : Nat} {x : Option Nat} (h : b ≠ p) : (st.setTok p x).tok b = st.tok b := by simp [Store.setTok, nbeq h]
theorem zg (st : Store) (p : Nat) (x y : AObj) : (st.setObj p x).setObj p y = st.setObj p y := by
  unfold Store.setObj
  congr
  funext i
  by_cases hi : i = p
  · subst hi; simp
  · simp [nbeq hi]
theorem zmu {st : Store} {p b : Nat} {x : AObj} (h : Fresh st b) (hn : b ≠ p) : Fresh (st.setObj p x) b := ⟨by rw [zf hn]; exact h.1, h.2⟩
theorem zcu (st : Store) (p b : Nat) (x : AObj) (y : Option Nat) : (st.setTok b y).setObj p x = (st.setObj p x).setTok b y := rfl
/-- An object beside a growing slice is changed. -/
theorem App.setObj {k : Nat} {st st' : Store} {v : AV} {rows : List (List AV)} {p : Nat} {x y : AObj} (h : App k (st.setObj p x) v rows st') : App k (st.setObj p y) v rows (st'.setObj p y) := by
  rcases h with ⟨h1, h2, rfl⟩ | ⟨h1, h2, rfl⟩ | ⟨h1, b, hb, h2, rfl⟩
  · rw [zg]; exact .inl ⟨h1, h2, rfl⟩
  · rw [zg]; exact .inr (.inl ⟨h1, h2, rfl⟩)
  · have hne : b ≠ p := fun e => by have := hb.1; rw [e, zb] at this; cases this
    refine .inr (.inr ⟨h1, b, ?_, h2, ?_⟩)
    · exact ⟨by rw [zf hne]; have := hb.1; rwa [zf hne] at this, hb.2⟩
    · rw [zcu, zg]
theorem App.fresh {k : Nat} {st st' : Store} {v : AV} {rows : List (List AV)} {p : Nat} (h : App k st v rows st') (hp : Fresh st' p) : st.obj p = none := by
  cases ho : st.obj p with
  | none => rfl
  | some x => have := h.has.obj p x ho; rw [hp.1] at this; cases this
theorem y8 {st : Store} {p : Nat} {x : AObj} (h : st.obj p = none) : (st.setObj p x).Has st :=
  ⟨fun b y hb => by
    have : b ≠ p := fun e => by rw [e, h] at hb; cases hb
    rw [zf this]; exact hb, fun _ _ h => h⟩
theorem App.obj {k : Nat} {st st' : Store} {v : AV} {rows : List (List AV)} (h : App k st v rows st') (p : Nat) : st'.obj p = st.obj p := by
  rcases h with ⟨_, _, rfl⟩ | ⟨_, _, rfl⟩ | ⟨_, _, _, _, rfl⟩ <;> rfl
theorem App.read {k : Nat} {st st' : Store} {v : AV} {rows : List (List AV)} {p : Nat} {x : AObj} (h : App k (st.setObj p x) v rows st') : st'.obj p = some x := by rw [h.obj, zb]
theorem App.src {k : Nat} {st st' : Store} {v : AV} {rows : List (List AV)} (h : App k st v rows st') : qf k (.av v) = some rows := by
  rcases h with ⟨rfl, rfl, _⟩ | ⟨rfl, rfl, _⟩ | ⟨_, b, _, rfl, _⟩
  · rfl
  · rfl
  · simp [qf]
theorem App.split {k : Nat} {st st' : Store} {v : AV} {rows : List (List AV)} {p : Nat} {x : AObj} (h : App k (st.setObj p x) v rows st') : ∃ st1 : Store, st' = st1.setObj p x /\ st1.Has st /\ ∀ y, App k (st.setObj p y) v rows (st1.setObj p y) := by
  rcases h with ⟨h1, h2, rfl⟩ | ⟨h1, h2, rfl⟩ | ⟨h1, b, hb, h2, rfl⟩
  · exact ⟨st, rfl, Store.Has.refl _, fun y => .inl ⟨h1, h2, rfl⟩⟩
  · exact ⟨st, rfl, Store.Has.refl _, fun y => .inr (.inl ⟨h1, h2, rfl⟩)⟩
  · have hne : b ≠ p := fun e => by have := hb.1; rw [e, zb] at this; cases this
    have hf : Fresh st b := ⟨by have := hb.1; rwa [zf hne] at this, hb.2⟩
    refine ⟨st.setTok b (some (rows.length * k)), (zcu _ _ _ _ _).symm, ⟨fun _ _ h => h, fun i y hi => ?_⟩, fun y => .inr (.inr ⟨h1, b, zmu hf hne, h2, rfl⟩)⟩
    have : i ≠ b := fun e => by rw [e, hf.2] at hi; cases hi
    rw [zun this]; exact hi
theorem ACalls.drop {P : Program} {f : FuncId} {xs : List AV} {st st' : Store} {R : AV -> Store -> Prop} (h : st.Has st') (hc : ACalls P f xs st' R) : ACalls P f xs st R := by
  refine ⟨fun Oth M w vs sto hr => ?_⟩
  have h1 := hc.out Oth M w vs (sto.weaken h) hr
  have k : ∀ v w', zt st' R Oth M w v w' -> zt st R Oth M w v w' := fun v w' ⟨r, st1, M', h1, h2, h3, h4⟩ => ⟨r, st1, M', h1, h2, h3, h4⟩
  generalize (callFunc f vs).run P w = res at h1
  cases res with
  | ok n w' =>
    cases n with
    | enter g args => exact Calls.mono h1 fun e w'' ⟨v, he, hv⟩ => ⟨v, he, k _ _ hv⟩
    | value v => exact k _ _ h1
    | _ => exact h1
  | _ => exact h1
theorem App.cells {k : Nat} {st st' : Store} {v : AV} {rows : List (List AV)} (h : App k st v rows st') : cellsOf v = some [v] := by
  rcases h with ⟨rfl, rfl, _⟩ | ⟨rfl, rfl, _⟩ | ⟨_, b, _, rfl, _⟩ <;> rfl
theorem App.lst {k : Nat} {st st' : Store} {v : AV} {rows : List (List AV)} (h : App k st v rows st') (hne : rows ≠ []) : ∃ b, v = .lst k rows (some b) := by
  rcases h with ⟨_, h, _⟩ | ⟨_, h, _⟩ | ⟨_, b, _, h, _⟩
  · exact absurd h hne
  · exact absurd h hne
  · exact ⟨b, h⟩
theorem App.one {k : Nat} {st st' : Store} {v : AV} {rows : List (List AV)} (h : App k st v rows st') : v.one = true := by
  rcases h with ⟨rfl, rfl, _⟩ | ⟨rfl, rfl, _⟩ | ⟨_, b, _, rfl, _⟩ <;> rfl
/-- A store of one cell into an object. -/
theorem jj {i : TI} {A : Fr} {st : Store} {b o : Nat} {v : AV} {l : List AV} {K : Fr -> Store -> Prop} (hc : cellsOf v = some [v]) (h1 : v.one = true) (hi : i.size = 1) (ho : st.obj b = some (.cells l)) (hl : o + 1 <= l.length)
    (hk : K A (st.setObj b (.cells (zo l o [v])))) : zcs i A st (.av (.s (.pointer (some ⟨b, o, none⟩)))) v K := by
  unfold zcs
  rw [hc]
  show (bif Nat.beq 1 i.size && ([v].all AV.one) then _ else False)
  rw [hi]
  simp only [List.all_cons, h1, List.all_nil, Nat.beq_refl, Bool.and_self, cond_true]
  rw [ho]
  exact ⟨hl, xa hk⟩
theorem zj {i : TI} {A : Fr} {st st2 : Store} {b o : Nat} {v : AV} {l : List AV} {K : Fr -> Store -> Prop} (hc : cellsOf v = some [v]) (h1 : v.one = true) (hi : i.size = 1) (ho : st.obj b = some (.cells l)) (hl : o + 1 <= l.length)
    (he : st.setObj b (.cells (zo l o [v])) = st2) (hk : K A st2) : zcs i A st (.av (.s (.pointer (some ⟨b, o, none⟩)))) v K :=
  jj hc h1 hi ho hl (he ▸ hk)
theorem jk {st : Store} {p q : Nat} {x y : AObj} (h : q ≠ p) : (st.setObj p x).setObj q y = (st.setObj q y).setObj p x := by
  unfold Store.setObj
  congr
  funext i
  by_cases hi : i = p
  · subst hi; simp [nbeq (Ne.symm h)]
  · simp [nbeq hi]
end Go.V
namespace Go.V
end Go.V
namespace Go.V
def Store.delObj (st : Store) (b : Nat) : Store := { st with obj := fun i => bif Nat.beq i b then none else st.obj i }
theorem xb {st : Store} {b b' : Nat} {x : AObj} (h : (st.delObj b).obj b' = some x) : b' ≠ b /\ st.obj b' = some x := by
  have h : (bif Nat.beq b' b then none else st.obj b') = some x := h
  cases hb : Nat.beq b' b with
  | true => rw [hb] at h; cases h
  | false =>
    rw [hb] at h
    exact ⟨fun e => (by rw [e, Nat.beq_refl] at hb; cases hb), h⟩
/-- An object that is done with is a plain list. -/
theorem AWp.freeze {P : Program} {c : Cfg} {code : Code} {Q : Exit -> Fr -> Store -> Prop} {A : Fr} {st : Store} {d b n cap k : Nat} {rows : List (List AV)} {pad : List AV}
    (hA : A.t d = .av (.s (.slice (some ⟨b, 0, none⟩) n cap))) (ho : st.obj b = some (.cells (rows.flatten ++ pad))) (ht : st.tok b = none) (hn : rows.length = n) (hcap : n <= cap)
    (hk : ∀ row ∈ rows, row.length = k) (hall : ∀ row ∈ rows, ∀ x ∈ row, ∃ v, x = AV.s v /\ z8 v = true)
    (h : AWp P c code Q (A.put d (.av (.lst k rows none))) (st.delObj b)) : AWp P c code Q A st := by
  refine ⟨fun Oth M a w ⟨β, sim⟩ => ?_⟩
  have hs : ∀ b' o, ((M b' o /\ b' ≠ b) \/ Oth b' o) -> (M b' o \/ Oth b' o) := fun _ _ h => h.imp (·.1) id
  have sim' : SimB c.n Oth β (A.put d (.av (.lst k rows none))) (st.delObj b) (fun b' o => M b' o /\ b' ≠ b) a w := by
    refine { tsz := sim.tsz, dfr := sim.dfr.sub fun _ _ h => h.1, tm := fun i => ?_, bx := fun j l hj => ⟨(sim.bx j l hj).1.mono hs, fun o => ⟨(sim.bx j l hj).2 o, ?_⟩⟩, inj := sim.inj, sep := fun j b' hj hb' => ?_, sto := ?_ }
    · by_cases hi : i = d
      · subst hi
        have e : (A.put i (.av (.lst k rows none))).t i = .av (.lst k rows none) := by
          show (bif Nat.beq i i then _ else A.t i) = _
          rw [Nat.beq_refl]; rfl
        rw [e]
        have h1 := sim.tm i
        rw [hA] at h1
        have h1 : VRel w (fun b o => M b o \/ Oth b o) (.s (.slice (some ⟨b, 0, none⟩) n cap)) (a.tmps.getD i undef) := h1
        generalize a.tmps.getD i undef = v at h1
        cases h1
        obtain ⟨⟨cs, e0, fr, hb0, huf, hlen, hrel⟩, hM⟩ := sim.sto.obj b _ ho
        subst hn
        have at1 : ∀ (i : Nat) (row : List AV) (j : Nat) (x : AV), rows[i]? = some row -> row[j]? = some x -> ∃ v, x = .s v /\ z8 v = true /\ cs[i * k + j]? = some v := by
          intro i row j x hi hj
          obtain ⟨v, rfl, hv⟩ := hall row (List.mem_of_getElem? hi) x (List.mem_of_getElem? hj)
          have h5 := xr hk hi hj
          have hlt := (List.getElem?_eq_some_iff.1 h5).1
          have h6 : (rows.flatten ++ pad)[i * k + j]? = some (.s v) := by rw [List.getElem?_append_left hlt]; exact h5
          have hlt2 : i * k + j < cs.size := by rw [<- hlen, List.length_append]; omega
          have h7 := hrel _ _ cs[i * k + j] h6 (by simp [hlt2])
          have : cs[i * k + j] = v := by generalize cs[i * k + j] = y at h7; cases h7; rfl
          exact ⟨v, rfl, hv, by rw [<- this]; simp [hlt2]⟩
        refine VRel.lst rows none b 0 cap k (fun p => cs.getD p undef) hcap (fun i row hi => hk row (List.mem_of_getElem? hi)) (fun _ h => by cases h) (fun i row j x hi hj => ?_) (fun i row j x hi hj => ?_) (fun i row j x hi hj => ?_)
        · obtain ⟨v, rfl, hv, h5⟩ := at1 i row j x hi hj
          refine ⟨?_, ?_⟩
          · rw [Nat.zero_add]
            simp only [World.cell?, hb0]
            rw [Array.getD_eq_getD_getElem?, h5]
            simp [h5]
          · rintro (⟨_, h⟩ | h)
            · exact h rfl
            · exact sim.sto.dis _ _ h (hM _)
        · obtain ⟨v, rfl, hv, h5⟩ := at1 i row j x hi hj
          rw [Array.getD_eq_getD_getElem?, h5]; exact hv
        · obtain ⟨v, rfl, hv, h5⟩ := at1 i row j x hi hj
          rw [Array.getD_eq_getD_getElem?, h5]; exact .s _
      · have e : (A.put d (.av (.lst k rows none))).t i = A.t i := by
          show (bif Nat.beq i d then _ else A.t i) = _
          have : Nat.beq i d = false := by
            cases hb : Nat.beq i d with
            | false => rfl
            | true => exact absurd ((yp _ _).1 hb) hi
          rw [this]; rfl
        rw [e]
        have h1 := sim.tm i
        generalize A.t i = x at h1
        cases x with
        | any => trivial
        | und => exact h1
        | av x => exact VRel.mono hs h1
        | bx k off => exact h1
    · exact sim.sep j b (fun e => by rw [show A.bx j = some l from hj] at e; cases e) (.inl (by rw [ho]; simp))
    · refine sim.sep j b' hj ?_
      rcases hb' with hb' | hb'
      · cases hx : (st.delObj b).obj b' with
        | none => exact absurd hx hb'
        | some y => exact .inl (by rw [(xb hx).2]; simp)
      · exact .inr hb'
    · exact { obj := fun b' y hy => ⟨(sim.sto.obj b' y (xb hy).2).1.mono hs, fun o => ⟨(sim.sto.obj b' y (xb hy).2).2 o, (xb hy).1⟩⟩
              tok := fun b' top htk => by
                obtain ⟨c, e, fr, h1, h2, h3, h4⟩ := sim.sto.tok b' top htk
                exact ⟨c, e, fr, h1, h2, h3, fun o ho => ⟨h4 o ho, fun e => by subst e; rw [show st.tok b' = some top from htk] at ht; cases ht⟩⟩
              mlt := fun b' o hm => sim.sto.mlt b' o hm.1, olt := sim.sto.olt, dis := fun b' o ho hm => sim.sto.dis b' o ho hm.1 }
  refine Code.wpF_mono ?_ (h.out Oth _ a w ⟨β, sim'⟩)
  rintro e a' w' ⟨A', st', M', h1, h2, h3⟩
  exact ⟨A', st', M', h1, h2, { size := h3.size, keep := fun b' o hb hm => h3.keep b' o hb fun h => hm h.1, blk := fun b' hb hm => h3.blk b' hb fun o h => hm o h.1, shp := h3.shp, sub := fun b' o hm hb => (h3.sub b' o hm hb).1, tape := h3.tape, os := h3.os, output := h3.output }⟩
/-- A loop whose round is not yet walked. -/
theorem AWp.loopA {P : Program} {c : Cfg} {σ : Type} (H : LoopHead σ) {b : Code} {Q : Exit -> Fr -> Store -> Prop} {A : Fr} {st : Store} (h0 : H.at A st fun _ => True)
    (round : ∀ s st, H.inv s st -> AWp P c b (yjn H s Q) (mkFr (H.t s) (H.bx s)) st) : AWp P c (.loop b) Q A st := by
  obtain ⟨s0, _, hi0, ht0, hb0⟩ := h0
  refine ⟨fun Oth M a w sim => ?_⟩
  refine wpIn_loop_ghost (fun n a' w' => ∃ s st' M', H.μ s = n /\ H.inv s st' /\ Sim c.n Oth (mkFr (H.t s) (H.bx s)) st' M' a' w' /\ Chg M w M' w') (H.μ s0)
    ⟨s0, st, M, rfl, hi0, sim.fits ht0 hb0 (Store.Has.refl st), Chg.refl M w⟩ ?_
  rintro n a' w' ⟨s, st', M', rfl, hi, hsim, hchg⟩
  refine Code.wpF_mono ?_ ((round s st' hi).out Oth M' a' w' hsim)
  rintro e a'' w'' ⟨A'', st'', M'', h1, h2, h3⟩
  cases e with
  | normal =>
    obtain ⟨s', hlt, hi', ht', hb'⟩ := h1
    exact ⟨H.μ s', hlt, s', st'', M'', rfl, hi', h2.fits ht' hb' (Store.Has.refl st''), hchg.trans h3⟩
  | _ => exact ⟨A'', st'', M'', h1, h2, hchg.trans h3⟩
end Go.V
namespace Go.V
open Go.ChangeShapes Go.WideShapes Go.ChangeAt Go.RowKit Go.Deep
def T0 : Nat -> Nat -> Prop := fun _ _ => False
/-- A row of cells reads as 'ys'. -/
def CellsOK (w : World) (ys : List AV) (cs : List Value) : Prop := ys.length = cs.length /\ ∀ (i : Nat) (y : AV) (v : Value), ys[i]? = some y -> cs[i]? = some v -> VRel w T0 y v /\ z8 v = true
theorem CellsOK.nil (w : World) : CellsOK w [] [] := ⟨rfl, fun i y v h => by simp at h⟩
theorem CellsOK.one {w : World} {y : AV} {v : Value} (h : VRel w T0 y v) (h1 : z8 v = true) : CellsOK w [y] [v] :=
  ⟨rfl, fun i y' v' hy hv => by
    cases i with
    | zero => simp at hy hv; subst hy hv; exact ⟨h, h1⟩
    | succ i => simp at hy⟩
theorem CellsOK.app {w : World} {ys ys' : List AV} {cs cs' : List Value} (h : CellsOK w ys cs) (h' : CellsOK w ys' cs') : CellsOK w (ys ++ ys') (cs ++ cs') := by
  refine ⟨by simp [h.1, h'.1], fun i y v hy hv => ?_⟩
  by_cases hi : i < ys.length
  · rw [List.getElem?_append_left hi] at hy
    rw [List.getElem?_append_left (by rw [<- h.1]; exact hi)] at hv
    exact h.2 i y v hy hv
  · rw [List.getElem?_append_right (by omega)] at hy
    rw [List.getElem?_append_right (by rw [<- h.1]; omega)] at hv
    rw [<- h.1] at hv
    exact h'.2 _ y v hy hv
/-- A type whose data read as 'α'. -/
structure Codec (P : Program) (t : TypeId) (α : Type) (f : α -> List AV) (ok : α -> Prop) : Prop where
  out : ∀ {H : Type} (enc : TypeId × Value -> H) (w : World) (base : Nat) (held : Bool) (fuel : Nat) (cs : List Value) (x : DataW H × List MemPlace),
    DataW.trod enc P w base (fun _ => true) held fuel t cs = some x -> (∀ n ∈ x.1.weights P t, n <= reachBytes) -> ∃ a : α, ok a /\ CellsOK w (f a) cs
theorem Codec.weaken {P : Program} {t : TypeId} {α : Type} {f : α -> List AV} {ok ok' : α -> Prop} (C : Codec P t α f ok) (h : ∀ a, ok a -> ok' a) : Codec P t α f ok' :=
  ⟨fun enc w base held fuel cs x hx hw => by
    obtain ⟨a, h1, h2⟩ := C.out enc w base held fuel cs x hx hw
    exact ⟨a, h a h1, h2⟩⟩
section
variable {P : Program} {t e : TypeId}
theorem Codec.int {k : IntKind} (ht : P.underlying t = some (.int k)) : Codec P t Int (fun n => [.s (.int k n)]) (fun n => (Lit.int k n).wf = true) := by
  refine ⟨fun {H} enc w base held fuel cs x hx hw => ?_⟩
  clear hw
  obtain ⟨n, rfl, _, hw⟩ := DataW.trod_int ht hx
  exact ⟨n, hw, CellsOK.one (VRel.s _) rfl⟩
theorem Codec.byte (ht : P.underlying t = some (.int .u8)) : Codec P t UInt8 (fun b => [.s (.int .u8 b.toNat)]) (fun _ => True) := by
  refine ⟨fun {H} enc w base held fuel cs x hx hw => ?_⟩
  clear hw
  obtain ⟨n, rfl, _, hw⟩ := DataW.trod_int ht hx
  have hb : 0 <= n /\ n <= 255 := by simp [Lit.wf, IntKind.min, IntKind.max, IntKind.signed, IntKind.bits] at hw; omega
  refine ⟨UInt8.ofNat n.toNat, Tv, ?_⟩
  have e : ((UInt8.ofNat n.toNat).toNat : Int) = n := by rw [UInt8.toNat_ofNat']; omega
  show CellsOK w [.s (.int .u8 ((UInt8.ofNat n.toNat).toNat : Int))] _
  rw [e]
  exact CellsOK.one (VRel.s _) rfl
theorem Codec.slice {α : Type} {f : α -> List AV} {ok : α -> Prop} {k : Nat} (ht : P.underlying t = some (.slice e)) (hk : P.cellsOf e = k) (h0 : 0 < k) (hb : 0 < P.bytesOf e) (C : Codec P e α f ok) :
    Codec P t (List α) (fun l => [.lst k (l.map f) none]) (fun l => (∀ a ∈ l, ok a) /\ l.length <= 140737488355328) := by
  refine ⟨fun {H} enc w base held fuel cs x hx hw => ?_⟩
  skip
  rcases open_slice ht hx with ⟨rfl, rfl⟩ | ⟨a, len, cap, m, n, D, Pl, rfl, hbase, hl, hmax, hme, rfl, hel⟩
  · exact ⟨[], ⟨(fun a h => by cases h), by simp⟩, CellsOK.one (VRel.nil _ _) rfl⟩
  · simp only [if_true] at hme
    subst hme
    have hlen : len <= 140737488355328 := by
      have h1 := hw ((((List.range len).map D).length + ((List.range (m - len)).map fun j => D (len + j)).length) * P.bytesOf e) (by simp [DataW.weights, ht])
      simp at h1
      have h2 : len <= (len + (m - len)) * P.bytesOf e := by
        have : len + (m - len) <= (len + (m - len)) * P.bytesOf e := Nat.le_mul_of_pos_right _ hb
        omega
      have h3 : reachBytes < 140737488355328 := by decide
      omega
    have hwi : ∀ i, i < len -> ∀ n ∈ (D i).weights P e, n <= reachBytes := by
      intro i hi n hn
      refine hw n ?_
      simp only [DataW.weights, ht, List.mem_cons, List.mem_append]
      right; left
      have key : ∀ (l : List (DataW H)) (d : DataW H), d ∈ l -> n ∈ d.weights P e -> n ∈ DataW.weightsAll P e l := by
        intro l
        induction l with
        | nil => intro d hd; cases hd
        | cons y l ih =>
          intro d hd hnd
          simp only [DataW.weightsAll, List.mem_append]
          rcases List.mem_cons.1 hd with rfl | hd
          · exact .inl hnd
          · exact .inr (ih d hd hnd)
      exact key _ (D i) (List.mem_map.2 ⟨i, List.mem_range.2 hi, rfl⟩) hn
    have each : ∀ j, j <= len -> ∃ l : List α, l.length = j /\ ∀ i (h : i < l.length), ok l[i] /\ ∃ cs', w.cells? base (a.add (i * k)) k = some cs' /\ CellsOK w (f l[i]) cs' := by
      intro j
      induction j with
      | zero => intro _; exact ⟨[], rfl, fun i h => by simp at h⟩
      | succ j ih =>
        intro hj
        obtain ⟨l, hll, hli⟩ := ih (by omega)
        obtain ⟨cs', h1, h2⟩ := hel j (by omega)
        rw [hk] at h1
        obtain ⟨y, hy1, hy2⟩ := C.out enc w base held n cs' _ h2 (hwi j (by omega))
        refine ⟨l ++ [y], by simp [hll], fun i hi => ?_⟩
        by_cases hij : i < l.length
        · rw [List.getElem_append_left hij]; exact hli i hij
        · have : i = l.length := by simp at hi; omega
          subst this
          rw [List.getElem_append_right (Nat.le_refl _)]
          simp only [Nat.sub_self, List.getElem_cons_zero]
          rw [hll]
          exact ⟨hy1, cs', h1, hy2⟩
    obtain ⟨l, hll, hli⟩ := each len (Nat.le_refl _)
    refine ⟨l, ⟨fun y hy => ?_, by omega⟩, CellsOK.one ?_ rfl⟩
    · obtain ⟨i, hi, rfl⟩ := List.getElem_of_mem hy
      exact (hli i hi).1
    by_cases hm : m = 0
    · have : len = 0 := by omega
      subst this
      have : l = [] := List.eq_nil_of_length_eq_zero hll
      subst this
      rw [hm]
      exact VRel.nil _ _
    · obtain ⟨b, off, spot⟩ := a
      have hspot : spot = none := by
        obtain ⟨cs', h1, _⟩ := hel 0 (by omega)
        rw [hk] at h1
        have h2 := World.cells?_some h1
        have h3 := h2.2.2 0 h0
        have h4 : 0 < cs'.length := by rw [h2.2.1]; exact h0
        rw [List.getElem?_eq_getElem h4] at h3
        cases spot with
        | none => rfl
        | some s =>
          simp only [Nat.zero_mul, World.cell?, Addr.add, if_true] at h3
          split at h3
          · simp at h3
          · cases h3
      subst hspot
      have hrow : ∀ i (h : i < l.length), (f l[i]).length = k := fun i h => by
        obtain ⟨cs', h1, h2⟩ := (hli i h).2
        rw [h2.1]; exact (World.cells?_some h1).2.1
      have hget : ∀ (i : Nat) (row : List AV), (l.map f)[i]? = some row -> ∃ h : i < l.length, row = f l[i] := fun i row h => by
        rw [List.getElem?_map] at h
        have hi : i < l.length := by
          by_cases hi : i < l.length
          · exact hi
          · rw [List.getElem?_eq_none (by omega)] at h; cases h
        rw [List.getElem?_eq_getElem hi] at h
        simp at h
        exact ⟨hi, h.symm⟩
      have hcell : ∀ (i : Nat) (row : List AV) (j : Nat) (y : AV), (l.map f)[i]? = some row -> row[j]? = some y -> ∃ v, w.cell? ⟨b, off + (i * k + j), none⟩ = some v /\ VRel w T0 y v /\ z8 v = true := by
        intro i row j y h1 h2
        obtain ⟨hi, rfl⟩ := hget i row h1
        obtain ⟨cs', h3, h4⟩ := (hli i hi).2
        have h5 := World.cells?_some h3
        have hj : j < cs'.length := by rw [<- h4.1]; exact (List.getElem?_eq_some_iff.1 h2).1
        have h6 := h5.2.2 j (by rw [<- h5.2.1]; exact hj)
        rw [List.getElem?_eq_getElem hj] at h6
        refine ⟨cs'[j], ?_, h4.2 j y _ h2 (List.getElem?_eq_getElem hj)⟩
        rw [<- h6]
        simp only [x5, Nat.add_assoc]
      have hlen2 : (l.map f).length = len := by simp [hll]
      have res : VRel w T0 (.lst k (l.map f) none) (.slice (some ⟨b, off, none⟩) (l.map f).length m) :=
        VRel.lst (l.map f) none b off m k (fun p => (w.cell? ⟨b, off + p, none⟩).getD undef) (by rw [hlen2]; exact hl) (fun i row h => by obtain ⟨hi, rfl⟩ := hget i row h; exact hrow i hi) (fun _ h => by cases h)
          (fun i row j y h1 h2 => by obtain ⟨v, h3, _⟩ := hcell i row j y h1 h2; rw [h3]; exact ⟨rfl, fun h => h⟩)
          (fun i row j y h1 h2 => by obtain ⟨v, h3, _, h4⟩ := hcell i row j y h1 h2; rw [h3]; exact h4)
          (fun i row j y h1 h2 => by obtain ⟨v, h3, h4, _⟩ := hcell i row j y h1 h2; rw [h3]; exact h4)
      rw [hlen2] at res
      exact res
/-- A struct's field. -/
theorem zl {H : Type} {enc : TypeId × Value -> H} {w : World} {base : Nat} {held : Bool} {fuel : Nat} {cs : List Value} {x : DataW H × List MemPlace} {fs : Array Field} (ht : P.underlying t = some (.struct fs))
    (hx : DataW.trod enc P w base (fun _ => true) held fuel t cs = some x) (hw : ∀ n ∈ x.1.weights P t, n <= reachBytes) {α : Type} {g : α -> List AV} {ok : α -> Prop} (i o s : Nat) {fld : Field} (hf : fs[i]? = some fld) (ho : fld.offset = o) (hs : P.cellsOf fld.type = s)
    (C : Codec P fld.type α g ok) : ∃ a, ok a /\ CellsOK w (g a) ((cs.drop o).take s) := by
  obtain ⟨xs, n, _, rfl, _, hlen, hall⟩ := DataW.trod_struct ht hx
  have h1 := hall i fld hf
  have hi : i < xs.length := by rw [hlen]; exact (Array.getElem?_eq_some_iff.1 hf).1
  rw [List.getElem?_eq_getElem hi, ho, hs] at h1
  refine C.out enc w base held n _ _ h1 fun m hm => hw m ?_
  simp only [DataW.weights, ht]
  refine DataW.weights_mem_each (j := i) (t := fld.type) (d := xs[i].1) ?_ ?_ m hm
  · simp [hf]
  · simp [hi]
theorem kl {H : Type} {enc : TypeId × Value -> H} {w : World} {base : Nat} {held : Bool} {fuel : Nat} {cs : List Value} {x : DataW H × List MemPlace} {fs : Array Field} (ht : P.underlying t = some (.struct fs))
    (hx : DataW.trod enc P w base (fun _ => true) held fuel t cs = some x) : cs.length = P.cellsOf t := by
  obtain ⟨_, _, _, _, h, _⟩ := DataW.trod_struct ht hx
  exact h
theorem CellsOK.cons {w : World} {ys ys' : List AV} {cs : List Value} {o s o' : Nat} (h : CellsOK w ys ((cs.drop o).take s)) (ho : o' = o + s) (h' : CellsOK w ys' (cs.drop o')) : CellsOK w (ys ++ ys') (cs.drop o) := by
  have e : cs.drop o = (cs.drop o).take s ++ cs.drop o' := by rw [ho, <- List.drop_drop, List.take_append_drop]
  rw [e]
  exact h.app h'
theorem CellsOK.stop {w : World} {cs : List Value} {o : Nat} (h : cs.length = o) : CellsOK w [] (cs.drop o) := by
  rw [List.drop_of_length_le (by omega)]; exact CellsOK.nil w
end
/-- What was there reads as before: all that a read argument asks. -/
theorem zoh {H : Type} {enc : TypeId × Value -> H} {P : Program} {f : Func} {s : ChangeSpec} {vk fresh handsOn again : Bool} {W W' : World} {args : Array Value} {v : Value} {ds gs : List (DataW H)} {before pa pv : List MemPlace}
    (hW : DataW.Whole enc P f.params.toList s.vars vk W args.toList ds gs before)
    (hres : ∀ (b : Nat) (sp : Nat -> Bool) (hd : Bool), DataW.TrodAll enc P W' b sp hd f.resultTypes.toList (v.resultList f.resultTypes.size) (s.fn H (ds ++ gs)).results [])
    (hargs : ∀ sp : Nat -> Bool, (∀ p ∈ before, sp p.block = true) -> DataW.TrodAll enc P W' 0 sp true f.params.toList args.toList (s.fn H (ds ++ gs)).args pa)
    (hvars : ∀ sp : Nat -> Bool, (∀ p ∈ before, sp p.block = true) -> DataW.TrodVars enc P W' sp s.vars (s.fn H (ds ++ gs)).vars pv)
    (hps : before = pa ++ pv) (hk : W.keptBut W' (· ∈ before)) (hfz : ∀ b off, b < W.heap.size -> W'.frozen? ⟨b, off, none⟩ = W.frozen? ⟨b, off, none⟩)
    (hok : ∀ (j : Nat) (t : TypeId) (r : Value), f.resultTypes[j]? = some t -> (v.resultList f.resultTypes.size)[j]? = some r -> Value.okWide P W' .any 0 t r) :
    s.post enc P f vk fresh handsOn again W args v W' := by
  have hlt : ∀ p ∈ before, p.block < W.heap.size := hW.lt
  have hold : ∀ p ∈ before, (fun b => decide (b < W.heap.size)) p.block = true := fun p hp => by simpa using hlt p hp
  refine ⟨ds, gs, before, [], pa, pv, hW, hres _ _ _, hargs _ hold, hvars _ hold, World.keptBut_mono (fun p hp => ⟨hp, ?_⟩) hk, fun _ => ?_⟩
  · rw [hps, List.mem_append] at hp
    exact Or.inr hp
  · obtain ⟨_, _, _, _, _, hz, hn⟩ := hW
    refine ⟨hok, _, _, ([] ++ pa) ++ pv, ⟨[] ++ pa, pv, trodAll_append (hargs _ (fun _ _ => rfl)) (hres _ _ _), hvars _ (fun _ _ => rfl), rfl, ?_, ?_⟩, ?_⟩
    · intro b off hp
      have hp' : MemPlace.cell b off ∈ before := by rw [hps]; simpa using hp
      rw [hfz b off (hlt _ hp')]
      exact hz b off hp'
    · intro ha
      have := hn ha
      rw [hps] at this
      simpa using this
    · intro p hp _
      rw [hps]
      simpa using hp
theorem Below.kept {W W' : World} (h : Below W.heap.size W W') (may : MemPlace -> Prop) : W.keptBut W' may := by
  refine ⟨h.os, h.output, fun i hi => ?_⟩
  rw [h.block i hi]
  obtain ⟨o, ho⟩ : ∃ o, W.heap[i]? = some o := ⟨_, Array.getElem?_eq_getElem hi⟩
  rw [ho]
  cases o with
  | cells c t fr => exact ⟨rfl, rfl, rfl, fun _ _ => rfl⟩
  | map es clock => exact .inr ⟨rfl, rfl⟩
  | _ => rfl
theorem Below.froz {W W' : World} (h : Below W.heap.size W W') : ∀ b off, b < W.heap.size -> W'.frozen? ⟨b, off, none⟩ = W.frozen? ⟨b, off, none⟩ := by
  intro b off hb
  simp only [World.frozen?, h.block b hb]
/-- A function of one argument, out of its contract. -/
theorem zg9 {P : Program} {f : FuncId} {v : Value} {x : AV} {W : World} {R : AV -> Prop} {fn : Func} {code : Code} (h1 : P.funcs[f]? = some fn) (h2 : fn.body = some code) (h3 : (fn.name == "runtime.NumGoroutine") = false)
    (h : ACalls P f [x] Store.empty fun r _ => R r) (hx : VRel W T0 x v) : Calls P f #[v] W fun e W' => ∃ r u, e = .returned u /\ R r /\ (∃ T, VRel W' T r u) /\ Below W.heap.size W W' := by
  have hs : StoreOK Store.empty (fun _ _ => False) (fun _ _ => False) W :=
    ⟨fun b x h => by simp [Store.empty] at h, fun b x h => by simp [Store.empty] at h, fun _ _ h => h.elim, fun _ _ h => h.elim, fun _ _ h => h.elim⟩
  have hr : Reads W (fun b o => (fun _ _ => False : Nat -> Nat -> Prop) b o \/ (fun _ _ => False : Nat -> Nat -> Prop) b o) [x] #[v].toList :=
    Reads.cons (hx.mono fun b o h => by rcases h with h | h <;> exact h) Reads.nil
  have h4 := h.out (fun _ _ => False) (fun _ _ => False) W #[v] hs hr
  have hrun : (callFunc f #[v]).run P W = .ok (.enter f #[v]) W := by
    have hne : ¬ fn.name = "runtime.NumGoroutine" := by simpa using h3
    simp [callFunc, run_program, h1, hne, h2]
  rw [hrun] at h4
  simp only [zfj] at h4
  refine Calls.mono h4 fun e W' ⟨u, he, r, st', M', hR, hv, _, hc⟩ => ⟨r, u, he, hR, ⟨_, hv⟩, ?_⟩
  exact ⟨hc.os, hc.tape, hc.output, hc.size, fun b hb => hc.blk b hb fun _ h => h⟩
end Go.V
