/- Ground of laws of thronglaw21: contracts and plain lemmas; no condition beyond the row's own. -/
import Derived.Laws.Append
import Derived.Tactics
import Derived.Test.YthjfdaifoocijaaGreatKA
set_option linter.unusedSimpArgs false
set_option linter.unusedVariables false
namespace Go.V
theorem Fj {P : Program} {c : Cfg} {ev : Operand -> LV} {bx : Nat -> Option (List AV)} {st : Store} {d : Nat} {K : LV -> Prop} (hI : zu P c.I) (op : Op) (h : vcV c ev bx st d op K) : qo P c ev bx st d op K := by
  cases op with
  | move x => exact zbd x h
  | assign x => exact zbp x h
  | pick a b e => exact zbb a b e h
  | nilCheck x => exact zbc x h
  | binOp op t x y yt => exact zbo hI op t x y yt h
  | unOp op t x => exact za9 op t x h
  | convert s t x => exact zbl hI s t x h
  | load t a => exact zbf hI t a h
  | fieldAddr s x f => exact zbi hI s x f h
  | field s x f => exact zbj hI s x f h
  | indexAddr t x i => exact zbg hI t x i h
  | index t x i => exact zbh hI t x i h
  | slice t x lo hi mx => exact zba hI t x lo hi mx h
  | extract x i => exact zbk x i h
  | build t ps => exact zbn hI t ps h
  | makeFunc f a b => exact zbe f a b h
  | call cl => exact zbm hI cl h
  | _ => exact h.elim
/-- What is asked of a call's end. -/
def yi (st : Store) (R : AV -> Store -> Prop) (Oth M : Nat -> Nat -> Prop) (w : World) (v : Value) (w' : World) : Prop :=
  ∃ r st' M', R r st' /\ VRel w' (fun b o => M' b o \/ Oth b o) r v /\ StoreOK st' Oth M' w' /\ Chg M w M' w'
def Fb (P : Program) (R : Value -> World -> Prop) : Result Next -> Prop
  | .ok (.enter f args) w => Calls P f args w fun e w' => ∃ v, e = .returned v /\ R v w'
  | .ok (.value v) w => R v w
  | _ => False
/-- The function 'f', called with what reads as 'args', hands back what 'R' says. -/
structure ACalls (P : Program) (f : FuncId) (args : List AV) (st : Store) (R : AV -> Store -> Prop) : Prop where
  out : ∀ (Oth M : Nat -> Nat -> Prop) (w : World) (vs : Array Value), StoreOK st Oth M w -> Reads w (fun b o => M b o \/ Oth b o) args vs.toList ->
    Fb P (yi st R Oth M w) ((callFunc f vs).run P w)
def Fresh (st : Store) (b : Nat) : Prop := st.obj b = none /\ st.tok b = none
/-- A slice with room that nobody else has. -/
def Owned (k : Nat) (st : Store) (v : AV) (rows : List (List AV)) (st' : Store) : Prop :=
  (v = .emp /\ rows = [] /\ st' = st) \/ (rows ≠ [] /\ ∃ b, Fresh st b /\ v = .lst k rows (some b) /\ st' = st.setTok b (some (rows.length * k)))
/-- The elements that a slice reads as. -/
def xk (k : Nat) (x : LV) : Option (List (List AV)) :=
  match x with
  | .av (.lst k' rows _) => bif Nat.beq k' k then some rows else none
  | .av (.s (.slice none 0 _)) => some []
  | .av .emp => some []
  | _ => none
def room (n bytes : Nat) : Prop := n * bytes <= 140737488355328 /\ n <= 140737488355328
def Hk (c : Cfg) (st : Store) (e : TypeId) (s x : LV) (K : AV -> Store -> Prop) : Prop :=
  optK (c.I e) fun ie =>
    match s with
    | .av (.s (.slice none 0 0)) => optK (xk ie.size x) fun rows => room rows.length ie.bytes /\ ∀ v st', Owned ie.size st v rows st' -> K v st'
    | .av .emp => optK (xk ie.size x) fun rows => room rows.length ie.bytes /\ ∀ v st', Owned ie.size st v rows st' -> K v st'
    | .av (.lst k rows (some b)) => bif Nat.beq k ie.size && Nat.blt 0 ie.size then optK (xk ie.size x) fun rows' => st.tok b = some (rows.length * k) /\ room (rows ++ rows').length ie.bytes ∧
        ∀ v st', Owned ie.size (st.setTok b none) v (rows ++ rows') st' -> K v st'
      else False
    | _ => False
/-- An append, in words of worlds: to a slice whose cells are an object of the store. -/
structure AppX (P : Program) (c : Cfg) (st : Store) (e : TypeId) (s x : AV) (K : AV -> Store -> Prop) : Prop where
  has : ∃ ie, c.I e = some ie
  out : ∀ ie, c.I e = some ie -> ∀ (Oth M : Nat -> Nat -> Prop) (w : World) (sv xv : Value) (argTypes : Array TypeId) (ty : TypeId) (args : Array Value) (t : TypeId), StoreOK st Oth M w ->
    VRel w (fun b o => M b o \/ Oth b o) s sv -> VRel w (fun b o => M b o \/ Oth b o) x xv -> argTypes[0]? = some t -> (∃ t1 e1, argTypes[1]? = some t1 /\ P.underlying t1 = some (.slice e1)) ->
    P.underlying t = some (.slice e) -> TIok P e ie -> args[0]? = some sv -> args[1]? = some xv -> ∃ v w', (Builtin.append_ argTypes ty args).run P w = .ok v w' /\ yi st K Oth M w v w'
/-- An append. -/
structure appendK (P : Program) (c : Cfg) (st : Store) (e : TypeId) (s x : LV) (K : AV -> Store -> Prop) : Prop where
  out : Hk c st e s x K \/ ∃ s' x', s = .av s' /\ x = .av x' /\ AppX P c st e s' x' K
/-- An operation, in words of worlds. -/
structure AEff (P : Program) (c : Cfg) (o : Oper) (args : List AV) (st : Store) (R : AV -> Store -> Prop) : Prop where
  out : ∀ (Oth M : Nat -> Nat -> Prop) (w : World) (ρ : Operand -> Value), zu P c.I -> StoreOK st Oth M w -> Reads w (fun b o => M b o \/ Oth b o) args (o.op.operands.map ρ).toList ->
    match (execOp ρ o).run P w with
    | .ok (.value v) w' => yi st R Oth M w v w'
    | .ok .skip w' => o.dst = none /\ yi st R Oth M w (.tuple #[]) w'
    | _ => False
def Au (j : TI) : Bool := match j.ty with | .slice _ => true | _ => false
/-- The operations that have rules of their own. -/
def isX : Op -> Bool
  | .lookup .. => true
  | .mapUpdate .. => true
  | .insert .. => true
  | .makeMap .. => true
  | .makeSlice .. => true
  | .range .. => true
  | .next .. => true
  | .entry .. => true
  | .makeInterface .. => true
  | .slice _ _ _ _ mx => mx.isSome
  | .call cl => match cl.callee with
    | .builtin .delete => true
    | .builtin .copy => true
    | .builtin .clear => true
    | _ => false
  | _ => false
def z8 (A : Fr) (n : Nat) (d : Option Tmp) (x : LV) (K : Fr -> Prop) : Prop :=
  match d with
  | none => K A
  | some d => bif Nat.blt d n then K (A.put d x) else False
def AV.one : AV -> Bool
  | .s v => yk v
  | .agg _ => false
  | .tup _ => false
  | .any => false
  | _ => true
theorem Ge {w : World} {T : Nat -> Nat -> Prop} {x : AV} {v : Value} (h : VRel w T x v) (h1 : x.one = true) : yk v = true := by
  cases h <;> trivial
def j1 (i : TI) (A : Fr) (st : Store) (p : LV) (x : AV) (K : Fr -> Store -> Prop) : Prop :=
  optK (cellsOf x) fun xs => bif Nat.beq xs.length i.size && xs.all AV.one then
    match p with
    | .bx k o => optK (A.bx k) fun l => bif Nat.ble (o + xs.length) l.length then ju (z6 l o xs) fun l' => K (A.setBx k l') st else False
    | .av (.s (.pointer (some ⟨b, o, none⟩))) => optK (st.obj b) fun y => match y with
      | .cells l => o + xs.length <= l.length /\ ju (z6 l o xs) fun l' => K A (st.setObj b (.cells l'))
      | _ => False
    | _ => False
  else False
def xd (i : TI) : List AV := i.zero.map AV.s
/-- The rows of a slice literal. -/
def ks (k n : Nat) (acc : List (List AV)) : List (Nat × LV) -> Option (List (List AV))
  | [] => some acc
  | (i, x) :: rest => match x with
    | .av x => match cellsOf x with
      | some xs => bif Nat.beq xs.length k && Nat.blt i n then ks k n (acc.set i xs) rest else none
      | none => none
    | _ => none
/-- A comparison; of a slice with nil: it may be so only where the slice is empty. -/
def D3 (c : Cfg) (o : Oper) (op : BinOp) (t : TypeId) (x y : Operand) (yt : TypeId) (K : Fr -> Store -> Prop) (A : Fr) (st : Store) : Prop :=
  match A.ev x, A.ev y with
  | .av (.lst _ rows _), .av (.s (.slice none 0 0)) => optK (c.I t) fun i => match i.ty with
    | .slice _ => match op with
      | .eql => ∀ b : Bool, (b = true -> rows = []) -> z8 A c.n o.dst (yn b) fun A' => K A' st
      | .neq => ∀ b : Bool, (b = true -> rows = []) -> z8 A c.n o.dst (yn (!b)) fun A' => K A' st
      | _ => False
    | _ => False
  | _, _ => optK o.dst fun d => bif Nat.blt d c.n then vcV c A.ev A.bx st d (.binOp op t x y yt) (fun x => K (A.put d x) st) else False
def Gs : Ty -> Bool
  | .int .u8 => true
  | _ => false
def vcX (P : Program) (c : Cfg) (o : Oper) (K : Fr -> Store -> Prop) (A : Fr) (st : Store) : Prop :=
  optK (o.op.operands.toList.mapM fun x => (A.ev x).toAV) fun vs => AEff P c o vs st fun r st' => z8 A c.n o.dst (.av r) fun A' => K A' st'
/-- '[]byte("..")': the row is marked. -/
def Dv (P : Program) (c : Cfg) (o : Oper) (s t : TypeId) (x : Operand) (K : Fr -> Store -> Prop) (A : Fr) (st : Store) : Prop :=
  match A.ev x with
  | .av (.lst k rows (some b)) => bif Nat.beq s t then optK (c.I t) fun i => match i.ty with
    | .slice e => optK (c.I e) fun ie => bif Gs ie.ty && Nat.beq k 1 then optK (st.tok b) fun _ => z8 A c.n o.dst (.av (.lst k rows (some b))) fun A' => K A' st else False
    | _ => False
    else False
  | .av (.s (.slice _ _ _)) => vcX P c o K A st
  | .av (.s (.pointer _)) => vcX P c o K A st
  | _ => optK o.dst fun d => bif Nat.blt d c.n then vcV c A.ev A.bx st d (.convert s t x) (fun x => K (A.put d x) st) else False
/-- What a method's name means for a value behind an interface: the function, what it gets as receiver. -/
structure Meets (P : Program) (t : TypeId) (v : Value) (m : String) (g : FuncId) (x : AV) : Prop where
  out : ∃ u, (∀ w : World, (method (P.types.size + Made.depth) t v m).run P w = .ok (g, u) w) /\ ∀ (w : World) (T : Nat -> Nat -> Prop), VRel w T x u
/-- A call through an interface. -/
def C7 (P : Program) (c : Cfg) (o : Oper) (cl : Call) (m : String) (y : LV) (K : Fr -> Store -> Prop) (A : Fr) (st : Store) : Prop :=
  match y with
  | .av (.s (.iface t v)) => optK (cl.args.toList.mapM fun x => (A.ev x).toAV) fun vs => ∃ g x, Meets P t v m g x ∧
      ACalls P g (x :: vs) st fun r st' => z8 A c.n o.dst (.av r) fun A' => K A' st'
  | _ => False
/-- The function that a value is: what it gets ahead of the arguments, what behind them. -/
def Dk (x : LV) : Option (FuncId × List AV × List AV) :=
  match x with
  | .av (.clos g cap) => some (g, [], cap)
  | .av (.s (.func (.func g) fv cv)) => some (g, fv.toList.map AV.s, cv.toList.map AV.s)
  | _ => none
def jk (P : Program) (c : Cfg) (o : Oper) (K : Fr -> Store -> Prop) (A : Fr) (st : Store) : Prop :=
  match o.op with
  | .alloc t => optK (c.I t) fun i => optK o.dst fun d => bif Nat.blt d c.n then
      ju (xd i) fun l => (bif c.G.contains d then ∀ b, Fresh st b -> K (A.put d (.av (.s (.pointer (some ⟨b, 0, none⟩))))) (st.setObj b (.cells l))
        else K (A.newBx d l) st) else False
  | .box _ x => optK o.dst fun d => bif Nat.blt d c.n then (match A.ev x with
      | .av x => optK (cellsOf x) fun l =>
        bif c.G.contains d then ∀ b, Fresh st b -> K (A.put d (.av (.s (.pointer (some ⟨b, 0, none⟩))))) (st.setObj b (.cells l))
        else K (A.newBx d l) st
      | _ => False) else False
  | .buildSlice t n parts => optK (c.I t) fun i => optK o.dst fun d => bif Nat.blt d c.n then (match i.ty with
      | .slice e => optK (c.I e) fun ie => optK (ks ie.size n (List.replicate n (xd ie)) (parts.toList.map fun p => (p.1, A.ev p.2))) fun rows =>
        bif rows.flatten.all AV.one then n * ie.size <= 16777216 /\ (match rows with
          | [] => K (A.put d (.av .emp)) st
          | _ :: _ => bif c.G.contains d then (bif c.G.contains (d + 1000000) then ∀ b, Fresh st b -> K (A.put d (.av (.s (.slice (some ⟨b, 0, none⟩) rows.length rows.length)))) (st.setObj b (.cells rows.flatten))
              else ∀ b, Fresh st b -> K (A.put d (.av (.lst ie.size rows (some b)))) (st.setTok b (some (rows.length * ie.size))))
            else K (A.put d (.av (.lst ie.size rows none))) st) else False
      | _ => False) else False
  | .store t a x => bif o.dst.isNone then optK (c.I t) fun i => match A.ev x with
      | .av x => j1 i A st (A.ev a) x K
      | _ => False
      else False
  | .binOp op t x y yt => D3 c o op t x y yt K A st
  | .convert s t x => Dv P c o s t x K A st
  | .call cl => match cl.callee with
    | .value f => match Dk (A.ev f) with
      | some (g, fv, cap) => optK (cl.args.toList.mapM fun x => (A.ev x).toAV) fun vs =>
        ACalls P g (fv ++ (vs ++ cap)) st fun r st' => z8 A c.n o.dst (.av r) fun A' => K A' st'
      | _ => False
    | .invoke y m => C7 P c o cl m (A.ev y) K A st
    | .builtin .append => optK cl.argTypes[0]? fun t => optK (c.I t) fun i => optK cl.args[0]? fun s => optK cl.args[1]? fun x => match i.ty with
      | .slice e => bif (cl.argTypes[1]?.bind c.I).any Au then
          appendK P c st e (A.ev s) (A.ev x) fun r st' => z8 A c.n o.dst (.av r) fun A' => K A' st' else vcX P c o K A st
      | _ => False
    | _ => optK o.dst fun d => bif Nat.blt d c.n then vcV c A.ev A.bx st d o.op (fun x => K (A.put d x) st) else False
  | op => optK o.dst fun d => bif Nat.blt d c.n then vcV c A.ev A.bx st d op (fun x => K (A.put d x) st) else False
/-- A call of a loop's round does 'R'. -/
structure AYield (P : Program) (l : Nat) (args : List AV) (st : Store) (R : AV -> Store -> Prop) : Prop where
  out : ∀ (Oth M : Nat -> Nat -> Prop) (w : World) (vs : Array Value), StoreOK st Oth M w -> Reads w (fun b o => M b o \/ Oth b o) args vs.toList ->
    ∃ fn tmps assign body, (Instr.yield l vs).run P w = .ok (.round l fn tmps assign body) w /\ RoundIn Fence.wide 0 P l fn tmps assign body w fun e w' => ∃ v, e = .returned v /\ yi st R Oth M w v w'
/-- Which loop's round this calls. -/
def Fe (A : Fr) (op : Op) : Option Nat :=
  match op with
  | .call cl => match cl.callee with
    | .value f => match A.ev f with
      | .av (.s (.func (.yield l) x y)) => bif Nat.beq x.size 0 && Nat.beq y.size 0 then some l else none
      | _ => none
    | _ => none
  | _ => none
def Hp (A : Fr) (op : Op) : Option (List AV) :=
  match op with
  | .call cl => cl.args.toList.mapM fun x => (A.ev x).toAV
  | _ => none
def xx (P : Program) (c : Cfg) (o : Oper) (K : Fr -> Store -> Prop) (A : Fr) (st : Store) : Prop :=
  bif isX o.op then vcX P c o K A st else jk P c o K A st
/-- An operation; it may be a call of a loop's round. -/
def v8 (P : Program) (c : Cfg) (o : Oper) (K : Fr -> Store -> Prop) (A : Fr) (st : Store) : Prop :=
  match Fe A o.op with
  | some l => optK (Hp A o.op) fun vs => AYield P l vs st fun r st' => z8 A c.n o.dst (.av r) fun A' => K A' st'
  | none => xx P c o K A st
/-- What is asked of one operation, in words of worlds. -/
def Cfg.N (c : Cfg) : SN := ⟨c.n, c.D0, c.nm⟩
def AOp (P : Program) (n : SN) (o : Oper) (K : Fr -> Store -> Prop) (A : Fr) (st : Store) : Prop :=
  ∀ Oth M a w, Sim n Oth A st M a w -> o.wp P a w (fun a' w' => ∃ A' st' M', K A' st' /\ Sim n Oth A' st' M' a' w' /\ Chg M w M' w') (fun _ _ _ => False)
def zex (P : Program) (c : Cfg) (o : Oper) (K : Fr -> Store -> Prop) (A : Fr) (st : Store) : Prop :=
  ∀ Oth M a w, Sim c.N Oth A st M a w -> o.wpIn c.F 0 P a w (fun a' w' => ∃ A' st' M', K A' st' /\ Sim c.N Oth A' st' M' a' w' /\ Chg M w M' w') (fun _ _ _ => False)
theorem SimB.env {n : SN} {Oth M : Nat -> Nat -> Prop} {β : Nat -> Nat} {A : Fr} {st : Store} {a : Act} {w : World} (h : SimB n Oth β A st M a w) :
    Env w (fun b o => M b o \/ Oth b o) β A.ev A.bx st a.eval :=
  ⟨h.ev, fun k l hk => (h.bx k l hk).1, fun b x hx => (h.sto.obj b x hx).1⟩
theorem Bu {P : Program} {c : Cfg} {o : Oper} {K : Fr -> Store -> Prop} {A : Fr} {st : Store} (hI : zu P c.I)
    (h : optK o.dst fun d => bif Nat.blt d c.n then vcV c A.ev A.bx st d o.op (fun x => K (A.put d x) st) else False) : AOp P c.N o K A st := by
  obtain ⟨d, hd, h⟩ := ze h
  cases hb : Nat.blt d c.n with
  | false => grind
  | true =>
    rw [hb] at h
    simp only [cond_true] at h
    have hlt : d < c.n := Nat.le_of_ble_eq_true hb
    obtain ⟨x, hx, _, hs⟩ := Fj hI o.op h
    rintro Oth M a w ⟨β, sim⟩
    obtain ⟨v, hr, hv⟩ := hs w _ β a.eval o rfl sim.env
    unfold Oper.wp
    rw [hr, Oper.upon_value, hd]
    exact ⟨_, st, M, hx, ⟨β, sim.put hlt hv⟩, Chg.refl M w⟩
section
variable {P : Program} {c : Cfg} {w : World} {Oth M : Nat -> Nat -> Prop} {st : Store}
/-- M and one block more. -/
def qj (M : Nat -> Nat -> Prop) (B : Nat) : Nat -> Nat -> Prop := fun b o => M b o \/ b = B
theorem ww (w : World) (o : Obj) : (w.alloc o).heap[w.heap.size]? = some o := by
  show (w.heap.push o)[_]? = _
  simp
theorem kw (w : World) (o : Obj) (M Oth : Nat -> Nat -> Prop) : Keeps w (fun b o => M b o \/ Oth b o) (w.alloc o) (fun b o => qj M w.heap.size b o \/ Oth b o) where
  cell b o' c hc _ := by grind[jy,jh,Ac]
  out b o' c hc hT hT' := by
    rcases hT' with (h | h) | h
    · grind
    · have := Ac hc; omega
    grind
  shp b c e fr hw := ⟨c, fr, by grind[jh], rfl⟩
theorem StoreOK.alloc (h : StoreOK st Oth M w) (o : Obj) : StoreOK st Oth (qj M w.heap.size) (w.alloc o) where
  obj b x hx := ⟨ObjRel.same (h.obj b x hx).1 (kw w o M Oth) (jh w o b (h.obj b x hx).1.lt), fun o => .inl ((h.obj b x hx).2 o)⟩
  tok b top ht := by
    obtain ⟨c, e, fr, h1, h2, h3, h4⟩ := h.tok b top ht
    exact ⟨c, e, fr, by grind[jh], h2, h3, fun o ho => .inl (h4 o ho)⟩
  mlt b o' hm := by
    rcases hm with h' | h'
    · have := h.mlt b o' h'; simp; omega
    simp_all
  olt b o' hm := by have := h.olt b o' hm; simp; omega
  dis b o' hO hM := by
    rcases hM with h' | h'
    · exact h.dis b o' hO h'
    · have := h.olt b o' hO; omega
theorem vy (w : World) (o : Obj) (M : Nat -> Nat -> Prop) : Chg M w (qj M w.heap.size) (w.alloc o) where
  size := by simp
  keep b o' hb _ := jy (jh w o b hb) o'
  blk b hb _ := jh w o b hb
  shp b c e fr hw := ⟨c, fr, by grind[jh], rfl⟩
  sub b o' hm hb := by
    rcases hm with h | h
    · exact h
    · omega
  tape := rfl
  os := rfl
  output := rfl
theorem StoreOK.fresh (h : StoreOK st Oth M w) {b : Nat} (hb : w.heap.size <= b) : Fresh st b := by
  constructor
  · cases ho : st.obj b with
    | none => rfl
    | some x => have := (h.obj b x ho).1.lt; omega
  · cases ho : st.tok b with
    | none => rfl
    | some x =>
      obtain ⟨c, e, fr, h1, _⟩ := h.tok b x ho
      grind
theorem Br {l : List AV} {cs : Array Value} (w : World) (e : TypeId) (M Oth : Nat -> Nat -> Prop) (h : Reads w (fun b o => M b o \/ Oth b o) l cs.toList) :
    CellsRel (w.alloc (.cells cs e)) (fun b o => qj M w.heap.size b o \/ Oth b o) l w.heap.size :=
  ⟨cs, e, (0, 0), ww w _, rfl, by simpa using h.1, fun i x y hx hy => (h.2 i x y hx (by grind)).keep (kw w _ M Oth)⟩
theorem Marks.alloc {Oth M : Nat -> Nat -> Prop} {w : World} {ds : List Deferred} (h : Marks Oth M w ds) (hm : ∀ b o, M b o -> b < w.heap.size) (x : Obj) : Marks Oth (qj M w.heap.size) (w.alloc x) ds :=
  h.step fun D _ hl h2 => ⟨jh w x D hl, fun o hm => hm.elim (h2 o).1 fun e => by omega⟩
theorem MarksD.alloc {Oth M : Nat -> Nat -> Prop} {w : World} {n : SN} {ds : List Deferred} (h : MarksD Oth M w n ds) (hm : ∀ b o, M b o -> b < w.heap.size) (x : Obj) : MarksD Oth (qj M w.heap.size) (w.alloc x) n ds := by
  obtain ⟨ms, e, h0, h⟩ := h.ex
  exact ⟨ms, e, h0, h.alloc hm x⟩
theorem SimB.newBx {n : SN} {β : Nat -> Nat} {A : Fr} {a : Act} (h : SimB n Oth β A st M a w) {d : Nat} (hd : d < n.sz) {l : List AV} {cs : Array Value} (e : TypeId)
    (hr : Reads w (fun b o => M b o \/ Oth b o) l cs.toList) :
    SimB n Oth (fun k => if k = d then w.heap.size else β k) (A.newBx d l) st (qj M w.heap.size) (a.put (some d) (.pointer (some ⟨w.heap.size, 0, none⟩))) (w.alloc (.cells cs e)) where
  tsz := by simp [Act.put, h.tsz]
  dfr := h.dfr.alloc h.sto.mlt _
  tm i := by
    simp only [Fr.newBx, Act.put, Array.getD_eq_getD_getElem?]
    by_cases hi : i = d
    · subst hi
      have : i < a.tmps.size := by rw [h.tsz]; exact hd
      simp_all[LRel]
    · have hb : Nat.beq i d = false := by grind[yr]
      simp only [hb, cond_false]
      rw [Array.getElem?_setIfInBounds_ne (Ne.symm hi)]
      have h1 := h.tm i
      rw [Array.getD_eq_getD_getElem?] at h1
      cases hx : A.t i with
      | any => trivial
      | und => rw [hx] at h1; exact h1
      | av x => rw [hx] at h1; exact VRel.keep (kw w _ M Oth) h1
      | bx k o =>
        simp only [LV.kill]
        cases hk : Nat.beq k d with
        | true => trivial
        | false =>
          have hne : k ≠ d := fun e => by simp_all
          simp_all[LRel]
  bx k l' hk := by
    simp only [Fr.newBx] at hk
    by_cases hkd : k = d
    · subst hkd
      simp only [Nat.beq_refl, cond_true, Option.some.injEq] at hk
      subst hk
      simp only [if_true]
      exact ⟨Br w e M Oth hr, fun o => .inr rfl⟩
    · have hb : Nat.beq k d = false := by grind[yr]
      simp only [hb, cond_false] at hk
      simp only [hkd, if_false]
      exact ⟨(h.bx k l' hk).1.same (kw w _ M Oth) (jh w _ _ (h.bx k l' hk).1.lt), fun o => .inl ((h.bx k l' hk).2 o)⟩
  inj k k' hk hk' he := by
    simp only [Fr.newBx] at hk hk'
    have hlt : ∀ k, A.bx k ≠ none -> β k < w.heap.size := fun k hk => by
      cases hl : A.bx k with
      | none => grind
      | some l => exact (h.bx k l hl).1.lt
    by_cases h1 : k = d <;> by_cases h2 : k' = d
    · omega
    · have hb : Nat.beq k' d = false := by grind[yr]
      grind
    · have hb : Nat.beq k d = false := by grind[yr]
      grind
    · have hb : Nat.beq k d = false := by grind[yr]
      have hb' : Nat.beq k' d = false := by grind[yr]
      simp only [hb, hb', cond_false] at hk hk'
      simp only [h1, h2, if_false] at he
      exact h.inj k k' hk hk' he
  sep k b hk hb he := by
    have hlt : b < w.heap.size := by
      rcases hb with hb | hb
      · cases ho : st.obj b with
        | none => grind
        | some x => exact (h.sto.obj b x ho).1.lt
      · cases ho : st.tok b with
        | none => grind
        | some x =>
          obtain ⟨c, e, fr, h1, _⟩ := h.sto.tok b x ho
          grind
    simp only [Fr.newBx] at hk
    by_cases h1 : k = d
    · grind
    · have hb' : Nat.beq k d = false := by grind[yr]
      simp only [hb', cond_false] at hk
      simp only [h1, if_false] at he
      exact h.sep k b hk hb he
  sto := h.sto.alloc _
theorem SimB.grow1 {n : SN} {β : Nat -> Nat} {A : Fr} {a : Act} (h : SimB n Oth β A st M a w) (o : Obj) : SimB n Oth β A st (qj M w.heap.size) a (w.alloc o) where
  tsz := h.tsz
  dfr := h.dfr.alloc h.sto.mlt _
  tm i := (h.tm i).keep (kw w _ M Oth)
  bx k l hk := ⟨(h.bx k l hk).1.same (kw w _ M Oth) (jh w _ _ (h.bx k l hk).1.lt), fun o => .inl ((h.bx k l hk).2 o)⟩
  inj := h.inj
  sep := h.sep
  sto := h.sto.alloc _
theorem ya {i j : Nat} (h : i ≠ j) : Nat.beq i j = false := by grind[yr]
/-- A new object. -/
theorem SimB.newObj {n : SN} {β : Nat -> Nat} {A : Fr} {a : Act} (h : SimB n Oth β A st M a w) (o : Obj) (x : AObj)
    (hr : ObjRel (w.alloc o) (fun b o => qj M w.heap.size b o \/ Oth b o) x w.heap.size) :
    SimB n Oth β A (st.setObj w.heap.size x) (qj M w.heap.size) a (w.alloc o) where
  tsz := h.tsz
  dfr := h.dfr.alloc h.sto.mlt _
  tm := (h.grow1 o).tm
  bx := (h.grow1 o).bx
  inj := h.inj
  sep k b hk hb he := by
    by_cases hbs : b = w.heap.size
    · cases hl : A.bx k with
      | none => grind
      | some l => have := (h.bx k l hl).1.lt; omega
    · refine h.sep k b hk ?_ he
      simpa [Store.setObj, ya hbs] using hb
  sto := by
    have h' := h.sto.alloc o
    refine ⟨fun b y hy => ?_, h'.tok, h'.mlt, h'.olt, h'.dis⟩
    by_cases hbs : b = w.heap.size
    · subst hbs
      simp only [Store.setObj, Nat.beq_refl, cond_true, Option.some.injEq] at hy
      subst hy
      exact ⟨hr, fun o => .inr rfl⟩
    · simp only [Store.setObj, ya hbs, cond_false] at hy
      exact h'.obj b y hy
end
section
variable {P : Program} {c : Cfg} {w : World} {Oth M : Nat -> Nat -> Prop} {st : Store}
theorem CellsRel.mono {T T' : Nat -> Nat -> Prop} (hs : ∀ b o, T' b o -> T b o) {l : List AV} {b : Nat} (h : CellsRel w T l b) : CellsRel w T' l b := by
  obtain ⟨c, e, fr, h1, h2, h3, h4⟩ := h
  exact ⟨c, e, fr, h1, h2, h3, fun i x y hx hy => (h4 i x y hx hy).mono hs⟩
theorem ObjRel.mono {T T' : Nat -> Nat -> Prop} (hs : ∀ b o, T' b o -> T b o) {x : AObj} {b : Nat} (h : ObjRel w T x b) : ObjRel w T' x b := by
  cases x with
  | cells l => exact CellsRel.mono hs h
  | map es bs clock =>
    obtain ⟨ms, h1, h2, h3, h4⟩ := h
    exact ⟨ms, h1, h2, fun i x y hx hy => ⟨(h3 i x y hx hy).1.mono hs, (h3 i x y hx hy).2.mono hs⟩, h4⟩
  | iter m since seen last => exact h
  | ghost o gh => exact ⟨h.1, fun p hp => (h.2 p hp).mono hs⟩
theorem LRel.mono {T T' : Nat -> Nat -> Prop} (hs : ∀ b o, T' b o -> T b o) {β : Nat -> Nat} {x : LV} {v : Value} (h : LRel w T β x v) : LRel w T' β x v := by
  cases x with
  | any => trivial
  | und => exact h
  | av x => exact VRel.mono hs h
  | bx k off => exact h
theorem SimB.shrink {n : SN} {β : Nat -> Nat} {A : Fr} {a : Act} (h : SimB n Oth β A st M a w) {M' : Nat -> Nat -> Prop} (hs : ∀ b o, M' b o -> M b o)
    (hb : ∀ k l, A.bx k = some l -> ∀ o, M' (β k) o) (ho : ∀ b x, st.obj b = some x -> ∀ o, M' b o) (ht : ∀ b top, st.tok b = some top -> ∀ o, top <= o -> M' b o) : SimB n Oth β A st M' a w where
  tsz := h.tsz
  dfr := h.dfr.sub hs
  tm i := (h.tm i).mono fun b o hm => hm.imp (hs b o) id
  bx k l hk := ⟨(h.bx k l hk).1.mono fun b o hm => hm.imp (hs b o) id, hb k l hk⟩
  inj := h.inj
  sep := h.sep
  sto :=
    { obj := fun b x hx => ⟨(h.sto.obj b x hx).1.mono fun b o hm => hm.imp (hs b o) id, ho b x hx⟩
      tok := fun b top hx => by
        obtain ⟨c, e, fr, h1, h2, h3, h4⟩ := h.sto.tok b top hx
        grind
      mlt := fun b o hm => h.sto.mlt b o (hs b o hm)
      olt := h.sto.olt
      dis := fun b o hO hM => h.sto.dis b o hO (hs b o hM) }
/-- M and the cells of one block from 'top' on. -/
def Fa (M : Nat -> Nat -> Prop) (B top : Nat) : Nat -> Nat -> Prop := fun b o => M b o \/ (b = B /\ top <= o)
theorem Lv (w : World) (o : Obj) (M : Nat -> Nat -> Prop) (top : Nat) : Chg M w (Fa M w.heap.size top) (w.alloc o) :=
  { vy w o M with
    sub := fun b o' hm hb => by
      rcases hm with h | h
      · exact h
      · omega }
theorem SimB.newTok {n : SN} {β : Nat -> Nat} {A : Fr} {a : Act} (h : SimB n Oth β A st M a w) (cs : Array Value) (e : TypeId) (top : Nat) (htop : top <= cs.size) :
    SimB n Oth β A (st.setTok w.heap.size (some top)) (Fa M w.heap.size top) a (w.alloc (.cells cs e)) := by
  have hlt : ∀ b, (st.obj b ≠ none \/ st.tok b ≠ none) -> b < w.heap.size := fun b hb => by
    rcases hb with hb | hb
    · cases ho : st.obj b with
      | none => grind
      | some x => exact (h.sto.obj b x ho).1.lt
    · cases ho : st.tok b with
      | none => grind
      | some x =>
        obtain ⟨c, e, fr, h1, _⟩ := h.sto.tok b x ho
        grind
  have h1 := (h.grow1 (.cells cs e)).shrink (M' := Fa M w.heap.size top) (fun b o hm => hm.imp id fun h => h.1)
    (fun k l hk o => .inl ((h.bx k l hk).2 o)) (fun b x hx o => .inl ((h.sto.obj b x hx).2 o))
    (fun b t hx o ho => by
      obtain ⟨c, e, fr, h1, h2, h3, h4⟩ := h.sto.tok b t hx
      exact .inl (h4 o ho))
  refine { h1 with sep := fun k b hk hb he => ?_, sto := { h1.sto with tok := fun b t ht => ?_ } }
  · by_cases hbs : b = w.heap.size
    · cases hl : A.bx k with
      | none => grind
      | some l => have := (h.bx k l hl).1.lt; omega
    · refine h.sep k b hk ?_ he
      simpa [Store.setTok, ya hbs] using hb
  · by_cases hbs : b = w.heap.size
    · subst hbs
      simp only [Store.setTok, Nat.beq_refl, cond_true, Option.some.injEq] at ht
      subst ht
      exact ⟨cs, e, (0, 0), ww w _, .inl rfl, htop, fun o ho => .inr ⟨rfl, ho⟩⟩
    · simp only [Store.setTok, ya hbs, cond_false] at ht
      exact h1.sto.tok b t ht
/-- What becomes of a world when cells of one block are stored. -/
structure Wrote (w : World) (b o : Nat) (vs : List Value) (w' : World) : Prop where
  size : w'.heap.size = w.heap.size
  other : ∀ b', b' ≠ b -> w'.heap[b']? = w.heap[b']?
  blk : ∀ c e fr, w.heap[b]? = some (.cells c e fr) -> ∃ c', w'.heap[b]? = some (.cells c' e fr) /\ c'.toList = c.toList.take o ++ vs ++ c.toList.drop (o + vs.length) /\ c'.size = c.size
  tape : w'.tape = w.tape
  os : w'.os = w.os
  output : w'.output = w.output
theorem Dd (w : World) (b o : Nat) (v : Value) (b' : Nat) : (w.setCell ⟨b, o, none⟩ v).heap[b']? = if b' = b then (w.heap[b']?).map (fun | .cells c e fr => .cells (c.setIfInBounds o v) e fr | x => x) else w.heap[b']? := by
  simp only [World.setCell, Array.getElem?_modify]
  grind
theorem Cj (w : World) (b o : Nat) : ∀ (vs : List Value) (i : Nat) (w : World) (c : Array Value) (e : TypeId) (fr : Nat × Nat), w.heap[b]? = some (.cells c e fr) -> ja fr c.size -> o + i + vs.length <= c.size ->
    (∀ v ∈ vs, yk v = true) -> ∃ w', (storeCells ⟨b, o, none⟩ vs i).run P w = .ok () w' /\ Wrote w b (o + i) vs w' := by
  intro vs
  induction vs with
  | nil =>
    intro i w c e fr hw _ _ _
    exact ⟨w, by rfl, rfl, fun _ _ => rfl, fun c e fr h => ⟨c, h, by simp, rfl⟩, rfl, rfl, rfl⟩
  | cons v vs ih =>
    intro i w c e fr hw hf hlen hone
    simp only [List.length_cons] at hlen
    have hlt : o + i < c.size := by omega
    have hcell : w.cell? ⟨b, o + i, none⟩ = some c[o + i] := by simp [World.cell?, hw, hlt]
    have hfz : w.frozen? ⟨b, o + i, none⟩ = false := by grind[World.frozen?,ja]
    have hst : (store (Addr.add ⟨b, o, none⟩ i) v).run P w = .ok () (w.setCell ⟨b, o + i, none⟩ v) := by
      rw [qv]
      have h1 := hone v (by simp)
      cases v <;> simp [yk] at h1 <;> simp [store, Sem.run, hcell, hfz]
    have hw1 : (w.setCell ⟨b, o + i, none⟩ v).heap[b]? = some (.cells (c.setIfInBounds (o + i) v) e fr) := by simp_all[Dd]
    obtain ⟨w', hr, hwr⟩ := ih (i + 1) _ _ e fr hw1 (by grind) (by grind) (fun v hv => hone v (by simp [hv]))
    refine ⟨w', by grind[storeCells,Sem.run_bind,Result.andThen_ok], by rw [hwr.size]; simp, fun b' hb => by rw [hwr.other b' hb, Dd, if_neg hb], fun c₁ e₁ fr₁ hc₁ => ?_, by rw [hwr.tape]; rfl, by rw [hwr.os]; rfl, by rw [hwr.output]; rfl⟩
    rw [hw] at hc₁
    cases hc₁
    obtain ⟨c', hc', hl, hs⟩ := hwr.blk _ _ _ hw1
    refine ⟨c', hc', ?_, by grind⟩
    rw [hl, Array.toList_setIfInBounds]
    have hlt' : o + i < c.toList.length := by omega
    apply List.ext_getElem?
    intro j
    simp only [List.getElem?_append, List.getElem?_take, List.getElem?_drop, List.getElem?_set, List.length_append, List.length_take, List.length_set, List.length_cons, Array.length_toList]
    grind
theorem Wrote.keeps {b o : Nat} {vs : List Value} {w' : World} (h : Wrote w b o vs w') {T : Nat -> Nat -> Prop} (hb : ∀ o, T b o) : Keeps w T w' T where
  cell b' o' c hc hT := by
    have hne : b' ≠ b := fun e => hT (e ▸ hb o')
    rw [jy (h.other b' hne)]
    exact hc
  out b' o' c hc hT := hT
  shp b' c e fr hw := by
    by_cases hbb : b' = b
    · subst hbb
      obtain ⟨c', h1, _, h2⟩ := h.blk c e fr hw
      grind
    · exact ⟨c, fr, by rw [h.other b' hbb]; exact hw, rfl⟩
theorem Wrote.chg {b o : Nat} {vs : List Value} {w' : World} (h : Wrote w b o vs w') (hb : ∀ o, M b o) : Chg M w M w' where
  size := by rw [h.size]; simp
  keep b' o' _ hm := jy (h.other b' fun e => hm (e ▸ hb o')) o'
  blk b' _ hm := h.other b' fun e => hm 0 (e ▸ hb 0)
  shp := (h.keeps (T := M) hb).shp
  sub _ _ hm _ := hm
  tape := h.tape
  os := h.os
  output := h.output
theorem CellsRel.wrote {b o : Nat} {vs : List Value} {w' : World} {T : Nat -> Nat -> Prop} (h : Wrote w b o vs w') (hT : ∀ o, T b o) {l xs : List AV} (hl : CellsRel w T l b) (hx : Reads w T xs vs) :
    CellsRel w' T (z6 l o xs) b := by
  obtain ⟨c, e, fr, h1, h2, h3, h4⟩ := hl
  obtain ⟨c', h5, h6, h7⟩ := h.blk c e fr h1
  have hr : Reads w T l c.toList := ⟨by omega, fun i x y hx hy => h4 i x y hx (by grind)⟩
  have hr' : Reads w' T (z6 l o xs) c'.toList := by
    rw [h6]
    unfold z6
    refine (((hr.take o).append hx).append ?_).keep (h.keeps hT)
    rw [hx.1]
    exact hr.drop _
  exact ⟨c', e, fr, h5, h2, by simpa using hr'.1, fun i x y hx hy => hr'.2 i x y hx (by grind)⟩
theorem StoreOK.wrote {b o : Nat} {vs : List Value} {w' : World} (h : StoreOK st Oth M w) (hw : Wrote w b o vs w') (hb : ∀ o, M b o) (hob : st.obj b = none) : StoreOK st Oth M w' where
  obj b' x hx := by
    have hne : b' ≠ b := fun e => by grind
    exact ⟨ObjRel.same (h.obj b' x hx).1 (hw.keeps fun o => .inl (hb o)) (hw.other b' hne), (h.obj b' x hx).2⟩
  tok b' top ht := by
    obtain ⟨c, e, fr, h1, h2, h3, h4⟩ := h.tok b' top ht
    by_cases he : b' = b
    · subst he
      obtain ⟨c', h5, _, h6⟩ := hw.blk c e fr h1
      grind
    · exact ⟨c, e, fr, by rw [hw.other b' he]; exact h1, h2, h3, h4⟩
  mlt b' o' hm := by rw [hw.size]; exact h.mlt b' o' hm
  olt b' o' hm := by rw [hw.size]; exact h.olt b' o' hm
  dis := h.dis
/-- A store into a box of the call's own. -/
theorem SimB.setBx {n : SN} {β : Nat -> Nat} {A : Fr} {a : Act} (h : SimB n Oth β A st M a w) {k o : Nat} {l xs : List AV} {vs : List Value} {w' : World} (hk : A.bx k = some l)
    (hx : Reads w (fun b o => M b o \/ Oth b o) xs vs) (hw : Wrote w (β k) o vs w') : SimB n Oth β (A.setBx k (z6 l o xs)) st M a w' := by
  have hM := (h.bx k l hk).2
  have hT : ∀ o, M (β k) o \/ Oth (β k) o := fun o => .inl (hM o)
  have hsome : ∀ k', (A.setBx k (z6 l o xs)).bx k' ≠ none -> A.bx k' ≠ none := by grind[Fr.setBx,ya]
  have hob : st.obj (β k) = none := by
    cases ho : st.obj (β k) with
    | none => rfl
    | some x => exact absurd rfl (h.sep k (β k) (by grind) (.inl (by grind)))
  exact
    { tsz := h.tsz
      dfr := h.dfr.step fun D _ _ h2 => ⟨hw.other D fun e => (h2 0).1 (e ▸ hM 0), fun o => (h2 o).1⟩
      tm := fun i => (h.tm i).keep (hw.keeps hT)
      bx := fun k' l' hk' => by
        by_cases he : k' = k
        · subst he
          simp only [Fr.setBx, Nat.beq_refl, cond_true, Option.some.injEq] at hk'
          subst hk'
          exact ⟨CellsRel.wrote hw hT (h.bx k' l hk).1 hx, hM⟩
        · simp only [Fr.setBx, ya he, cond_false] at hk'
          have hne : β k' ≠ β k := fun e => he (h.inj k' k (by grind) (by grind) e)
          exact ⟨(h.bx k' l' hk').1.same (hw.keeps hT) (hw.other _ hne), (h.bx k' l' hk').2⟩
      inj := fun k1 k2 h1 h2 => h.inj k1 k2 (hsome k1 h1) (hsome k2 h2)
      sep := fun k1 b h1 => h.sep k1 b (hsome k1 h1)
      sto := h.sto.wrote hw hM hob }
/-- A store into an object. -/
theorem SimB.setObj {n : SN} {β : Nat -> Nat} {A : Fr} {a : Act} (h : SimB n Oth β A st M a w) {b o : Nat} {l xs : List AV} {vs : List Value} {w' : World} (hk : st.obj b = some (.cells l))
    (hx : Reads w (fun b o => M b o \/ Oth b o) xs vs) (hw : Wrote w b o vs w') : SimB n Oth β A (st.setObj b (.cells (z6 l o xs))) M a w' := by
  have hM := (h.sto.obj b _ hk).2
  have hT : ∀ o, M b o \/ Oth b o := fun o => .inl (hM o)
  exact
    { tsz := h.tsz
      dfr := h.dfr.step fun D _ _ h2 => ⟨hw.other D fun e => (h2 0).1 (e ▸ hM 0), fun o => (h2 o).1⟩
      tm := fun i => (h.tm i).keep (hw.keeps hT)
      bx := fun k' l' hk' => by
        have hne : β k' ≠ b := h.sep k' b (by grind) (.inl (by grind))
        exact ⟨(h.bx k' l' hk').1.same (hw.keeps hT) (hw.other _ hne), (h.bx k' l' hk').2⟩
      inj := h.inj
      sep := fun k1 b1 h1 h2 => h.sep k1 b1 h1 (by grind[Store.setObj,ya])
      sto :=
        { obj := fun b' x hx' => by
            by_cases he : b' = b
            · subst he
              simp only [Store.setObj, Nat.beq_refl, cond_true, Option.some.injEq] at hx'
              subst hx'
              exact ⟨CellsRel.wrote hw hT (h.sto.obj b' _ hk).1 hx, hM⟩
            · simp only [Store.setObj, ya he, cond_false] at hx'
              exact ⟨ObjRel.same (h.sto.obj b' x hx').1 (hw.keeps hT) (hw.other b' he), (h.sto.obj b' x hx').2⟩
          tok := fun b' top ht => by
            obtain ⟨c, e, fr, h1, h2, h3, h4⟩ := h.sto.tok b' top ht
            by_cases he : b' = b
            · subst he
              obtain ⟨c', h5, _, h6⟩ := hw.blk c e fr h1
              grind
            · exact ⟨c, e, fr, by rw [hw.other b' he]; exact h1, h2, h3, h4⟩
          mlt := fun b' o' hm => by rw [hw.size]; exact h.sto.mlt b' o' hm
          olt := fun b' o' hm => by rw [hw.size]; exact h.sto.olt b' o' hm
          dis := h.sto.dis } }
end
section
variable {P : Program} {c : Cfg} {K : Fr -> Store -> Prop} {A : Fr} {st : Store}
theorem qn {d n : Nat} {p : Prop} (h : bif Nat.blt d n then p else False) : d < n /\ p := by simp_all
theorem zel {o : Oper} {t : TypeId} (ho : o.op = .alloc t) (hI : zu P c.I)
    (h : optK (c.I t) fun i => optK o.dst fun d => bif Nat.blt d c.n then
      (bif c.G.contains d then ∀ b, Fresh st b -> K (A.put d (.av (.s (.pointer (some ⟨b, 0, none⟩))))) (st.setObj b (.cells (xd i)))
        else K (A.newBx d (xd i)) st) else False) : AOp P c.N o K A st := by
  obtain ⟨i, hi, h⟩ := ze h
  obtain ⟨d, hd, h⟩ := ze h
  obtain ⟨hlt, h⟩ := qn h
  rintro Oth M a w ⟨β, sim⟩
  obtain ⟨z, hz1, hz2⟩ := Aw (hI _ _ hi) w
  have hr : (execOp a.eval o).run P w = .ok (.value (.pointer (some ⟨w.heap.size, 0, none⟩))) (w.alloc (.cells z.cells t)) := by simp_all[execOp,Instr.alloc,newVar,newRow]
  have hrd : ∀ T, Reads w T (xd i) z.cells.toList := fun T => by grind[xd,Reads.map_s]
  unfold Oper.wp
  rw [hr, Oper.upon_value, hd]
  cases hg : c.G.contains d with
  | true =>
    rw [hg] at h
    refine ⟨_, _, qj M w.heap.size, h w.heap.size (sim.sto.fresh (Nat.le_refl _)), ⟨β, ?_⟩, vy _ _ _⟩
    exact (sim.newObj _ (.cells (xd i)) (Br w t M Oth (hrd _))).put hlt (VRel.s _)
  | false =>
    rw [hg] at h
    exact ⟨_, _, qj M w.heap.size, h, ⟨_, sim.newBx hlt t (hrd _)⟩, vy _ _ _⟩
theorem zei {o : Oper} {t : TypeId} {x : Operand} (ho : o.op = .box t x) (hI : zu P c.I)
    (h : optK o.dst fun d => bif Nat.blt d c.n then (match A.ev x with
      | .av x => optK (cellsOf x) fun l =>
        bif c.G.contains d then ∀ b, Fresh st b -> K (A.put d (.av (.s (.pointer (some ⟨b, 0, none⟩))))) (st.setObj b (.cells l))
        else K (A.newBx d l) st
      | _ => False) else False) : AOp P c.N o K A st := by
  obtain ⟨d, hd, h⟩ := ze h
  obtain ⟨hlt, h⟩ := qn h
  split at h
  · rename_i y hy
    obtain ⟨l, hl, h⟩ := ze h
    rintro Oth M a w ⟨β, sim⟩
    have hv := z7 sim.env hy
    obtain ⟨hrd, _⟩ := Hc hv hl
    have hr : (execOp a.eval o).run P w = .ok (.value (.pointer (some ⟨w.heap.size, 0, none⟩))) (w.alloc (.cells (a.eval x).cells t)) := by
      simp [execOp, ho, Instr.box, newVar, newRow]
    unfold Oper.wp
    rw [hr, Oper.upon_value, hd]
    cases hg : c.G.contains d with
    | true =>
      rw [hg] at h
      refine ⟨_, _, qj M w.heap.size, h w.heap.size (sim.sto.fresh (Nat.le_refl _)), ⟨β, ?_⟩, vy _ _ _⟩
      exact (sim.newObj _ (.cells l) (Br w t M Oth hrd)).put hlt (VRel.s _)
    | false =>
      rw [hg] at h
      exact ⟨_, _, qj M w.heap.size, h, ⟨_, sim.newBx hlt t hrd⟩, vy _ _ _⟩
  grind
theorem zed {o : Oper} {t : TypeId} {p x : Operand} (ho : o.op = .store t p x) (hd : o.dst = none) (hI : zu P c.I)
    (h : optK (c.I t) fun i => match A.ev x with
      | .av x => j1 i A st (A.ev p) x K
      | _ => False) : AOp P c.N o K A st := by
  obtain ⟨i, hi, h⟩ := ze h
  split at h
  · rename_i y hy
    obtain ⟨xs, hxs, h⟩ := ze h
    cases hb : (Nat.beq xs.length i.size && xs.all AV.one) with
    | false => grind
    | true =>
    rw [hb] at h
    simp only [cond_true] at h
    simp only [Bool.and_eq_true] at hb
    have hsz : xs.length = i.size := (yr _ _).1 hb.1
    rintro Oth M a w ⟨β, sim⟩
    have hv := z7 sim.env hy
    obtain ⟨hrd, hone⟩ := Hc hv hxs
    have hone' : ∀ v ∈ (a.eval x).cells.toList, yk v = true := by
      intro v hv
      obtain ⟨j, hj⟩ := List.mem_iff_getElem?.1 hv
      have hjl : j < xs.length := by rw [hrd.1]; grind
      exact Ge (hrd.2 j _ v (List.getElem?_eq_getElem hjl) hj) (List.all_eq_true.1 hb.2 _ (List.getElem_mem hjl))
    have hvs : (a.eval x).cells.size = i.size := by rw [<- hsz, hrd.1]; simp
    unfold Oper.wp
    split at h
    · rename_i k off hp
      obtain ⟨l, hl, h⟩ := ze h
      cases hb2 : Nat.ble (off + xs.length) l.length with
      | false => grind
      | true =>
      rw [hb2] at h
      simp only [cond_true, jt] at h
      have hle : off + xs.length <= l.length := Nat.le_of_ble_eq_true hb2
      have hp' : a.eval p = .pointer (some ⟨β k, off, none⟩) := by have := sim.ev p; rw [hp] at this; exact this
      obtain ⟨⟨cs, e, fr, h1, h2, h3, h4⟩, hM⟩ := sim.bx k l hl
      obtain ⟨w', hr, hw⟩ := Cj (P := P) w (β k) off (a.eval x).cells.toList 0 w cs e fr h1 (.inl h2) (by grind) hone'
      have hrun : (execOp a.eval o).run P w = .ok .skip w' := by
        simp [execOp, ho, hp', Instr.storeAt, Instr.sureAddr, storeVar, yy (hI _ _ hi), hvs, hr]
      rw [hrun, Oper.upon_skip, hd]
      exact ⟨_, _, M, h, ⟨β, sim.setBx hl hrd hw⟩, hw.chg hM⟩
    · rename_i b off hp
      obtain ⟨ob, hob, h⟩ := ze h
      cases ob with
      | map es bs clock => grind
      | iter m since seen last => grind
      | ghost o gh => grind
      | cells l =>
      obtain ⟨hle, h⟩ := h
      rw [jt] at h
      have hp' : a.eval p = .pointer (some ⟨b, off, none⟩) := VRel.eq_s (z7 sim.env hp)
      obtain ⟨⟨cs, e, fr, h1, h2, h3, h4⟩, hM⟩ := sim.sto.obj b _ hob
      obtain ⟨w', hr, hw⟩ := Cj (P := P) w b off (a.eval x).cells.toList 0 w cs e fr h1 (.inl h2) (by grind) hone'
      have hrun : (execOp a.eval o).run P w = .ok .skip w' := by
        simp [execOp, ho, hp', Instr.storeAt, Instr.sureAddr, storeVar, yy (hI _ _ hi), hvs, hr]
      rw [hrun, Oper.upon_skip, hd]
      exact ⟨_, _, M, h, ⟨β, sim.setObj hob hrd hw⟩, hw.chg hM⟩
    grind
  grind
end
section
variable {P : Program} {c : Cfg} {K : Fr -> Store -> Prop} {A : Fr} {st : Store}
theorem VRel.clos_inv {w : World} {T : Nat -> Nat -> Prop} {f : FuncId} {cs : List AV} {v : Value} (h : VRel w T (.clos f cs) v) : ∃ c, v = .func (.func f) #[] c /\ Reads w T cs c.toList := by
  cases h with
  | clos _ _ c hl h => exact ⟨c, rfl, by omega, fun i x y hx hy => h i x y hx (by grind)⟩
/-- What a call may turn: not the frame's boxes. -/
def inM (M : Nat -> Nat -> Prop) (A : Fr) (β : Nat -> Nat) : Nat -> Nat -> Prop := fun b o => M b o /\ ∀ k, A.bx k ≠ none -> β k ≠ b
def Cr (Oth M : Nat -> Nat -> Prop) (A : Fr) (β : Nat -> Nat) : Nat -> Nat -> Prop := fun b o => Oth b o \/ (M b o /\ ∃ k, A.bx k ≠ none /\ β k = b)
theorem k0 {Oth M : Nat -> Nat -> Prop} {β : Nat -> Nat} : ∀ b o, (inM M A β b o \/ Cr Oth M A β b o) -> (M b o \/ Oth b o) := by
  rintro b o (h | h | h)
  · exact .inl h.1
  · grind
  grind
theorem SimB.inner {n : SN} {Oth M : Nat -> Nat -> Prop} {β : Nat -> Nat} {a : Act} {w : World} (sim : SimB n Oth β A st M a w) : StoreOK st (Cr Oth M A β) (inM M A β) w :=
  { obj := fun b x hx => ⟨(sim.sto.obj b x hx).1.mono k0, fun o => ⟨(sim.sto.obj b x hx).2 o, fun k hk => sim.sep k b hk (.inl (by grind))⟩⟩
    tok := fun b top hx => by
      obtain ⟨c, e, fr, h1, h2, h3, h4⟩ := sim.sto.tok b top hx
      exact ⟨c, e, fr, h1, h2, h3, fun o ho => ⟨h4 o ho, fun k hk => sim.sep k b hk (.inr (by grind))⟩⟩
    mlt := fun b o hm => sim.sto.mlt b o hm.1
    olt := fun b o hm => by
      rcases hm with h | h
      · exact sim.sto.olt b o h
      · exact sim.sto.mlt b o h.1
    dis := fun b o hO hM => by
      rcases hO with h | ⟨h, k, hk, he⟩
      · exact sim.sto.dis b o h hM.1
      · exact hM.2 k hk he }
/-- The frame behind what turns no box of it. -/
theorem SimB.post {n : SN} {Oth M : Nat -> Nat -> Prop} {β : Nat -> Nat} {a : Act} {w : World} (sim : SimB n Oth β A st M a w) {R : AV -> Store -> Prop} :
    ∀ v w', yi st R (Cr Oth M A β) (inM M A β) w v w' -> ∃ r st' M', R r st' /\ VRel w' (fun b o => M' b o \/ Oth b o) r v /\ SimB n Oth β A st' M' a w' /\ Chg M w M' w' := by
  rintro v w' ⟨r, st', Mc', hR, hr, hsto, hchg⟩
  let M' : Nat -> Nat -> Prop := fun b o => Mc' b o \/ (M b o /\ ∃ k, A.bx k ≠ none /\ β k = b)
  have hT2 : ∀ b o, (M' b o \/ Oth b o) -> (Mc' b o \/ Cr Oth M A β b o) := by
    rintro b o ((h | h) | h)
    · grind
    · exact .inr (.inr h)
    · exact .inr (.inl h)
  have hblk : ∀ k, A.bx k ≠ none -> w'.heap[β k]? = w.heap[β k]? := fun k hk => by
    cases hl : A.bx k with
    | none => grind
    | some l => exact hchg.blk _ (sim.bx k l hl).1.lt fun o hm => hm.2 k hk rfl
  have hno : ∀ k b o, A.bx k ≠ none -> Mc' b o -> β k ≠ b := fun k b o hk hm he => by
    subst he
    cases hl : A.bx k with
    | none => grind
    | some l => exact (hchg.sub _ o hm (sim.bx k l hl).1.lt).2 k hk rfl
  refine ⟨r, st', M', hR, hr.mono hT2, ?_, ?_⟩
  · exact
      { tsz := sim.tsz
        dfr := sim.dfr.step fun D _ hl h2 => ⟨hchg.blk D hl fun o hm => (h2 o).1 hm.1, fun o hm => by
          rcases hm with hm | hm
          · exact (h2 o).1 (hchg.sub D o hm hl).1
          grind⟩
        tm := fun i => ((LRel.mono k0 (sim.tm i)).keep hchg.keeps).mono hT2
        bx := fun k l hl => by
          have hk : A.bx k ≠ none := by grind
          exact ⟨(((sim.bx k l hl).1.mono k0).same hchg.keeps (hblk k hk)).mono hT2, fun o => .inr ⟨(sim.bx k l hl).2 o, k, hk, rfl⟩⟩
        inj := sim.inj
        sep := fun k b hk hb => by
          rcases hb with hb | hb
          · cases ho : st'.obj b with
            | none => grind
            | some x => exact hno k b 0 hk ((hsto.obj b x ho).2 0)
          · cases ho : st'.tok b with
            | none => grind
            | some top =>
              obtain ⟨c, e, fr, h1, h2, h3, h4⟩ := hsto.tok b top ho
              grind
        sto :=
          { obj := fun b x hx => ⟨(hsto.obj b x hx).1.mono hT2, fun o => .inl ((hsto.obj b x hx).2 o)⟩
            tok := fun b top hx => by
              obtain ⟨c, e, fr, h1, h2, h3, h4⟩ := hsto.tok b top hx
              grind
            mlt := fun b o hm => by
              rcases hm with h | h
              · exact hsto.mlt b o h
              · exact Nat.lt_of_lt_of_le (sim.sto.mlt b o h.1) hchg.size
            olt := fun b o hm => Nat.lt_of_lt_of_le (sim.sto.olt b o hm) hchg.size
            dis := fun b o hO hM => by
              rcases hM with h | h
              · exact hsto.dis b o (.inl hO) h
              · exact sim.sto.dis b o hO h.1 } }
  · exact
      { size := hchg.size
        keep := fun b o hb hm => hchg.keep b o hb fun h => hm h.1
        blk := fun b hb hm => hchg.blk b hb fun o h => hm o h.1
        shp := hchg.shp
        sub := fun b o hm hb => by
          rcases hm with h | h
          · exact (hchg.sub b o h hb).1
          grind
        tape := hchg.tape
        os := hchg.os
        output := hchg.output }
/-- The frame behind a call: its own boxes are as they were. -/
theorem SimB.call {n : SN} {Oth M : Nat -> Nat -> Prop} {β : Nat -> Nat} {a : Act} {w : World} (sim : SimB n Oth β A st M a w) {g : FuncId} {args : List AV} {vs : Array Value} {R : AV -> Store -> Prop}
    (hc : ACalls P g args st R) (hv : Reads w (fun b o => M b o \/ Oth b o) args vs.toList) :
    Fb P (fun v w' => ∃ r st' M', R r st' /\ VRel w' (fun b o => M' b o \/ Oth b o) r v /\ SimB n Oth β A st' M' a w' /\ Chg M w M' w') ((callFunc g vs).run P w) := by
  have key := sim.post (R := R)
  have hout := hc.out _ _ w vs sim.inner ⟨hv.1, fun i x y hx hy => (hv.2 i x y hx hy).mono k0⟩
  generalize (callFunc g vs).run P w = res at *
  cases res with
  | halt h w' => trivial
  | ok nx w' =>
    cases nx with
    | enter f as => exact Calls.mono hout fun e w'' ⟨v, he, hp⟩ => ⟨v, he, key v w'' hp⟩
    | value v => exact key v w' hout
    | _ => trivial
/-- The operations with rules of their own. -/
theorem D7 {o : Oper} (hI : zu P c.I) (h : vcX P c o K A st) : AOp P c.N o K A st := by
  obtain ⟨vs, hvs, h⟩ := ze h
  rintro Oth M a w ⟨β, sim⟩
  obtain ⟨hm1, hm2⟩ := wu hvs
  have hr : Reads w (fun b o => M b o \/ Oth b o) vs (o.op.operands.map a.eval).toList := by
    refine ⟨by simp [hm1], fun i x y hx hy => ?_⟩
    obtain ⟨z, hz, hzz⟩ := hm2 i x hx
    have hz' : o.op.operands[i]? = some z := by grind
    rw [Array.toList_map, List.getElem?_map, hz] at hy
    simp at hy
    subst hy
    exact z7 sim.env (Ar hzz)
  have hout := h.out _ _ w a.eval hI sim.inner ⟨hr.1, fun i x y hx hy => (hr.2 i x y hx hy).mono k0⟩
  have key := sim.post (R := fun r st' => z8 A c.n o.dst (.av r) fun A' => K A' st')
  have fin : ∀ v w', (∃ r st' M', (z8 A c.n o.dst (.av r) fun A' => K A' st') /\ VRel w' (fun b o => M' b o \/ Oth b o) r v /\ SimB c.N Oth β A st' M' a w' /\ Chg M w M' w') ->
      ∃ A' st' M', K A' st' /\ Sim c.N Oth A' st' M' (a.put o.dst v) w' /\ Chg M w M' w' := by
    rintro v w' ⟨r, st', M', hk, hv, hs, hchg⟩
    unfold z8 at hk
    cases hd : o.dst with
    | none => rw [hd] at hk; exact ⟨A, st', M', hk, ⟨β, hs⟩, hchg⟩
    | some d =>
      rw [hd] at hk
      obtain ⟨hlt, hk⟩ := qn hk
      exact ⟨_, st', M', hk, ⟨β, hs.put hlt hv⟩, hchg⟩
  unfold Oper.wp
  generalize (execOp a.eval o).run P w = res at *
  cases res with
  | halt h w' => grind
  | ok nx w' =>
    cases nx with
    | value v => rw [Oper.upon_value]; exact fin v w' (key v w' hout)
    | skip =>
      obtain ⟨hd, hout⟩ := hout
      rw [Oper.upon_skip]
      have := fin _ w' (key _ w' hout)
      trivial
    | _ => grind
theorem I2 (w : World) (T : Nat -> Nat -> Prop) (l : List Value) : Reads w T (l.map AV.s) l := ⟨by simp, fun i x y hx hy => by
  rw [List.getElem?_map, hy] at hx
  cases hx
  exact .s _⟩
theorem zbx {w : World} {T : Nat -> Nat -> Prop} {x : LV} {g : FuncId} {fv cap : List AV} {v : Value} (h : Dk x = some (g, fv, cap)) (hx : ∀ y, x = .av y -> VRel w T y v) : ∃ f c, v = .func (.func g) f c /\ Reads w T fv f.toList /\ Reads w T cap c.toList := by
  unfold Dk at h
  split at h
  · cases h
    obtain ⟨c, h1, h2⟩ := VRel.clos_inv (hx _ rfl)
    exact ⟨#[], c, h1, Reads.nil, h2⟩
  · cases h
    exact ⟨_, _, VRel.eq_s (hx _ rfl), I2 _ _ _, I2 _ _ _⟩
  · cases h
theorem zeh {o : Oper} {cl : Call} {f : Operand} (ho : o.op = .call cl) (hcl : cl.callee = .value f)
    (h : match Dk (A.ev f) with
      | some (g, fv, cap) => optK (cl.args.toList.mapM fun x => (A.ev x).toAV) fun vs =>
        ACalls P g (fv ++ (vs ++ cap)) st fun r st' => z8 A c.n o.dst (.av r) fun A' => K A' st'
      | _ => False) : AOp P c.N o K A st := by
  split at h
  · rename_i g fv cap hf
    obtain ⟨vs, hvs, h⟩ := ze h
    rintro Oth M a w ⟨β, sim⟩
    obtain ⟨fvv, capv, hcv, hfr, hcr⟩ := zbx hf fun x hx => z7 sim.env hx
    obtain ⟨hm1, hm2⟩ := wu hvs
    have hr1 : Reads w (fun b o => M b o \/ Oth b o) vs (cl.args.map a.eval).toList := by
      refine ⟨by simp [hm1], fun i x y hx hy => ?_⟩
      obtain ⟨z, hz, hzz⟩ := hm2 i x hx
      have hz' : cl.args[i]? = some z := by grind
      rw [Array.toList_map, List.getElem?_map, hz] at hy
      simp at hy
      subst hy
      exact z7 sim.env (Ar hzz)
    have hr : Reads w (fun b o => M b o \/ Oth b o) (fv ++ (vs ++ cap)) (fvv ++ (cl.args.map a.eval) ++ capv).toList := by
      rw [Array.toList_append, Array.toList_append, List.append_assoc]
      exact hfr.append (hr1.append hcr)
    have hrun : (execOp a.eval o).run P w = (callFunc g (fvv ++ (cl.args.map a.eval) ++ capv)).run P w := by grind[execOp,resolve,Deferred.ofValue,invoke]
    have hc := sim.call h hr
    unfold Oper.wp
    rw [hrun]
    have fin : ∀ v w', (∃ r st' M', (z8 A c.n o.dst (.av r) fun A' => K A' st') /\ VRel w' (fun b o => M' b o \/ Oth b o) r v /\ SimB c.N Oth β A st' M' a w' /\ Chg M w M' w') ->
        ∃ A' st' M', K A' st' /\ Sim c.N Oth A' st' M' (a.put o.dst v) w' /\ Chg M w M' w' := by
      rintro v w' ⟨r, st', M', hk, hv, hs, hchg⟩
      unfold z8 at hk
      cases hd : o.dst with
      | none => rw [hd] at hk; exact ⟨A, st', M', hk, ⟨β, hs⟩, hchg⟩
      | some d =>
        rw [hd] at hk
        obtain ⟨hlt, hk⟩ := qn hk
        exact ⟨_, st', M', hk, ⟨β, hs.put hlt hv⟩, hchg⟩
    generalize (callFunc g (fvv ++ (cl.args.map a.eval) ++ capv)).run P w = res at *
    cases res with
    | halt h w' => trivial
    | ok nx w' =>
      cases nx with
      | enter f as =>
        rw [Oper.upon_enter]
        exact Calls.mono hc fun e w'' ⟨v, he, hp⟩ => by subst he; exact fin v w'' hp
      | value v => rw [Oper.upon_value]; exact fin v w' hc
      | _ => trivial
  grind
/-- A call through an interface. -/
theorem zef {o : Oper} {cl : Call} {y : Operand} {m : String} (ho : o.op = .call cl) (hcl : cl.callee = .invoke y m) (h : C7 P c o cl m (A.ev y) K A st) : AOp P c.N o K A st := by
  unfold C7 at h
  split at h
  · rename_i t v hf
    obtain ⟨vs, hvs, g, x, ⟨u, hm, hu⟩, h⟩ := ze h
    rintro Oth M a w ⟨β, sim⟩
    have hcv : a.eval y = .iface t v := VRel.eq_s (z7 sim.env hf)
    obtain ⟨hm1, hm2⟩ := wu hvs
    have hr1 : Reads w (fun b o => M b o \/ Oth b o) vs (cl.args.map a.eval).toList := by
      refine ⟨by simp [hm1], fun i x y hx hy => ?_⟩
      obtain ⟨z, hz, hzz⟩ := hm2 i x hx
      have hz' : cl.args[i]? = some z := by grind
      rw [Array.toList_map, List.getElem?_map, hz] at hy
      simp at hy
      subst hy
      exact z7 sim.env (Ar hzz)
    have hr : Reads w (fun b o => M b o \/ Oth b o) (x :: vs) (#[u] ++ (cl.args.map a.eval)).toList := by grind[Reads.cons]
    have hrun : (execOp a.eval o).run P w = (callFunc g (#[u] ++ (cl.args.map a.eval))).run P w := by
      have e1 : (#[Value.iface t v] ++ Array.map a.eval cl.args).extract 1 (#[Value.iface t v] ++ Array.map a.eval cl.args).size = Array.map a.eval cl.args := by simp
      have e2 : execOp a.eval o = callMethod (.iface t v) m ((#[Value.iface t v] ++ Array.map a.eval cl.args).extract 1 (#[Value.iface t v] ++ Array.map a.eval cl.args).size) := by
        have e3 : (#[Value.iface t v] ++ Array.map a.eval cl.args)[0]? = some (Value.iface t v) := by simp_all[Array.getElem?_append_left]
        simp_all[execOp,resolve,invoke]
      rw [e2, e1]
      simp [callMethod, hm]
    have hc := sim.call h hr
    unfold Oper.wp
    rw [hrun]
    have fin : ∀ v w', (∃ r st' M', (z8 A c.n o.dst (.av r) fun A' => K A' st') /\ VRel w' (fun b o => M' b o \/ Oth b o) r v /\ SimB c.N Oth β A st' M' a w' /\ Chg M w M' w') ->
        ∃ A' st' M', K A' st' /\ Sim c.N Oth A' st' M' (a.put o.dst v) w' /\ Chg M w M' w' := by
      rintro v w' ⟨r, st', M', hk, hv, hs, hchg⟩
      unfold z8 at hk
      cases hd : o.dst with
      | none => rw [hd] at hk; exact ⟨A, st', M', hk, ⟨β, hs⟩, hchg⟩
      | some d =>
        rw [hd] at hk
        obtain ⟨hlt, hk⟩ := qn hk
        exact ⟨_, st', M', hk, ⟨β, hs.put hlt hv⟩, hchg⟩
    generalize (callFunc g (#[u] ++ (cl.args.map a.eval))).run P w = res at *
    cases res with
    | halt h w' => trivial
    | ok nx w' =>
      cases nx with
      | enter f as =>
        rw [Oper.upon_enter]
        exact Calls.mono hc fun e w'' ⟨v, he, hp⟩ => by subst he; exact fin v w'' hp
      | value v => rw [Oper.upon_value]; exact fin v w' hc
      | _ => trivial
  grind
end
section
variable {P : Program} {c : Cfg} {K : Fr -> Store -> Prop} {A : Fr} {st : Store}
theorem vx {α : Type} {k : Nat} : ∀ {rows : List (List α)} (_ : ∀ row ∈ rows, row.length = k) {i j : Nat} {row : List α} {x : α}, rows[i]? = some row -> row[j]? = some x -> rows.flatten[i * k + j]? = some x := by
  intro rows
  induction rows with
  | nil => simp
  | cons r rows ih =>
    intro hk i j row x h1 h2
    have hr : r.length = k := hk r (by simp)
    cases i with
    | zero =>
      grind
    | succ i =>
      grind
theorem x5 {α : Type} {k : Nat} : ∀ {rows : List (List α)} (_ : ∀ row ∈ rows, row.length = k), rows.flatten.length = rows.length * k := by
  intro rows
  induction rows with
  | nil => simp
  | cons r rows ih =>
    grind
theorem Ic (r l xs : List AV) (o : Nat) : z6 (r ++ l) (r.length + o) xs = r ++ z6 l o xs := by
  unfold z6
  rw [List.take_append, List.drop_append]
  have h1 : List.take (r.length + o) r = r := List.take_of_length_le (by omega)
  have h2 : List.drop (r.length + o + xs.length) r = [] := List.drop_of_length_le (by omega)
  rw [h1, h2]
  have e1 : r.length + o - r.length = o := by omega
  have e2 : r.length + o + xs.length - r.length = o + xs.length := by omega
  grind
theorem zby {k : Nat} {xs : List AV} (hx : xs.length = k) : ∀ {rows : List (List AV)} (_ : ∀ row ∈ rows, row.length = k) {i : Nat}, i < rows.length -> (rows.set i xs).flatten = z6 rows.flatten (i * k) xs := by
  intro rows
  induction rows with
  | nil => simp
  | cons r rows ih =>
    intro hk i hi
    have hr : r.length = k := hk r (by simp)
    cases i with
    | zero =>
      simp_all[z6]
    | succ i =>
      simp only [List.set_cons_succ, List.flatten_cons]
      rw [ih (fun row h => hk row (by simp [h])) (by grind)]
      rw [<- Ic]
      grind
theorem zae {k n : Nat} : ∀ (parts : List (Nat × LV)) (acc rows : List (List AV)), (∀ row ∈ acc, row.length = k) -> acc.length = n -> ks k n acc parts = some rows ->
    k7 (fun i => some (i * k, k)) acc.flatten parts = some rows.flatten /\ (∀ row ∈ rows, row.length = k) /\ rows.length = n := by
  intro parts
  induction parts with
  | nil => intro acc rows h1 h2 h; simp [ks] at h; subst h; trivial
  | cons p parts ih =>
    intro acc rows h1 h2 h
    obtain ⟨i, x⟩ := p
    simp only [ks] at h
    cases x with
    | av x =>
      simp only at h
      cases hc : cellsOf x with
      | none => grind
      | some xs =>
        rw [hc] at h
        simp only at h
        cases hb : (Nat.beq xs.length k && Nat.blt i n) with
        | false => grind
        | true =>
          rw [hb] at h
          simp only [cond_true] at h
          simp only [Bool.and_eq_true] at hb
          have hx : xs.length = k := (yr _ _).1 hb.1
          have hi : i < n := Nat.le_of_ble_eq_true hb.2
          obtain ⟨h3, h4, h5⟩ := ih (acc.set i xs) rows (fun row hr => by grind) (by grind) h
          refine ⟨?_, h4, h5⟩
          have hfl := x5 h1
          have hle : (i + 1) * k <= n * k := Nat.mul_le_mul_right k hi
          have hb2 : (Nat.beq xs.length k && Nat.ble (i * k + k) acc.flatten.length) = true := by simp_all[Nat.add_mul]
          simp only [k7, hc, hb2, cond_true]
          grind[zby]
    | _ => simp at h
/-- A new block whose first cells read as rows. -/
theorem Fh {w : World} {M Oth T' : Nat -> Nat -> Prop} {rows : List (List AV)} {k : Nat} (hk : ∀ row ∈ rows, row.length = k) {cs : Array Value} {e : TypeId} {cap : Nat}
    (hr : ∀ (i : Nat) (x : AV), rows.flatten[i]? = some x -> ∃ v, cs[i]? = some v /\ VRel w (fun b o => M b o \/ Oth b o) x v /\ yk v = true) (hcap : rows.length <= cap) (tok : Option Nat)
    (hT : Keeps w (fun b o => M b o \/ Oth b o) (w.alloc (.cells cs e)) T') (hno : ∀ o, o < rows.length * k -> ¬ T' w.heap.size o)
    (htok : ∀ t, tok = some t -> t = w.heap.size /\ rows ≠ [] /\ cap * k <= cs.size) :
    VRel (w.alloc (.cells cs e)) T' (.lst k rows tok) (.slice (some ⟨w.heap.size, 0, none⟩) rows.length cap) := by
  have hlen := x5 hk
  have hlt : ∀ (i : Nat) (row : List AV) (j : Nat) (x : AV), rows[i]? = some row -> row[j]? = some x -> i * k + j < rows.length * k := by
    intro i row j x h1 h2
    have := (List.getElem?_eq_some_iff.1 (vx hk h1 h2)).1
    omega
  refine VRel.lst rows tok w.heap.size 0 cap k (fun j => cs.getD j undef) hcap (fun i row h => hk row (List.mem_of_getElem? h)) (fun t ht => ?_) (fun i row j x h1 h2 => ?_) (fun i row j x h1 h2 => ?_) (fun i row j x h1 h2 => ?_)
  · obtain ⟨h1, h2, h3⟩ := htok t ht
    exact ⟨h1, rfl, h2, cs, e, (0, 0), ww w _, h3⟩
  · obtain ⟨v, hv, _⟩ := hr _ x (vx hk h1 h2)
    simp_all
  · obtain ⟨v, hv, _, hv1⟩ := hr _ x (vx hk h1 h2)
    simp_all
  · obtain ⟨v, hv, hvr, _⟩ := hr _ x (vx hk h1 h2)
    have : cs.getD (i * k + j) undef = v := by simp [hv]
    simp only [this]
    exact hvr.keep hT
theorem Kq (w : World) (o : Obj) (M Oth : Nat -> Nat -> Prop) (top : Nat) : Keeps w (fun b o => M b o \/ Oth b o) (w.alloc o) (fun b o => Fa M w.heap.size top b o \/ Oth b o) where
  cell := (kw w o M Oth).cell
  out b o' c hc hT hT' := by
    rcases hT' with (h | h) | h
    · grind
    · have := Ac hc; omega
    grind
  shp := (kw w o M Oth).shp
theorem sy (z : Array Value) (n : Nat) (hz : 0 < z.size) : ((Array.range (n * z.size)).map (fun i => z[i % z.size]!)).toList = (List.replicate n z.toList).flatten := by
  induction n with
  | zero => simp
  | succ n ih =>
    rw [List.replicate_succ', List.flatten_append, <- ih]
    simp only [Array.toList_map, Array.toList_range, Nat.add_mul, Nat.one_mul, List.range_add, List.map_append, List.map_map, List.flatten_cons, List.flatten_nil, List.append_nil]
    congr 1
    apply List.ext_getElem?
    intro i
    simp only [List.getElem?_map]
    by_cases hi : i < z.size
    · simp [hi, Nat.mod_eq_of_lt hi]
    grind
theorem Ml {o : Oper} {t : TypeId} {n : Nat} {parts : Array (Nat × Operand)} (ho : o.op = .buildSlice t n parts) (hI : zu P c.I)
    (h : optK (c.I t) fun i => optK o.dst fun d => bif Nat.blt d c.n then (match i.ty with
      | .slice e => optK (c.I e) fun ie => optK (ks ie.size n (List.replicate n (xd ie)) (parts.toList.map fun p => (p.1, A.ev p.2))) fun rows =>
        bif rows.flatten.all AV.one then n * ie.size <= 16777216 /\ (match rows with
          | [] => K (A.put d (.av .emp)) st
          | _ :: _ => bif c.G.contains d then (bif c.G.contains (d + 1000000) then ∀ b, Fresh st b -> K (A.put d (.av (.s (.slice (some ⟨b, 0, none⟩) rows.length rows.length)))) (st.setObj b (.cells rows.flatten))
              else ∀ b, Fresh st b -> K (A.put d (.av (.lst ie.size rows (some b)))) (st.setTok b (some (rows.length * ie.size))))
            else K (A.put d (.av (.lst ie.size rows none))) st) else False
      | _ => False) else False) : AOp P c.N o K A st := by
  obtain ⟨i, hi, h⟩ := ze h
  obtain ⟨d, hd, h⟩ := ze h
  obtain ⟨hlt, h⟩ := qn h
  split at h
  · rename_i e hty
    obtain ⟨ie, hie, h⟩ := ze h
    replace h := ze h
    obtain ⟨rows, hrows, h⟩ := h
    cases hone : rows.flatten.all AV.one with
    | false => grind
    | true =>
    rw [hone] at h
    simp only [cond_true] at h
    obtain ⟨hroom, hK⟩ := h
    rintro Oth M a w ⟨β, sim⟩
    obtain ⟨z, hz1, hz2⟩ := Aw (hI _ _ hie) w
    have hzs : z.cells.size = ie.size := by rw [<- (hI _ _ hie).zsz, <- hz2]; simp
    obtain ⟨hf1, hf2, hf3⟩ := zae _ _ rows (fun row hr => by grind[xd]) (by simp) hrows
    let base : Array Value := (Array.range (n * ie.size)).map (fun i => (if n * ie.size = 0 then #[] else z.cells)[i % (if n * ie.size = 0 then #[] else z.cells).size]!)
    have hbase : Reads w (fun b o => M b o \/ Oth b o) (List.replicate n (xd ie)).flatten base.toList := by
      by_cases hn : n = 0
      · subst hn
        grind[Reads.nil]
      · by_cases hs0 : ie.size = 0
        · have e1 : base.toList = [] := by simp [base, hs0]
          simp_all[xd,Reads.nil]
        have hne : ¬ n * ie.size = 0 := by grind[Nat.mul_eq_zero]
        have : base.toList = (List.replicate n z.cells.toList).flatten := by
          simp only [base, hne, if_false]
          grind[sy]
        rw [this, hz2]
        have e : (List.replicate n (xd ie)).flatten = (List.replicate n ie.zero).flatten.map AV.s := by simp_all[xd]
        rw [e]
        exact Reads.map_s _
    have hparts : ((parts.toList.map fun p => (p.1, A.ev p.2))).length = (parts.map fun (p : Nat × Operand) => (p.1, a.eval p.2)).toList.length ∧
        ∀ (i : Nat) (p : Nat × LV) (v : Nat × Value), (parts.toList.map fun p => (p.1, A.ev p.2))[i]? = some p -> (parts.map fun (p : Nat × Operand) => (p.1, a.eval p.2)).toList[i]? = some v -> p.1 = v.1 /\ LRel w (fun b o => M b o \/ Oth b o) β p.2 v.2 := by
      refine ⟨by simp, fun i p v hp hv => ?_⟩
      rw [Array.toList_map, List.getElem?_map] at hv
      rw [List.getElem?_map] at hp
      cases hq : parts.toList[i]? with
      | none => grind
      | some q =>
        rw [hq] at hp hv
        simp at hp hv
        subst hp hv
        exact ⟨rfl, sim.ev _⟩
    obtain ⟨ds, hds1, hds2⟩ := G3 (β := β) (place := fun i => some (i * ie.size, ie.size)) _ _ _ base rows.flatten hparts.1 hparts.2 hbase hf1
    have hrun : (execOp a.eval o).run P w = .ok (.value (.slice (some ⟨w.heap.size, 0, none⟩) n n)) (w.alloc (.cells ds e)) := by
      have h1 : ¬ n * ie.size > 2 ^ 24 := by omega
      simp only [execOp, ho, Instr.buildSlice, Sem.run_bind, zm (yp (hI _ _ hi) hty), Result.andThen_ok, yy (hI _ _ hie), h1, if_false]
      by_cases hn0 : n * ie.size = 0
      · have h2 : Instr.fill (fun i => some (i * ie.size, ie.size)) (Array.map (fun x => (#[] : Array Value)[x % (#[] : Array Value).size]!) (Array.range (n * ie.size))) (Array.map (fun (x : Nat × Operand) => (x.1, a.eval x.2)) parts).toList = some ds := by grind
        simp_all[newRow]
      · have h2 : Instr.fill (fun i => some (i * ie.size, ie.size)) (Array.map (fun x => z.cells[x % z.cells.size]!) (Array.range (n * ie.size))) (Array.map (fun (x : Nat × Operand) => (x.1, a.eval x.2)) parts).toList = some ds := by grind
        simp_all[newRow]
    unfold Oper.wp
    rw [hrun, Oper.upon_value, hd]
    have hlen := x5 hf2
    have hdsz : ds.size = n * ie.size := by
      have := hds2.1
      grind
    have hread : ∀ (i : Nat) (x : AV), rows.flatten[i]? = some x -> ∃ v, ds[i]? = some v /\ VRel w (fun b o => M b o \/ Oth b o) x v /\ yk v = true := fun i x hx => by
      obtain ⟨v, hv, hvr⟩ := hds2.getElem? hx
      grind[Ge]
    have hnoT : ∀ o, ¬ (M w.heap.size o \/ Oth w.heap.size o) := fun o h => by
      rcases h with h | h
      · have := sim.sto.mlt _ _ h; omega
      · have := sim.sto.olt _ _ h; omega
    subst hf3
    cases rows with
    | nil => exact ⟨_, _, M, hK, ⟨β, (sim.grow (Grow.alloc w _)).put hlt (x := .av .emp) (VRel.emp _ (fun x h => by grind))⟩, (Grow.alloc w _).chg M⟩
    | cons r rs =>
      cases hg : c.G.contains d with
      | true =>
        cases hg2 : c.G.contains (d + 1000000) with
        | true =>
          simp only [hg, hg2, cond_true] at hK
          refine ⟨_, _, _, hK w.heap.size (sim.sto.fresh (Nat.le_refl _)), ⟨β, (sim.newObj (.cells ds e) (.cells (r :: rs).flatten) (Br w e M Oth hds2)).put hlt (VRel.s _)⟩, vy _ _ _⟩
        | false =>
        simp only [hg, hg2, cond_true, cond_false] at hK
        refine ⟨_, _, _, hK w.heap.size (sim.sto.fresh (Nat.le_refl _)), ⟨β, (sim.newTok ds e ((r :: rs).length * ie.size) (by omega)).put hlt ?_⟩, Lv _ _ _ _⟩
        refine Fh hf2 hread (Nat.le_refl _) _ (Kq _ _ _ _ _) (fun o ho hh => ?_) (fun t ht => ?_)
        · rcases hh with (h | h) | h
          · grind
          · omega
          grind
        grind
      | false =>
        simp only [hg, cond_false] at hK
        refine ⟨_, _, M, hK, ⟨β, (sim.grow (Grow.alloc w _)).put hlt ?_⟩, (Grow.alloc w _).chg M⟩
        exact Fh hf2 hread (Nat.le_refl _) _ ((Grow.alloc w _).keeps _) (fun o ho hh => hnoT o hh) (fun t ht => by cases ht)
  grind
end
section
variable {P : Program} {c : Cfg} {K : Fr -> Store -> Prop} {A : Fr} {st : Store}
theorem r9 (n : Nat) (w : World) : (askRoom n).run P w = .ok () w := by simp
theorem r8 (need old e : Nat) (w : World) : ∃ n, need <= n /\ (need <= 140737488355328 -> n <= 9223372036854775807) /\ (choose (.appendCap need old e)).run P w = .ok n w.drew := by
  refine ⟨need + w.tape w.drawn (.appendCap need old e) % (2 ^ 63 - need), Nat.le_add_right _ _, fun h => ?_, rfl⟩
  have := Nat.mod_lt (w.tape w.drawn (.appendCap need old e)) (show 0 < 2 ^ 63 - need by omega)
  omega
structure AppArgs (P : Program) (c : Cfg) (argTypes : Array TypeId) (args : Array Value) (t e : TypeId) (ie : TI) (base : Option Addr) (sLen sCap : Nat) (xv : Value) : Prop where
  ht : argTypes[0]? = some t
  ht1 : ∃ t1 e1, argTypes[1]? = some t1 /\ P.underlying t1 = some (.slice e1)
  hty : P.underlying t = some (.slice e)
  hie : TIok P e ie
  h0 : args[0]? = some (.slice base sLen sCap)
  h1 : args[1]? = some xv
theorem D5 {argTypes : Array TypeId} {args : Array Value} {t e : TypeId} {ie : TI} {base : Option Addr} {sLen sCap n : Nat} {xv : Value} (ty : TypeId) (h : AppArgs P c argTypes args t e ie base sLen sCap xv) {w : World} {old new : Array Value}
    (hlen : (Builtin.lenOf xv).run P w = .ok n w) (hnew : (Builtin.firstCells ie.size n xv).run P w.drew = .ok new w.drew) (hold : (Builtin.firstCells ie.size sLen (.slice base sLen sCap)).run P w.drew = .ok old w.drew)
    (hneed : sCap < sLen + n) (hroom : room (sLen + n) ie.bytes) :
    ∃ newCap rest, sLen + n <= newCap /\ newCap <= 9223372036854775807 /\ rest.size = (newCap - (sLen + n)) * ie.size ∧
      (Builtin.append_ argTypes ty args).run P w = .ok (.slice (some ⟨w.heap.size, 0, none⟩) (sLen + n) newCap) (w.drew.alloc (.cells (old ++ new ++ rest) e)) := by
  obtain ⟨newCap, hcap, hcap2, hch⟩ := r8 (P := P) (sLen + n) sCap e w
  obtain ⟨z, hz1, hz2⟩ := Aw h.hie w.drew
  obtain ⟨t1, e1, ht1, hu1⟩ := h.ht1
  obtain ⟨inf, hinf, hsz, hby, _⟩ := h.hie.info
  have hzs : z.cells.size = ie.size := by rw [<- h.hie.zsz, <- hz2]; simp
  refine ⟨newCap, Builtin.zeroCells z.cells (newCap - (sLen + n)), hcap, hcap2 hroom.2, by simp [Builtin.zeroCells, hzs], ?_⟩
  obtain ⟨hr1, hr2⟩ := hroom
  have hc1 : ¬ (sLen + n <= sCap) := by omega
  have hc2 : ¬ (((sLen + n : Nat) : Int) > IntKind.i64.max) := by grind[IntKind.max,IntKind.bits]
  have hc3 : ¬ (Builtin.nextslicecap (sLen + n) sCap * ie.bytes > 2 ^ 48) := by
    have h1 := nextslicecap_le hneed
    have h2 : Builtin.nextslicecap (sLen + n) sCap * ie.bytes <= 2 * (sLen + n) * ie.bytes := Nat.mul_le_mul_right _ h1
    grind
  have hti : ∀ w : World, (typeInfo e).run P w = .ok inf w := fun w => by simp [typeInfo, hinf]
  simp only [Builtin.append_, h.ht, h.h0, h.h1, Sem.run_bind, zm h.hty, Result.andThen_ok, yy h.hie, ht1, zm hu1, Sem.run_pure]
  simp only [Bool.false_eq_true, if_false, hlen, Result.andThen_ok, hc1, hc2, false_and, Sem.run_bind, hti, hby, hc3, hch, r9, hold, hnew, Bool.not_false, if_true, hz1]
  rfl
theorem Hi {argTypes : Array TypeId} {args : Array Value} {t e : TypeId} {ie : TI} {base : Option Addr} {sLen sCap n : Nat} {xv : Value} (ty : TypeId) (h : AppArgs P c argTypes args t e ie base sLen sCap xv) {w w' : World} {new : Array Value}
    (hlen : (Builtin.lenOf xv).run P w = .ok n w) (hnew : (Builtin.firstCells ie.size n xv).run P w = .ok new w)
    (hneed : sLen + n <= sCap) (hst : ∀ a, base = some a -> (storeCells (a.add (sLen * ie.size)) new.toList).run P w = .ok () w') (hno : base = none -> w' = w) :
    (Builtin.append_ argTypes ty args).run P w = .ok (.slice base (sLen + n) sCap) w' := by
  obtain ⟨t1, e1, ht1, hu1⟩ := h.ht1
  simp only [Builtin.append_, h.ht, h.h0, h.h1, Sem.run_bind, zm h.hty, Result.andThen_ok, yy h.hie, ht1, zm hu1, Sem.run_pure]
  simp only [Bool.false_eq_true, if_false, hlen, Result.andThen_ok, hneed, if_true, Bool.not_false, Sem.run_bind, hnew]
  cases base with
  | none => simp_all
  | some a => simp_all
theorem Dl {α : Type} {k : Nat} : ∀ {rows : List (List α)} (_ : ∀ row ∈ rows, row.length = k) {p : Nat} {x : α}, rows.flatten[p]? = some x -> ∃ (i j : Nat) (row : List α), p = i * k + j /\ rows[i]? = some row /\ row[j]? = some x := by
  intro rows
  induction rows with
  | nil => simp
  | cons r rows ih =>
    intro hk p x h
    have hr : r.length = k := hk r (by simp)
    simp only [List.flatten_cons] at h
    by_cases hp : p < r.length
    · rw [List.getElem?_append_left hp] at h
      exact ⟨0, p, r, by omega, rfl, h⟩
    · rw [List.getElem?_append_right (by omega)] at h
      obtain ⟨i, j, row, h1, h2, h3⟩ := ih (fun row h => hk row (by simp [h])) h
      exact ⟨i + 1, j, row, by grind, by grind, h3⟩
theorem Gt {w w' : World} (h : w'.heap = w.heap) (a : Addr) : w'.cell? a = w.cell? a := by simp only [World.cell?, h]
/-- The source of an append. -/
theorem Fy {w : World} {T : Nat -> Nat -> Prop} {β : Nat -> Nat} {k : Nat} {x : LV} {xv : Value} {rows : List (List AV)} (hx : LRel w T β x xv) (h : xk k x = some rows) :
    (Builtin.lenOf xv).run P w = .ok rows.length w /\ (∀ row ∈ rows, row.length = k) ∧
      ∃ new : Array Value, Reads w T rows.flatten new.toList /\ (∀ v ∈ new.toList, yk v = true) /\ new.size = rows.length * k /\ ∀ w', w'.heap = w.heap -> (Builtin.firstCells k rows.length xv).run P w' = .ok new w' := by
  unfold xk at h
  split at h
  · rename_i k' rows' tok
    cases hb : Nat.beq k' k with
    | false => grind
    | true =>
      rw [hb] at h
      simp only [cond_true, Option.some.injEq] at h
      subst h
      obtain rfl := (yr _ _).1 hb
      rcases Am hx with ⟨ad, cap, hv, h2, _, rfl⟩ | ⟨b, off, cap, hv, hcap, hk, f, hf⟩
      · subst h2
        exact ⟨by simp [hv, Builtin.lenOf], by simp, #[], Reads.nil, by simp, by simp, fun w' _ => by cases ad <;> simp [hv, Builtin.firstCells, loadCells, loadCellsFrom]⟩
      · have hk' : ∀ row ∈ rows', row.length = k' := fun row hr => by grind[List.mem_iff_getElem?]
        refine ⟨by simp [hv, Builtin.lenOf], hk', ((List.range' 0 (rows'.length * k')).map f).toArray, ⟨?_, ?_⟩, fun v hv => ?_, by simp, fun w' hw => ?_⟩
        · rw [x5 hk']; simp
        · intro p x y hp hy
          obtain ⟨i, j, row, h1, h2, h3⟩ := Dl hk' hp
          grind
        · simp only [List.mem_map] at hv
          obtain ⟨p, hp, rfl⟩ := hv
          have hlt : p < rows'.flatten.length := by rw [x5 hk']; grind
          obtain ⟨i, j, row, h1, h2, h3⟩ := Dl hk' (List.getElem?_eq_getElem hlt)
          grind
        · have := Ax (P := P) ⟨b, off, none⟩ w' f (rows'.length * k') 0 #[] (fun p _ hp => by
            rw [qv, Gt hw]
            have hlt : p < rows'.flatten.length := by rw [x5 hk']; omega
            obtain ⟨i, j, row, h1, h2, h3⟩ := Dl hk' (List.getElem?_eq_getElem hlt)
            grind)
          grind[Builtin.firstCells,loadCells]
  · simp at h
    subst h
    have hv : xv = .slice none 0 _ := VRel.eq_s hx
    exact ⟨by simp [hv, Builtin.lenOf], by simp, #[], Reads.nil, by simp, by simp, fun w' _ => by simp [hv, Builtin.firstCells]⟩
  · simp at h
    subst h
    have hv : ∃ a, xv = .slice a 0 0 := by
      cases hx with
      | emp a h => simp
    obtain ⟨a, hv⟩ := hv
    refine ⟨by simp [hv, Builtin.lenOf], by simp, #[], Reads.nil, by simp, by simp, fun w' _ => ?_⟩
    cases a with
    | none => simp [hv, Builtin.firstCells]
    | some a => simp [hv, Builtin.firstCells, loadCells, loadCellsFrom]
  · cases h
theorem Owned.nil (k : Nat) (st : Store) : Owned k st .emp [] st := .inl ⟨rfl, rfl, rfl⟩
/-- An append that makes a new block. -/
theorem SimB.appendNew {n : SN} {Oth M : Nat -> Nat -> Prop} {β : Nat -> Nat} {a : Act} {w : World} (sim : SimB n Oth β A st M a w) {rows : List (List AV)} {k : Nat} (hk : ∀ row ∈ rows, row.length = k) (hne : rows ≠ [])
    {cs : Array Value} {e : TypeId} {cap : Nat} (hr : ∀ (i : Nat) (x : AV), rows.flatten[i]? = some x -> ∃ v, cs[i]? = some v /\ VRel w (fun b o => M b o \/ Oth b o) x v /\ yk v = true) (hcap : rows.length <= cap) (hsz : cap * k <= cs.size) :
    ∃ st' M', Owned k st (.lst k rows (some w.heap.size)) rows st' /\ SimB n Oth β A st' M' a (w.drew.alloc (.cells cs e)) /\ Chg M w M' (w.drew.alloc (.cells cs e)) ∧
      VRel (w.drew.alloc (.cells cs e)) (fun b o => M' b o \/ Oth b o) (.lst k rows (some w.heap.size)) (.slice (some ⟨w.heap.size, 0, none⟩) rows.length cap) := by
  have hle : rows.length * k <= cap * k := Nat.mul_le_mul_right k hcap
  refine ⟨_, _, .inr ⟨hne, w.heap.size, sim.sto.fresh (Nat.le_refl _), rfl, rfl⟩, (sim.grow (Grow.drew w)).newTok cs e (rows.length * k) (by omega), ((Grow.drew w).chg M).trans (Lv w.drew _ M _), ?_⟩
  refine Fh (w := w.drew) (M := M) (Oth := Oth) hk (fun i x hx => ?_) hcap _ (Kq w.drew _ _ _ _) (fun o ho hh => ?_) (fun t ht => ?_)
  · obtain ⟨v, h1, h2, h3⟩ := hr i x hx
    exact ⟨v, h1, h2.keep ((Grow.drew w).keeps _), h3⟩
  · rcases hh with (h | h) | h
    · have := sim.sto.mlt _ _ h; simp_all
    · omega
    · have := sim.sto.olt _ _ h; simp_all
  simp_all
theorem getElem?_append3 {old new rest : Array Value} {i : Nat} {v : Value} (h : (old.toList ++ new.toList)[i]? = some v) : (old ++ new ++ rest)[i]? = some v := by grind
theorem M5 {w : World} {T : Nat -> Nat -> Prop} {k : Nat} {rows : List (List AV)} {b : Nat} {base : Option Addr} {sLen sCap : Nat} (h : VRel w T (.lst k rows (some b)) (.slice base sLen sCap)) :
    base = some ⟨b, 0, none⟩ /\ sLen = rows.length /\ rows.length <= sCap /\ rows ≠ [] /\ (∀ row ∈ rows, row.length = k) /\ (∃ c e fr, w.heap[b]? = some (.cells c e fr) /\ sCap * k <= c.size) /\ ∃ f : Nat -> Value,
      (∀ (i : Nat) (row : List AV) (j : Nat) (x : AV), rows[i]? = some row -> row[j]? = some x -> w.cell? ⟨b, i * k + j, none⟩ = some (f (i * k + j)) /\ ¬ T b (i * k + j) /\ VRel w T x (f (i * k + j)) /\ yk (f (i * k + j)) = true) := by
  cases h with
  | lst _ _ b' off cap _ f hcap hk htok hc h0 hx =>
    obtain ⟨rfl, rfl, h1, h2⟩ := htok b rfl
    refine ⟨rfl, rfl, hcap, h1, fun row hr => ?_, h2, f, fun i row j x h3 h4 => ?_⟩
    · grind[List.mem_iff_getElem?]
    grind
/-- The whole of an append: to what is empty, or to a slice that nobody else may append to. -/
theorem Hj {n : SN} {Oth M : Nat -> Nat -> Prop} {β : Nat -> Nat} {a : Act} {w : World} (sim : SimB n Oth β A st M a w) {argTypes : Array TypeId} {args : Array Value} {t e : TypeId} {ie : TI} {base : Option Addr} {sLen sCap : Nat} {xv : Value} (ty : TypeId)
    (h : AppArgs P c argTypes args t e ie base sLen sCap xv) {x : LV} (hx : LRel w (fun b o => M b o \/ Oth b o) β x xv) {rows' : List (List AV)} (hs : xk ie.size x = some rows') :
    ((sLen = 0 /\ sCap = 0 /\ ∀ x, base = some x -> x.spot = none) -> room rows'.length ie.bytes -> ∃ v w' r st' M', (Builtin.append_ argTypes ty args).run P w = .ok v w' /\ Owned ie.size st r rows' st' /\ SimB n Oth β A st' M' a w' /\ Chg M w M' w' /\ VRel w' (fun b o => M' b o \/ Oth b o) r v) ∧
    (∀ rows b, 0 < ie.size -> VRel w (fun b o => M b o \/ Oth b o) (.lst ie.size rows (some b)) (.slice base sLen sCap) -> st.tok b = some (rows.length * ie.size) -> room (rows ++ rows').length ie.bytes ->
      ∃ v w' r st' M', (Builtin.append_ argTypes ty args).run P w = .ok v w' /\ Owned ie.size (st.setTok b none) r (rows ++ rows') st' /\ SimB n Oth β A st' M' a w' /\ Chg M w M' w' /\ VRel w' (fun b o => M' b o \/ Oth b o) r v) := by
  obtain ⟨hlen, hk', new, hnr, hone, hns, hnew⟩ := Fy (P := P) hx hs
  constructor
  · rintro ⟨rfl, rfl, hspot⟩ hroom
    by_cases hn : rows' = []
    · subst hn
      refine ⟨_, w, .emp, st, M, Hi ty h (w' := w) hlen (hnew w rfl) (by simp) (fun a ha => ?_) (fun _ => rfl), Owned.nil _ _, sim, Chg.refl M w, VRel.emp _ hspot⟩
      simp_all[storeCells]
    · have hpos : 0 < rows'.length := List.length_pos_iff.2 hn
      obtain ⟨newCap, rest, h1, _, h2, h3⟩ := D5 ty h (old := #[]) hlen (hnew w.drew rfl) (by cases base <;> simp [Builtin.firstCells, loadCells, loadCellsFrom]) (by omega) (by simpa using hroom)
      simp only [Nat.zero_add] at h1 h2 h3
      obtain ⟨st', M', ho, hsim, hchg, hv⟩ := sim.appendNew (cs := #[] ++ new ++ rest) (e := e) (cap := newCap) hk' hn (fun i x hx => by
        obtain ⟨v, hv, hvr⟩ := hnr.getElem? hx
        grind) h1 (by grind[Nat.sub_mul])
      grind
  · intro rows b hpos hsv htb hroom
    obtain ⟨rfl, rfl, hcap, hne, hk, ⟨c0, e0, fr0, hblk, hcsz⟩, f, hf⟩ := M5 hsv
    have hkk : ∀ row ∈ rows ++ rows', row.length = ie.size := fun row hr => by grind
    obtain ⟨c1, e1, fr1, hb1, hunf, htop, hMtop⟩ := sim.sto.tok b _ htb
    rw [hblk] at hb1
    cases hb1
    -- the first cell
    have hfirst : ¬ M b 0 := by
      cases rows with
      | nil => grind
      | cons r rs =>
        have hr : r.length = ie.size := hk r (by simp)
        cases r with
        | nil => grind
        | cons y ys =>
          have := (hf 0 (y :: ys) 0 y rfl rfl).2.1
          grind
    have hold : ∀ p, p < rows.length * ie.size -> w.cell? ⟨b, p, none⟩ = some (f p) /\ ¬ (M b p \/ Oth b p) /\ yk (f p) = true /\ ∀ x, rows.flatten[p]? = some x -> VRel w (fun b o => M b o \/ Oth b o) x (f p) := fun p hp => by
      have hlt : p < rows.flatten.length := by rw [x5 hk]; omega
      obtain ⟨i, j, row, h1, h2, h3⟩ := Dl hk (List.getElem?_eq_getElem hlt)
      grind
    have holdR : Reads w (fun b o => M b o \/ Oth b o) rows.flatten ((List.range' 0 (rows.length * ie.size)).map f) := by
      refine ⟨by rw [x5 hk]; simp, fun p x y hp hy => ?_⟩
      grind
    by_cases hstay : rows.length + rows'.length <= sCap
    · have hle : (rows.length + rows'.length) * ie.size <= sCap * ie.size := Nat.mul_le_mul_right _ hstay
      have hdist : (rows.length + rows'.length) * ie.size = rows.length * ie.size + rows'.length * ie.size := Nat.add_mul _ _ _
      have h9 : new.toList.length = rows'.length * ie.size := by omega
      have h10 : rows.length * ie.size + 0 + new.toList.length <= c0.size := by omega
      obtain ⟨w', hrun, hw⟩ := Cj (P := P) w b (rows.length * ie.size) new.toList 0 w c0 e0 fr0 hblk hunf h10 hone
      simp only [Nat.add_zero] at hw
      have happ := Hi (P := P) ty h (w' := w') hlen (hnew w rfl) hstay (fun a ha => by cases ha; rw [qv]; grind) (fun hh => by cases hh)
      let M' : Nat -> Nat -> Prop := fun b' o => M b' o /\ ¬ (b' = b /\ o < (rows.length + rows'.length) * ie.size)
      obtain ⟨c', hblk', hl', hs'⟩ := hw.blk _ _ _ hblk
      have hcellb : ∀ o, o < rows.length * ie.size -> w'.cell? ⟨b, o, none⟩ = w.cell? ⟨b, o, none⟩ := fun o ho => by
        simp only [World.cell?, hblk', hblk]
        rw [<- Array.getElem?_toList, hl', List.append_assoc, List.getElem?_append_left (by grind), List.getElem?_take]
        simp [ho]
      have hcelln : ∀ j v, new[j]? = some v -> w'.cell? ⟨b, rows.length * ie.size + j, none⟩ = some v := fun j v hv => by
        have hj := (Array.getElem?_eq_some_iff.1 hv).1
        simp only [World.cell?, hblk']
        have hm : min (rows.length * ie.size) c0.size = rows.length * ie.size := by omega
        have : c'.toList[rows.length * ie.size + j]? = some v := by grind
        grind
      have hkeep : Keeps w (fun b o => M b o \/ Oth b o) w' (fun b o => M' b o \/ Oth b o) :=
        { cell := fun b' o' v hv hT => by
            by_cases he : b' = b
            · grind
            · rw [jy (hw.other b' he)]
              exact hv
          out := fun b' o' v hv hT hT' => hT (hT'.imp (fun h => h.1) id)
          shp := fun b' c e fr hc => by
            by_cases he : b' = b
            · grind
            · exact ⟨c, fr, by rw [hw.other b' he]; exact hc, rfl⟩ }
      have hobjb : st.obj b = none := by
        cases ho : st.obj b with
        | none => rfl
        | some x => exact absurd ((sim.sto.obj b x ho).2 0) hfirst
      have hbxb : ∀ k l, A.bx k = some l -> β k ≠ b := fun k l hl => sim.sep k b (by grind) (.inr (by grind))
      have hsim : SimB n Oth β A ((st.setTok b none).setTok b (some ((rows ++ rows').length * ie.size))) M' a w' :=
        { tsz := sim.tsz
          dfr := sim.dfr.step fun D _ _ h2 => ⟨hw.other D fun e => (h2 _).1 (e ▸ hMtop _ (Nat.le_refl _)), fun o hm => (h2 o).1 hm.1⟩
          tm := fun i => (sim.tm i).keep hkeep
          bx := fun k l hl => ⟨(sim.bx k l hl).1.same hkeep (hw.other _ (hbxb k l hl)), fun o => ⟨(sim.bx k l hl).2 o, fun hh => hbxb k l hl hh.1⟩⟩
          inj := sim.inj
          sep := fun k b' hk hb => by
            refine sim.sep k b' hk ?_
            by_cases he : b' = b
            · grind
            simp_all[Store.setTok,ya]
          sto :=
            { obj := fun b' x hx => by
                have hx' : st.obj b' = some x := hx
                have he : b' ≠ b := fun e => by grind
                exact ⟨ObjRel.same (sim.sto.obj b' x hx').1 hkeep (hw.other b' he), fun o => ⟨(sim.sto.obj b' x hx').2 o, fun hh => he hh.1⟩⟩
              tok := fun b' top ht => by
                by_cases he : b' = b
                · subst he
                  simp only [Store.setTok, Nat.beq_refl, cond_true, Option.some.injEq] at ht
                  grind
                · simp only [Store.setTok, ya he, cond_false] at ht
                  obtain ⟨c, e, fr, h1, h2, h3, h4⟩ := sim.sto.tok b' top ht
                  exact ⟨c, e, fr, by rw [hw.other b' he]; exact h1, h2, h3, fun o ho => ⟨h4 o ho, fun hh => he hh.1⟩⟩
              mlt := fun b' o hm => by rw [hw.size]; exact sim.sto.mlt b' o hm.1
              olt := fun b' o hm => by rw [hw.size]; exact sim.sto.olt b' o hm
              dis := fun b' o hO hM => sim.sto.dis b' o hO hM.1 } }
      have hchg : Chg M w M' w' :=
        { size := by rw [hw.size]; simp
          keep := fun b' o hb hm => by
            by_cases he : b' = b
            · grind
            · exact jy (hw.other b' he) o
          blk := fun b' hb hm => hw.other b' fun e => hm (rows.length * ie.size) (by grind)
          shp := hkeep.shp
          sub := fun b' o hm _ => hm.1
          tape := hw.tape
          os := hw.os
          output := hw.output }
      refine ⟨_, w', .lst ie.size (rows ++ rows') (some b), _, M', happ, .inr ⟨by simp [hne], b, ⟨hobjb, by simp [Store.setTok]⟩, rfl, rfl⟩, hsim, hchg, ?_⟩
      rw [<- List.length_append]
      have hget : ∀ p x, (rows ++ rows').flatten[p]? = some x -> ∃ v, w'.cell? ⟨b, p, none⟩ = some v /\ ¬ (M' b p \/ Oth b p) /\ yk v = true /\ VRel w' (fun b o => M' b o \/ Oth b o) x v := fun p x hp => by
        rw [List.flatten_append] at hp
        by_cases hlt : p < rows.length * ie.size
        · rw [List.getElem?_append_left (by rw [x5 hk]; exact hlt)] at hp
          obtain ⟨h1, h2, h4, h3⟩ := hold p hlt
          exact ⟨f p, by grind, fun hh => h2 (hh.imp (fun h => h.1) id), h4, (h3 x hp).keep hkeep⟩
        · rw [List.getElem?_append_right (by rw [x5 hk]; omega), x5 hk] at hp
          obtain ⟨v, hv, hvr⟩ := hnr.getElem? hp
          have hpl := (List.getElem?_eq_some_iff.1 hp).1
          rw [x5 hk'] at hpl
          have := hcelln _ v (by simpa using hv)
          have e : rows.length * ie.size + (p - rows.length * ie.size) = p := by omega
          rw [e] at this
          refine ⟨v, this, fun hh => ?_, hone v (List.mem_of_getElem? hv), hvr.keep hkeep⟩
          rcases hh with hh | hh
          · exact hh.2 ⟨rfl, by omega⟩
          · exact sim.sto.dis b p hh (hMtop p (by omega))
      have hlt2 : ∀ (i : Nat) (row : List AV) (j : Nat) (x : AV), (rows ++ rows')[i]? = some row -> row[j]? = some x -> (rows ++ rows').flatten[i * ie.size + j]? = some x := fun i row j x h1 h2 => vx hkk h1 h2
      refine VRel.lst _ _ b 0 sCap ie.size (fun j => (w'.cell? ⟨b, j, none⟩).getD undef) (by rw [List.length_append]; exact hstay) (fun i row hr => hkk row (List.mem_of_getElem? hr)) (fun t ht => ?_) (fun i row j x h1 h2 => ?_) (fun i row j x h1 h2 => ?_) (fun i row j x h1 h2 => ?_)
      · cases ht; exact ⟨rfl, rfl, by simp [hne], c', e0, fr0, hblk', by rw [hs']; exact hcsz⟩
      · obtain ⟨v, h3, h4, h6, h5⟩ := hget _ x (hlt2 i row j x h1 h2)
        simp only [Nat.zero_add, h3, Option.getD_some]
        exact ⟨Tv, h4⟩
      · obtain ⟨v, h3, h4, h6, h5⟩ := hget _ x (hlt2 i row j x h1 h2)
        simp only [h3, Option.getD_some]
        exact h6
      grind
    · have hold2 : (Builtin.firstCells ie.size rows.length (.slice (some ⟨b, 0, none⟩) rows.length sCap)).run P w.drew = .ok (((List.range' 0 (rows.length * ie.size)).map f).toArray) w.drew := by
        have := Ax (P := P) ⟨b, 0, none⟩ w.drew f (rows.length * ie.size) 0 #[] (fun p _ hp => by
          rw [qv, Nat.zero_add]
          exact (hold p (by omega)).1)
        simp only [Builtin.firstCells, loadCells]
        simpa using this
      obtain ⟨newCap, rest, h1, _, h2, h3⟩ := D5 ty h hlen (hnew w.drew rfl) hold2 (by omega) (by simpa using hroom)
      have htokless : SimB n Oth β A (st.setTok b none) M a w :=
        { sim with
          sep := fun k b' hk hb => sim.sep k b' hk (hb.imp id fun h => by
            by_cases he : b' = b
            · subst he; rw [htb]; simp
            · simpa [Store.setTok, ya he] using h)
          sto := sim.sto.weaken ⟨fun _ _ h => h, fun b' x hx => by
            by_cases he : b' = b
            · subst he; simp [Store.setTok] at hx
            · simpa [Store.setTok, ya he] using hx⟩ }
      obtain ⟨st', M', ho, hsim, hchg, hv⟩ := htokless.appendNew (cs := ((List.range' 0 (rows.length * ie.size)).map f).toArray ++ new ++ rest) (e := e) (cap := newCap) hkk (by simp [hne]) (fun i x hx => by
        rw [List.flatten_append] at hx
        obtain ⟨v, hv, hvr⟩ := (holdR.append hnr).getElem? hx
        refine ⟨v, getElem?_append3 (by simpa using hv), hvr, ?_⟩
        rcases List.mem_append.1 (List.mem_of_getElem? hv) with hm | hm
        · simp only [List.mem_map] at hm
          obtain ⟨p, hp, rfl⟩ := hm
          exact (hold p (by simpa using hp)).2.2.1
        · exact hone v hm) (by rw [List.length_append]; exact h1) (by
          simp only [Array.size_append, hns, h2, List.size_toArray, List.length_map, List.length_range']
          have := Nat.mul_le_mul_right ie.size h1
          rw [Nat.sub_mul, <- Nat.add_mul]
          omega)
      rw [List.length_append] at hv
      exact ⟨_, _, _, st', M', h3, ho, hsim, hchg, hv⟩
end
section
variable {P : Program} {c : Cfg} {K : Fr -> Store -> Prop} {A : Fr} {st : Store} {Oth M : Nat -> Nat -> Prop}
theorem kf {w : World} {b : Nat} {cs : Array Value} {e : TypeId} {fr : Nat × Nat} (h : w.heap[b]? = some (.cells cs e fr)) (hf : ja fr cs.size) :
    ∃ fr', ja fr' cs.size /\ (w.freeze ⟨b, cs.size, none⟩ 1).heap[b]? = some (.cells cs e fr') /\ ∀ i, i ≠ b -> (w.freeze ⟨b, cs.size, none⟩ 1).heap[i]? = w.heap[i]? := by
  obtain ⟨lo, hi⟩ := fr
  refine ⟨if lo == hi then (cs.size, cs.size + 1) else (min lo cs.size, max hi (cs.size + 1)), ?_, ?_, fun i hi => ?_⟩
  · grind[ja]
  · simp_all[World.freeze,Array.getElem?_modify]
  simp_all[World.freeze,Array.getElem?_modify,Ne.symm]
theorem K4 {w : World} {b : Nat} {cs : Array Value} {e : TypeId} {fr : Nat × Nat} (h : w.heap[b]? = some (.cells cs e fr)) (hf : ja fr cs.size) (b' o : Nat) :
    (w.freeze ⟨b, cs.size, none⟩ 1).cell? ⟨b', o, none⟩ = w.cell? ⟨b', o, none⟩ := by grind[kf,World.cell?]
theorem G0 (w : World) (a : Addr) (n : Nat) : (w.freeze a n).heap.size = w.heap.size := by grind[World.freeze]
theorem wz {w : World} {b : Nat} {cs : Array Value} {e : TypeId} {fr : Nat × Nat} (h : w.heap[b]? = some (.cells cs e fr)) (hf : ja fr cs.size) (T : Nat -> Nat -> Prop) :
    Keeps w T (w.freeze ⟨b, cs.size, none⟩ 1) T where
  cell b' o x hc _ := by rw [K4 h hf]; exact hc
  out _ _ _ _ hT := hT
  shp b' c' e' f' hw := by
    obtain ⟨fr', _, h2, h3⟩ := kf h hf
    grind
theorem K3 {w : World} {b : Nat} {cs : Array Value} {e : TypeId} {fr : Nat × Nat} (h : w.heap[b]? = some (.cells cs e fr)) (hf : ja fr cs.size) {T : Nat -> Nat -> Prop} {l : List AV} {b' : Nat} (hb : b' ≠ b) (hr : CellsRel w T l b') :
    CellsRel (w.freeze ⟨b, cs.size, none⟩ 1) T l b' := by
  obtain ⟨fr', h1, h2, h3⟩ := kf h hf
  obtain ⟨c', e', f', h4, h5, h6, h7⟩ := hr
  exact ⟨c', e', f', by grind, h5, h6, fun i x y hx hy => (h7 i x y hx hy).keep (wz h hf T)⟩
theorem SimB.freeze {n : SN} {β : Nat -> Nat} {a : Act} {w : World} (s : SimB n Oth β A st M a w) {b : Nat} {cs : Array Value} {e : TypeId} {fr : Nat × Nat} (h : w.heap[b]? = some (.cells cs e fr)) (hf : ja fr cs.size) (hno : ∃ o, ¬ M b o) :
    SimB n Oth β A st M a (w.freeze ⟨b, cs.size, none⟩ 1) where
  tsz := s.tsz
  dfr := s.dfr.step fun D hD _ h2 => by grind[kf]
  tm i := (s.tm i).keep (wz h hf _)
  bx k l hk := ⟨K3 h hf (fun e => by obtain ⟨o, ho⟩ := hno; exact ho (e ▸ (s.bx k l hk).2 o)) (s.bx k l hk).1, (s.bx k l hk).2⟩
  inj := s.inj
  sep := s.sep
  sto :=
    { obj := fun b' x hx => by
        refine ⟨?_, (s.sto.obj b' x hx).2⟩
        have hr := (s.sto.obj b' x hx).1
        cases x with
        | cells l => exact K3 h hf (fun e => by obtain ⟨o, ho⟩ := hno; exact ho (e ▸ (s.sto.obj b' _ hx).2 o)) hr
        | ghost o gh =>
          obtain ⟨⟨h1, hc⟩, h2⟩ := hr
          have hb : b' ≠ b := fun hh => by subst hh; rw [h] at h1; cases h1; cases hc
          obtain ⟨fr', _, _, h6⟩ := kf h hf
          exact ⟨⟨by grind, hc⟩, fun p hp => (h2 p hp).keep (wz h hf _)⟩
        | iter m since seen last =>
          have h1 : w.heap[b']? = _ := hr
          have hb : b' ≠ b := fun hh => by grind
          obtain ⟨fr', _, _, h6⟩ := kf h hf
          show _ = _
          grind
        | map es bs clock =>
          obtain ⟨ms, h1, h2, h3, h4⟩ := hr
          have hb : b' ≠ b := fun hh => by grind
          obtain ⟨fr', _, _, h6⟩ := kf h hf
          exact ⟨ms, by grind, h2, fun i x y hx hy => ⟨(h3 i x y hx hy).1.keep (wz h hf _), (h3 i x y hx hy).2.keep (wz h hf _)⟩, h4⟩
      tok := fun b' top ht => by
        obtain ⟨c', e', f', h1, h2, h3⟩ := s.sto.tok b' top ht
        grind[kf]
      mlt := fun b' o hm => by rw [G0]; exact s.sto.mlt b' o hm
      olt := fun b' o hm => by rw [G0]; exact s.sto.olt b' o hm
      dis := s.sto.dis }
theorem zdh {w : World} {b : Nat} {cs : Array Value} {e : TypeId} {fr : Nat × Nat} (h : w.heap[b]? = some (.cells cs e fr)) (hf : ja fr cs.size) (hM : ∃ o, M b o) : Chg M w M (w.freeze ⟨b, cs.size, none⟩ 1) where
  size := by rw [G0]; simp
  keep b' o _ _ := K4 h hf b' o
  blk b' _ hno := by grind[kf]
  shp b' c' e' f' hw := (wz h hf (fun _ _ => False)).shp b' c' e' f' hw
  sub _ _ h _ := h
  tape := by rfl
  os := by rfl
  output := by rfl
theorem zeg {o : Oper} {s t : TypeId} {x : Operand} (ho : o.op = .convert s t x) (hI : zu P c.I) (h : Dv P c o s t x K A st) : AOp P c.N o K A st := by
  unfold Dv at h
  split at h
  · rename_i k rows b hx
    cases hb : Nat.beq s t with
    | false => grind
    | true =>
    rw [hb] at h
    simp only [cond_true] at h
    obtain rfl := (yr _ _).1 hb
    obtain ⟨i, hi, h⟩ := ze h
    split at h
    · rename_i e hty
      obtain ⟨ie, hie, h⟩ := ze h
      cases hu8 : (Gs ie.ty && Nat.beq k 1) with
      | false => grind
      | true =>
      rw [hu8] at h
      simp only [cond_true] at h
      obtain ⟨top, htop, h⟩ := ze h
      obtain ⟨hu8, hk1⟩ := Bool.and_eq_true_iff.1 hu8
      have hk1 := (yr _ _).1 hk1
      have hiety : ie.ty = .int .u8 := by grind[Gs]
      rintro Oth M a w ⟨β, sim⟩
      obtain ⟨cs, e', fr, h1, h2, h3, h4⟩ := sim.sto.tok b top htop
      have hv : ∃ n cap, a.eval x = .slice (some ⟨b, 0, none⟩) n cap /\ ∃ o, ¬ M b o := by
        have hr := z7 sim.env hx
        generalize a.eval x = v at hr
        cases hr with
        | lst _ _ b' off cap _ f hcap hk htok hc h0 hx' =>
          obtain ⟨rfl, rfl, hne, _⟩ := htok b rfl
          refine ⟨_, _, rfl, ?_⟩
          cases rows with
          | nil => grind
          | cons r rs =>
            have hr1 := hk 0 r rfl
            cases r with
            | nil => grind
            | cons y ys => exact ⟨_, fun hm => (hc 0 _ 0 y rfl rfl).2 (.inl hm)⟩
      obtain ⟨n, cap, hv, hnoM⟩ := hv
      have hsh : w.shape? b = some (e', cs.size) := by simp [World.shape?, h1]
      have hrun : (execOp a.eval o).run P w = .ok (.value (a.eval x)) (w.freeze ⟨b, cs.size, none⟩ 1) := by
        simp [execOp, ho, hv, convert, zm (yp (hI _ _ hi) hty), zm (wc (hI _ _ hie) hiety), markStringish, hsh]
      have sim' := sim.freeze h1 h2 hnoM
      unfold Oper.wp
      rw [hrun, Oper.upon_value]
      have hvr : LRel (w.freeze ⟨b, cs.size, none⟩ 1) (fun b o => M b o \/ Oth b o) β (.av (.lst k rows (some b))) (a.eval x) := by
        have := sim'.ev x
        grind
      have hchg : Chg M w M (w.freeze ⟨b, cs.size, none⟩ 1) := zdh h1 h2 ⟨top, h4 top (Nat.le_refl _)⟩
      unfold z8 at h
      cases hd : o.dst with
      | none => rw [hd] at h; exact ⟨A, st, M, h, ⟨β, sim'⟩, hchg⟩
      | some d =>
        rw [hd] at h
        obtain ⟨hlt, h⟩ := qn h
        exact ⟨_, st, M, h, ⟨β, sim'.put hlt hvr⟩, hchg⟩
    grind
  · exact D7 hI h
  · exact D7 hI h
  grind[Bu]
end
section
variable {P : Program} {c : Cfg} {K : Fr -> Store -> Prop} {A : Fr} {st : Store}
theorem zek {o : Oper} {cl : Call} (ho : o.op = .call cl) (hcl : cl.callee = .builtin .append) (hI : zu P c.I)
    (h : optK cl.argTypes[0]? fun t => optK (c.I t) fun i => optK cl.args[0]? fun s => optK cl.args[1]? fun x => match i.ty with
      | .slice e => bif (cl.argTypes[1]?.bind c.I).any Au then
          appendK P c st e (A.ev s) (A.ev x) fun r st' => z8 A c.n o.dst (.av r) fun A' => K A' st' else vcX P c o K A st
      | _ => False) : AOp P c.N o K A st := by
  obtain ⟨t, ht, h⟩ := ze h
  obtain ⟨i, hi, h⟩ := ze h
  obtain ⟨s, hs, h⟩ := ze h
  obtain ⟨x, hx, h⟩ := ze h
  split at h
  · rename_i e hty
    cases hb : (cl.argTypes[1]?.bind c.I).any Au with
    | false => rw [hb] at h; exact D7 hI h
    | true =>
    rw [hb] at h
    simp only [cond_true] at h
    replace h := h.out
    rintro Oth M a w ⟨β, sim⟩
    have ht1 : ∃ t1 e1, cl.argTypes[1]? = some t1 /\ P.underlying t1 = some (.slice e1) := by
      cases h1 : cl.argTypes[1]? with
      | none => grind
      | some t1 =>
        rw [h1] at hb
        simp only [Option.bind_some] at hb
        cases h2 : c.I t1 with
        | none => grind
        | some j =>
          rw [h2] at hb
          simp only [Option.any_some] at hb
          unfold Au at hb
          split at hb
          · rename_i e1 h3; exact ⟨t1, e1, rfl, yp (hI _ _ h2) h3⟩
          grind
    have hrun : (execOp a.eval o).run P w = ((Builtin.append_ cl.argTypes o.type (cl.args.map a.eval)).run P w).andThen fun v w' => .ok (.value v) w' := by simp_all[execOp,resolve,invoke,builtin]
    have fin : ∀ v w', (∃ r st' M', (z8 A c.n o.dst (.av r) fun A' => K A' st') /\ VRel w' (fun b o => M' b o \/ Oth b o) r v /\ SimB c.N Oth β A st' M' a w' /\ Chg M w M' w') ->
        ∃ A' st' M', K A' st' /\ Sim c.N Oth A' st' M' (a.put o.dst v) w' /\ Chg M w M' w' := by
      rintro v w' ⟨r, st', M', hk, hv, hs, hchg⟩
      unfold z8 at hk
      cases hd : o.dst with
      | none => rw [hd] at hk; exact ⟨A, st', M', hk, ⟨β, hs⟩, hchg⟩
      | some d =>
        rw [hd] at hk
        obtain ⟨hlt, hk⟩ := qn hk
        exact ⟨_, st', M', hk, ⟨β, hs.put hlt hv⟩, hchg⟩
    have h1 : (cl.args.map a.eval)[1]? = some (a.eval x) := by grind
    unfold Oper.wp
    rw [hrun]
    rcases h with h | ⟨s', x', hes, hex, h⟩
    rotate_left
    · have hvs := z7 sim.env hes
      have hvx := z7 sim.env hex
      have h0 : (cl.args.map a.eval)[0]? = some (a.eval s) := by grind
      obtain ⟨ie, hie⟩ := h.has
      obtain ⟨v, w', hr, hp⟩ := h.out ie hie _ _ w _ _ _ o.type _ t sim.inner (hvs.mono k0) (hvx.mono k0) ht ht1 (yp (hI _ _ hi) hty) (hI _ _ hie) h0 h1
      rw [hr]
      exact fin v w' (sim.post v w' hp)
    unfold Hk at h
    obtain ⟨ie, hie, h⟩ := ze h
    split at h
    · rename_i hev
      obtain ⟨rows, hrows, hroom, h⟩ := ze h
      have hsv : a.eval s = .slice none 0 0 := VRel.eq_s (z7 sim.env hev)
      have h0 : (cl.args.map a.eval)[0]? = some (.slice none 0 0) := by grind
      obtain ⟨v, w', r, st', M', hr, hown, hsim, hchg, hv⟩ := (Hj (c := c) sim o.type ⟨ht, ht1, yp (hI _ _ hi) hty, hI _ _ hie, h0, h1⟩ (sim.ev x) hrows).1 ⟨rfl, rfl, fun x h => by cases h⟩ hroom
      rw [hr]
      exact fin v w' ⟨r, st', M', h r st' hown, hv, hsim, hchg⟩
    · rename_i hev
      obtain ⟨rows, hrows, hroom, h⟩ := ze h
      have hsv : ∃ ad, a.eval s = .slice ad 0 0 /\ ∀ x, ad = some x -> x.spot = none := by
        have := z7 sim.env hev
        generalize a.eval s = v at this
        cases this with
        | emp ad h => grind
      obtain ⟨ad, hsv, hspot⟩ := hsv
      have h0 : (cl.args.map a.eval)[0]? = some (.slice ad 0 0) := by grind
      obtain ⟨v, w', r, st', M', hr, hown, hsim, hchg, hv⟩ := (Hj (c := c) sim o.type ⟨ht, ht1, yp (hI _ _ hi) hty, hI _ _ hie, h0, h1⟩ (sim.ev x) hrows).1 ⟨rfl, rfl, hspot⟩ hroom
      rw [hr]
      exact fin v w' ⟨r, st', M', h r st' hown, hv, hsim, hchg⟩
    · rename_i k rows b hev
      cases hkb : (Nat.beq k ie.size && Nat.blt 0 ie.size) with
      | false => grind
      | true =>
      rw [hkb] at h
      simp only [cond_true] at h
      rw [Bool.and_eq_true] at hkb
      have hpos : 0 < ie.size := Nat.le_of_ble_eq_true hkb.2
      obtain rfl := (yr _ _).1 hkb.1
      obtain ⟨rows', hrows, htok, hroom, h⟩ := ze h
      have hvr := z7 sim.env hev
      obtain ⟨base, sLen, sCap, hsv⟩ : ∃ base sLen sCap, a.eval s = .slice base sLen sCap := by
        generalize a.eval s = v at hvr
        cases hvr <;> simp
      rw [hsv] at hvr
      have h0 : (cl.args.map a.eval)[0]? = some (.slice base sLen sCap) := by grind
      obtain ⟨v, w', r, st', M', hr, hown, hsim, hchg, hv⟩ := (Hj (c := c) sim o.type ⟨ht, ht1, yp (hI _ _ hi) hty, hI _ _ hie, h0, h1⟩ (sim.ev x) hrows).2 rows b hpos hvr htok hroom
      rw [hr]
      exact fin v w' ⟨r, st', M', h r st' hown, hv, hsim, hchg⟩
    grind
  grind
theorem I7 {o : Oper} {x : LV} {v : Value} {a : Act} {w : World} {Oth M : Nat -> Nat -> Prop} {β : Nat -> Nat} (sim : SimB c.N Oth β A st M a w) (hv : LRel w (fun b o => M b o \/ Oth b o) β x v)
    (h : z8 A c.n o.dst x fun A' => K A' st) : ∃ A' st' M', K A' st' /\ Sim c.N Oth A' st' M' (a.put o.dst v) w /\ Chg M w M' w := by
  unfold z8 at h
  cases hd : o.dst with
  | none => rw [hd] at h; exact ⟨A, st, M, h, ⟨β, sim⟩, Chg.refl _ _⟩
  | some d =>
    rw [hd] at h
    obtain ⟨hlt, h⟩ := qn h
    exact ⟨_, st, M, h, ⟨β, sim.put hlt hv⟩, Chg.refl _ _⟩
set_option maxHeartbeats 1000000 in
theorem ry (w : World) {t e : TypeId} (hu : P.underlying t = some (.slice e)) (ad : Option Addr) (n cap d : Nat) : (Op.equalIn (d + 1) t (.slice ad n cap) (.slice none 0 0)).run P w = .ok ad.isNone w := by
  cases ad <;> simp [Op.equalIn, zm hu]
theorem Iu (w : World) {t e : TypeId} (hu : P.underlying t = some (.slice e)) (ad : Option Addr) (n cap : Nat) :
    (binOp .eql t (.slice ad n cap) (.slice none 0 0)).run P w = .ok (.bool ad.isNone) w /\ (binOp .neq t (.slice ad n cap) (.slice none 0 0)).run P w = .ok (.bool !ad.isNone) w := by grind[ry,binOp,Op.equal,Op.maxDepth,Sem.run_bind,Result.andThen_ok,Sem.run_pure]
theorem zej {o : Oper} {op : BinOp} {t yt : TypeId} {x y : Operand} (ho : o.op = .binOp op t x y yt) (hI : zu P c.I)
    (h : D3 c o op t x y yt K A st) : AOp P c.N o K A st := by
  unfold D3 at h
  split at h
  · rename_i k rows tok hx hy
    obtain ⟨i, hi, h⟩ := ze h
    rintro Oth M a w ⟨β, sim⟩
    have hyv : a.eval y = .slice none 0 0 := VRel.eq_s (z7 sim.env hy)
    have hxv : ∃ ad n cap, a.eval x = .slice ad n cap /\ (ad.isNone = true -> rows = []) := by
      rcases Am (z7 sim.env hx) with ⟨_, cap, hv, h2, _⟩ | ⟨b, off, cap, hv, _⟩
      · grind
      grind
    obtain ⟨ad, n, cap, hxv, hnil⟩ := hxv
    cases hty : i.ty with
    | slice e =>
      rw [hty] at h
      have hu := yp (hI _ _ hi) hty
      cases op with
      | eql =>
        have hrun : (execOp a.eval o).run P w = .ok (.value (.bool ad.isNone)) w := by simp_all[execOp,eqGuard,Iu]
        unfold Oper.wp
        rw [hrun, Oper.upon_value]
        exact I7 sim (x := yn ad.isNone) (VRel.s _) (h _ hnil)
      | neq =>
        have hrun : (execOp a.eval o).run P w = .ok (.value (.bool !ad.isNone)) w := by simp_all[execOp,eqGuard,Iu]
        unfold Oper.wp
        rw [hrun, Oper.upon_value]
        exact I7 sim (x := yn !ad.isNone) (VRel.s _) (h _ hnil)
      | _ => grind
    | _ => grind
  grind[Bu]
theorem Mk (hI : zu P c.I) {o : Oper} (h : xx P c o K A st) : AOp P c.N o K A st := by
  unfold xx at h
  cases hx : isX o.op with
  | true => rw [hx] at h; exact D7 hI h
  | false =>
  rw [hx] at h
  replace h : jk P c o K A st := h
  unfold jk at h
  cases ho : o.op with
  | alloc t => grind[jt,zel]
  | box t x => grind[zei]
  | buildSlice t n ps => simp only [ho] at h; exact Ml ho hI h
  | store t p x =>
    simp only [ho] at h
    cases hd : o.dst with
    | some d => grind
    | none => rw [hd] at h; exact zed ho hd hI h
  | binOp op t x y yt => grind[zej]
  | convert s t x => grind[zeg]
  | call cl =>
    simp only [ho] at h
    grind[zeh,zef,zek,Bu]
  | _ => grind[Bu]
theorem Cfg.noDepth (c : Cfg) : c.F.depth.isSome = true -> 1 <= 0 := fun h => by cases h
theorem zdp {c : Cfg} {f : FuncId} {args : Array Value} {w : World} {R : Ending -> World -> Prop} (h : Calls P f args w R) : CallsIn c.F 0 P f args w R :=
  (callsIn_wide (n := 0)).2 h
theorem se {c : Cfg} {row : String} {args : Array Value} {w : World} {R : Value -> World -> Prop} (h : Rows P row args w R) : RowsIn c.F 0 P row args w R :=
  fun x cs _ => let ⟨v, w', r, s⟩ := h x cs; ⟨v, w', r, stepsIn_wide.2 s⟩
theorem Oper.wpIn_F {o : Oper} (hd : ∀ cl, o.op ≠ .defer cl) {a : Act} {w : World} {K : Act -> World -> Prop} {Q : Exit -> Act -> World -> Prop} (h : o.wp P a w K Q) : o.wpIn c.F 0 P a w K Q := by
  refine ⟨fun _ _ => Tv, ?_⟩
  rw [Oper.semAt_eq _ _ _ hd]
  unfold Oper.wp at h
  generalize (execOp a.eval o).run P w = r at *
  cases r with
  | ok x w' =>
    cases x <;> simp only [Oper.upon, Oper.uponIn] at h ⊢ <;>
      first
        | exact h
        | exact ⟨c.noDepth, zdp h⟩
        | exact ⟨c.noDepth, se h⟩
        | exact h.elim
  | halt x w' => cases x <;> trivial <;> exact h
theorem uq {o : Oper} (h : xx P c o K A st) (cl : Call) : o.op ≠ .defer cl := by
  intro e
  unfold xx at h
  rw [e] at h
  have h : jk P c o K A st := h
  unfold jk at h
  simp only [e] at h
  obtain ⟨d, _, h⟩ := ze h
  obtain ⟨_, h⟩ := qn h
  exact h.elim
theorem Mq {o : Oper} {l : Nat} (h : Fe A o.op = some l) : ∃ cl f fv cap, o.op = .call cl /\ cl.callee = .value f /\ A.ev f = .av (.s (.func (.yield l) fv cap)) /\ fv = #[] /\ cap = #[] := by
  unfold Fe at h
  split at h
  · rename_i cl hop
    split at h
    · rename_i f hcl
      split at h
      · rename_i l' fv cap hev
        cases hb : (Nat.beq fv.size 0 && Nat.beq cap.size 0) with
        | false => grind
        | true =>
          simp_all
      · cases h
    · cases h
  · cases h
theorem sf {l : Nat} {f : FuncId} {tmps : Array Value} {assign body : Code} {w : World} {R : Ending -> World -> Prop} (h : RoundIn Fence.wide 0 P l f tmps assign body w R) : RoundIn c.F 0 P l f tmps assign body w R := h
theorem zem (hI : zu P c.I) {o : Oper} (h : v8 P c o K A st) : zex P c o K A st := by
  unfold v8 at h
  split at h
  rotate_left
  · exact fun Oth M a w sim => Oper.wpIn_F (uq h) (Mk hI h Oth M a w sim)
  · rename_i l hl
    obtain ⟨cl, f, fv, cap, ho, hcl, hf, rfl, rfl⟩ := Mq hl
    rintro Oth M a w ⟨β, sim⟩
    obtain ⟨vs, hvs, h⟩ := ze h
    unfold Hp at hvs
    rw [ho] at hvs
    have hfv : a.eval f = .func (.yield l) #[] #[] := VRel.eq_s (z7 sim.env hf)
    obtain ⟨hm1, hm2⟩ := wu hvs
    have hr1 : Reads w (fun b o => M b o \/ Oth b o) vs (cl.args.map a.eval).toList := by
      refine ⟨by simp [hm1], fun i x y hx hy => ?_⟩
      obtain ⟨z, hz, hzz⟩ := hm2 i x hx
      have hz' : cl.args[i]? = some z := by grind
      rw [Array.toList_map, List.getElem?_map, hz] at hy
      simp at hy
      subst hy
      exact z7 sim.env (Ar hzz)
    have hrun : (execOp a.eval o).run P w = (Instr.yield l (cl.args.map a.eval)).run P w := by grind[execOp,resolve,Deferred.ofValue,invoke]
    obtain ⟨fn, tmps, assign, body, hy, hround⟩ := h.out _ _ w (cl.args.map a.eval) sim.inner ⟨hr1.1, fun i x y hx hy => (hr1.2 i x y hx hy).mono k0⟩
    refine ⟨fun _ _ => Tv, ?_⟩
    rw [Oper.semAt_eq _ _ _ (by grind), hrun, hy, Oper.uponIn_round]
    refine ⟨c.noDepth, sf (hround.mono ?_)⟩
    rintro e w' ⟨v, rfl, hp⟩
    obtain ⟨r, st', M', hk, hv, hs, hchg⟩ := sim.post v w' hp
    show ∃ A' st' M', _
    unfold z8 at hk
    cases hd : o.dst with
    | none => rw [hd] at hk; exact ⟨A, st', M', hk, ⟨β, hs⟩, hchg⟩
    | some d =>
      rw [hd] at hk
      obtain ⟨hlt, hk⟩ := qn hk
      exact ⟨_, st', M', hk, ⟨β, hs.put hlt hv⟩, hchg⟩
end
end Go.V
