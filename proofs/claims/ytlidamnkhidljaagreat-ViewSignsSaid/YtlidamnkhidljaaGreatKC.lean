/- The ground on which laws of thronglaw31 are proved: contracts of functions and plain lemmas; no condition beyond the row's own. -/
import Derived.Tactics
import Derived.RangeFuncLeaves
import Derived.Orders
import Derived.Test.YtlidamnkhidljaaGreatKB
set_option linter.unusedSimpArgs false
set_option linter.unusedVariables false
namespace Go.V
section
variable {P : Program} {c : Cfg} {K : Fr -> Store -> Prop} {A : Fr} {st : Store}
theorem zh1 {o : Oper} {cl : Call} (ho : o.op = .call cl) (hcl : cl.callee = .builtin .append) (hI : zp P c.I)
    (h : optK cl.argTypes[0]? fun t => optK (c.I t) fun i => optK cl.args[0]? fun s => optK cl.args[1]? fun x => match i.ty with
      | .slice e => bif (cl.argTypes[1]?.bind c.I).any zar then
          appendK P c st e (A.ev s) (A.ev x) fun r st' => putO A c.n o.dst (.av r) fun A' => K A' st' else vcX P c o K A st
      | _ => False) : AOp P c.n o K A st := by
  obtain ⟨t, ht, h⟩ := zd h
  obtain ⟨i, hi, h⟩ := zd h
  obtain ⟨s, hs, h⟩ := zd h
  obtain ⟨x, hx, h⟩ := zd h
  split at h
  · rename_i e hty
    cases hb : (cl.argTypes[1]?.bind c.I).any zar with
    | false => rw [hb] at h; exact zf3 hI h
    | true =>
    rw [hb] at h
    simp only [cond_true] at h
    replace h := h.out
    rintro Oth M a w ⟨β, sim⟩
    have ht1 : ∃ t1 e1, cl.argTypes[1]? = some t1 /\ P.underlying t1 = some (.slice e1) := by
      cases h1 : cl.argTypes[1]? with
      | none => rw [h1] at hb; simp at hb
      | some t1 =>
        rw [h1] at hb
        simp only [Option.bind_some] at hb
        cases h2 : c.I t1 with
        | none => rw [h2] at hb; simp at hb
        | some j =>
          rw [h2] at hb
          simp only [Option.any_some] at hb
          unfold zar at hb
          split at hb
          · rename_i e1 h3; exact ⟨t1, e1, rfl, zr (hI _ _ h2) h3⟩
          · cases hb
    have hrun : (execOp a.eval o).run P w = ((Builtin.append_ cl.argTypes o.type (cl.args.map a.eval)).run P w).andThen fun v w' => .ok (.value v) w' := by
      simp [execOp, ho, resolve, hcl, invoke, builtin]
    have fin : ∀ v w', (∃ r st' M', (putO A c.n o.dst (.av r) fun A' => K A' st') /\ VRel w' (fun b o => M' b o \/ Oth b o) r v /\ SimB c.n Oth β A st' M' a w' /\ Chg M w M' w') ->
        ∃ A' st' M', K A' st' /\ Sim c.n Oth A' st' M' (a.put o.dst v) w' /\ Chg M w M' w' := by
      rintro v w' ⟨r, st', M', hk, hv, hs, hchg⟩
      unfold putO at hk
      cases hd : o.dst with
      | none => rw [hd] at hk; exact ⟨A, st', M', hk, ⟨β, hs⟩, hchg⟩
      | some d =>
        rw [hd] at hk
        obtain ⟨hlt, hk⟩ := yr hk
        exact ⟨_, st', M', hk, ⟨β, hs.put hlt hv⟩, hchg⟩
    have h1 : (cl.args.map a.eval)[1]? = some (a.eval x) := by rw [Array.getElem?_map, hx]; rfl
    unfold Oper.wp
    rw [hrun]
    rcases h with h | ⟨s', x', hes, hex, h⟩
    rotate_left
    · have hvs := zy sim.env hes
      have hvx := zy sim.env hex
      have h0 : (cl.args.map a.eval)[0]? = some (a.eval s) := by rw [Array.getElem?_map, hs]; rfl
      obtain ⟨ie, hie⟩ := h.has
      obtain ⟨v, w', hr, hp⟩ := h.out ie hie _ _ w _ _ _ o.type _ t sim.inner (hvs.mono jv) (hvx.mono jv) ht ht1 (zr (hI _ _ hi) hty) (hI _ _ hie) h0 h1
      rw [hr]
      exact fin v w' (sim.post v w' hp)
    unfold zf1 at h
    obtain ⟨ie, hie, h⟩ := zd h
    split at h
    · rename_i hev
      obtain ⟨rows, hrows, hroom, h⟩ := zd h
      have hsv : a.eval s = .slice none 0 0 := VRel.eq_s (zy sim.env hev)
      have h0 : (cl.args.map a.eval)[0]? = some (.slice none 0 0) := by rw [Array.getElem?_map, hs, <- hsv]; rfl
      obtain ⟨v, w', r, st', M', hr, hown, hsim, hchg, hv⟩ := (j6 (c := c) sim o.type ⟨ht, ht1, zr (hI _ _ hi) hty, hI _ _ hie, h0, h1⟩ (sim.ev x) hrows).1 ⟨rfl, rfl, fun x h => by cases h⟩ hroom
      rw [hr]
      exact fin v w' ⟨r, st', M', h r st' hown, hv, hsim, hchg⟩
    · rename_i hev
      obtain ⟨rows, hrows, hroom, h⟩ := zd h
      have hsv : ∃ ad, a.eval s = .slice ad 0 0 /\ ∀ x, ad = some x -> x.spot = none := by
        have := zy sim.env hev
        generalize a.eval s = v at this
        cases this with
        | emp ad h => exact ⟨ad, rfl, h⟩
      obtain ⟨ad, hsv, hspot⟩ := hsv
      have h0 : (cl.args.map a.eval)[0]? = some (.slice ad 0 0) := by rw [Array.getElem?_map, hs, <- hsv]; rfl
      obtain ⟨v, w', r, st', M', hr, hown, hsim, hchg, hv⟩ := (j6 (c := c) sim o.type ⟨ht, ht1, zr (hI _ _ hi) hty, hI _ _ hie, h0, h1⟩ (sim.ev x) hrows).1 ⟨rfl, rfl, hspot⟩ hroom
      rw [hr]
      exact fin v w' ⟨r, st', M', h r st' hown, hv, hsim, hchg⟩
    · rename_i k rows b hev
      cases hkb : (Nat.beq k ie.size && Nat.blt 0 ie.size) with
      | false => rw [hkb] at h; exact h.elim
      | true =>
      rw [hkb] at h
      simp only [cond_true] at h
      rw [Bool.and_eq_true] at hkb
      have hpos : 0 < ie.size := Nat.le_of_ble_eq_true hkb.2
      obtain rfl := (z8 _ _).1 hkb.1
      obtain ⟨rows', hrows, htok, hroom, h⟩ := zd h
      have hvr := zy sim.env hev
      obtain ⟨base, sLen, sCap, hsv⟩ : ∃ base sLen sCap, a.eval s = .slice base sLen sCap := by
        generalize a.eval s = v at hvr
        cases hvr <;> exact ⟨_, _, _, rfl⟩
      rw [hsv] at hvr
      have h0 : (cl.args.map a.eval)[0]? = some (.slice base sLen sCap) := by rw [Array.getElem?_map, hs, <- hsv]; rfl
      obtain ⟨v, w', r, st', M', hr, hown, hsim, hchg, hv⟩ := (j6 (c := c) sim o.type ⟨ht, ht1, zr (hI _ _ hi) hty, hI _ _ hie, h0, h1⟩ (sim.ev x) hrows).2 rows b hpos hvr htok hroom
      rw [hr]
      exact fin v w' ⟨r, st', M', h r st' hown, hv, hsim, hchg⟩
    · exact h.elim
  · exact h.elim
theorem zgc {o : Oper} {x : LV} {v : Value} {a : Act} {w : World} {Oth M : Nat -> Nat -> Prop} {β : Nat -> Nat} (sim : SimB c.n Oth β A st M a w) (hv : LRel w (fun b o => M b o \/ Oth b o) β x v)
    (h : putO A c.n o.dst x fun A' => K A' st) : ∃ A' st' M', K A' st' /\ Sim c.n Oth A' st' M' (a.put o.dst v) w /\ Chg M w M' w := by
  unfold putO at h
  cases hd : o.dst with
  | none => rw [hd] at h; exact ⟨A, st, M, h, ⟨β, sim⟩, Chg.refl _ _⟩
  | some d =>
    rw [hd] at h
    obtain ⟨hlt, h⟩ := yr h
    exact ⟨_, st, M, h, ⟨β, sim.put hlt hv⟩, Chg.refl _ _⟩
set_option maxHeartbeats 1000000 in
theorem zgz (w : World) {t e : TypeId} (hu : P.underlying t = some (.slice e)) (ad : Option Addr) (n cap d : Nat) : (Op.equalIn (d + 1) t (.slice ad n cap) (.slice none 0 0)).run P w = .ok ad.isNone w := by
  cases ad <;> simp [Op.equalIn, zh hu]
theorem zas (w : World) {t e : TypeId} (hu : P.underlying t = some (.slice e)) (ad : Option Addr) (n cap : Nat) :
    (binOp .eql t (.slice ad n cap) (.slice none 0 0)).run P w = .ok (.bool ad.isNone) w /\ (binOp .neq t (.slice ad n cap) (.slice none 0 0)).run P w = .ok (.bool !ad.isNone) w := by
  have h := zgz w hu ad n cap 9999
  constructor <;> simp only [binOp, Op.equal, Op.maxDepth, Sem.run_bind, h, Result.andThen_ok, Sem.run_pure]
theorem zkm {o : Oper} {op : BinOp} {t yt : TypeId} {x y : Operand} (ho : o.op = .binOp op t x y yt) (hI : zp P c.I)
    (h : zgi c o op t x y yt K A st) : AOp P c.n o K A st := by
  unfold zgi at h
  split at h
  · rename_i k rows tok hx hy
    obtain ⟨i, hi, h⟩ := zd h
    rintro Oth M a w ⟨β, sim⟩
    have hyv : a.eval y = .slice none 0 0 := VRel.eq_s (zy sim.env hy)
    have hxv : ∃ ad n cap, a.eval x = .slice ad n cap /\ (ad.isNone = true -> rows = []) := by
      rcases kz (zy sim.env hx) with ⟨_, cap, hv, h2, _⟩ | ⟨b, off, cap, hv, _⟩
      · exact ⟨_, _, _, hv, fun _ => h2⟩
      · exact ⟨_, _, _, hv, fun h => by simp at h⟩
    obtain ⟨ad, n, cap, hxv, hnil⟩ := hxv
    cases hty : i.ty with
    | slice e =>
      rw [hty] at h
      have hu := zr (hI _ _ hi) hty
      cases op with
      | eql =>
        have hrun : (execOp a.eval o).run P w = .ok (.value (.bool ad.isNone)) w := by
          simp [execOp, ho, hxv, hyv, eqGuard, (zas w hu ad n cap).1]
        unfold Oper.wp
        rw [hrun, Oper.upon_value]
        exact zgc sim (x := qt ad.isNone) (VRel.s _) (h _ hnil)
      | neq =>
        have hrun : (execOp a.eval o).run P w = .ok (.value (.bool !ad.isNone)) w := by
          simp [execOp, ho, hxv, hyv, eqGuard, (zas w hu ad n cap).2]
        unfold Oper.wp
        rw [hrun, Oper.upon_value]
        exact zgc sim (x := qt !ad.isNone) (VRel.s _) (h _ hnil)
      | _ => exact h.elim
    | _ => rw [hty] at h; exact h.elim
  · exact zbc hI (by rw [ho]; exact h)
theorem zer (hI : zp P c.I) {o : Oper} (h : vcOp P c o K A st) : AOp P c.n o K A st := by
  unfold vcOp at h
  cases hx : isX o.op with
  | true => rw [hx] at h; exact zf3 hI h
  | false =>
  rw [hx] at h
  replace h : zbf P c o K A st := h
  unfold zbf at h
  cases ho : o.op with
  | alloc t => simp only [ho, y5] at h; exact zkn ho hI h
  | box t x => simp only [ho] at h; exact zs0 ho hI h
  | buildSlice t n ps => simp only [ho] at h; exact km ho hI h
  | store t p x =>
    simp only [ho] at h
    cases hd : o.dst with
    | some d => rw [hd] at h; exact h.elim
    | none => rw [hd] at h; exact zkk ho hd hI h
  | binOp op t x y yt => simp only [ho] at h; exact zkm ho hI h
  | convert s t x => simp only [ho] at h; exact zow ho hI h
  | call cl =>
    simp only [ho] at h
    cases hcl : cl.callee with
    | value f => simp only [hcl] at h; exact zox ho hcl h
    | invoke r m => simp only [hcl] at h; exact zh0 ho hcl h
    | builtin b =>
      cases b with
      | append => simp only [hcl] at h; exact zh1 ho hcl hI h
      | _ => simp only [hcl] at h; exact zbc hI (by rw [ho]; exact h)
  | _ => simp only [ho] at h; exact zbc hI (by rw [ho]; exact h)
theorem Cfg.noDepth (c : Cfg) : c.F.depth.isSome = true -> 1 <= 0 := fun h => by cases h
theorem zeo {c : Cfg} {f : FuncId} {args : Array Value} {w : World} {R : Ending -> World -> Prop} (h : Calls P f args w R) : CallsIn c.F 0 P f args w R :=
  (callsIn_wide (n := 0)).2 h
theorem zn8 {c : Cfg} {row : String} {args : Array Value} {w : World} {R : Value -> World -> Prop} (h : Rows P row args w R) : RowsIn c.F 0 P row args w R :=
  fun x cs _ => let ⟨v, w', r, s⟩ := h x cs; ⟨v, w', r, stepsIn_wide.2 s⟩
theorem Oper.wpIn_F {o : Oper} (hd : ∀ cl, o.op ≠ .defer cl) {a : Act} {w : World} {K : Act -> World -> Prop} {Q : Exit -> Act -> World -> Prop} (h : o.wp P a w K Q) : o.wpIn c.F 0 P a w K Q := by
  refine ⟨fun _ _ => Tv, ?_⟩
  rw [Oper.semAt_eq _ _ _ hd]
  unfold Oper.wp at h
  generalize (execOp a.eval o).run P w = r at *
  cases r with
  | ok x w' =>
    cases x <;> simp only [Oper.upon, Oper.uponIn] at h ⊢ <;>
      first
        | exact h
        | exact ⟨c.noDepth, zeo h⟩
        | exact ⟨c.noDepth, zn8 h⟩
        | exact h.elim
  | halt x w' => cases x <;> simp only [Oper.upon, Oper.uponIn] at h ⊢ <;> exact h
theorem zob {o : Oper} (h : vcOp P c o K A st) (cl : Call) : o.op ≠ .defer cl := by
  intro e
  unfold vcOp at h
  rw [e] at h
  have h : zbf P c o K A st := h
  unfold zbf at h
  simp only [e] at h
  obtain ⟨d, _, h⟩ := zd h
  obtain ⟨_, h⟩ := yr h
  exact h.elim
theorem zgo {o : Oper} {l : Nat} (h : zev A o.op = some l) : ∃ cl f fv cap, o.op = .call cl /\ cl.callee = .value f /\ A.ev f = .av (.s (.func (.yield l) fv cap)) /\ fv = #[] /\ cap = #[] := by
  unfold zev at h
  split at h
  · rename_i cl hop
    split at h
    · rename_i f hcl
      split at h
      · rename_i l' fv cap hev
        cases hb : (Nat.beq fv.size 0 && Nat.beq cap.size 0) with
        | false => rw [hb] at h; cases h
        | true =>
          rw [hb] at h
          cases h
          rw [Bool.and_eq_true] at hb
          exact ⟨cl, f, fv, cap, hop, hcl, hev, Array.size_eq_zero_iff.1 ((z8 _ _).1 hb.1), Array.size_eq_zero_iff.1 ((z8 _ _).1 hb.2)⟩
      · cases h
    · cases h
  · cases h
theorem ziu {l : Nat} {f : FuncId} {tmps : Array Value} {assign body : Code} {w : World} {R : Ending -> World -> Prop} (h : RoundIn Fence.wide 0 P l f tmps assign body w R) : RoundIn c.F 0 P l f tmps assign body w R := h
theorem zh2 (hI : zp P c.I) {o : Oper} (h : zgs P c o K A st) : AOpI P c o K A st := by
  unfold zgs at h
  split at h
  rotate_left
  · exact fun Oth M a w sim => Oper.wpIn_F (zob h) (zer hI h Oth M a w sim)
  · rename_i l hl
    obtain ⟨cl, f, fv, cap, ho, hcl, hf, rfl, rfl⟩ := zgo hl
    rintro Oth M a w ⟨β, sim⟩
    obtain ⟨vs, hvs, h⟩ := zd h
    unfold zdd at hvs
    rw [ho] at hvs
    have hfv : a.eval f = .func (.yield l) #[] #[] := VRel.eq_s (zy sim.env hf)
    obtain ⟨hm1, hm2⟩ := js hvs
    have hr1 : Reads w (fun b o => M b o \/ Oth b o) vs (cl.args.map a.eval).toList := by
      refine ⟨by simp [hm1], fun i x y hx hy => ?_⟩
      obtain ⟨z, hz, hzz⟩ := hm2 i x hx
      have hz' : cl.args[i]? = some z := by simpa using hz
      rw [Array.toList_map, List.getElem?_map, hz] at hy
      simp at hy
      subst hy
      exact zy sim.env (jk hzz)
    have hrun : (execOp a.eval o).run P w = (Instr.yield l (cl.args.map a.eval)).run P w := by
      simp [execOp, ho, resolve, hcl, hfv, Deferred.ofValue, invoke]
    obtain ⟨fn, tmps, assign, body, hy, hround⟩ := h.out _ _ w (cl.args.map a.eval) sim.inner ⟨hr1.1, fun i x y hx hy => (hr1.2 i x y hx hy).mono jv⟩
    refine ⟨fun _ _ => Tv, ?_⟩
    rw [Oper.semAt_eq _ _ _ (by rw [ho]; intro _ e; cases e), hrun, hy, Oper.uponIn_round]
    refine ⟨c.noDepth, ziu (hround.mono ?_)⟩
    rintro e w' ⟨v, rfl, hp⟩
    obtain ⟨r, st', M', hk, hv, hs, hchg⟩ := sim.post v w' hp
    show ∃ A' st' M', _
    unfold putO at hk
    cases hd : o.dst with
    | none => rw [hd] at hk; exact ⟨A, st', M', hk, ⟨β, hs⟩, hchg⟩
    | some d =>
      rw [hd] at hk
      obtain ⟨hlt, hk⟩ := yr hk
      exact ⟨_, st', M', hk, ⟨β, hs.put hlt hv⟩, hchg⟩
end
end Go.V
namespace Go.V
def ziq (c : Cfg) (o : Oper) (A : Fr) (K : Fr -> Prop) : Prop := putO A c.n o.dst .und K
/-- The operations of a region, one behind the other. -/
def wt (P : Program) (c : Cfg) (ops : Array Oper) (K : Fr -> Store -> Prop) : List Oper -> Fr -> Store -> Prop
  | [], A, st => K A st
  | o :: rest, A, st =>
    match o.guard with
    | none => zgs P c o (wt P c ops K rest) A st
    | some (j, want) => optK ((ops[j]?).bind (·.dst)) fun t =>
      match A.t t with
      | .av (.s (.bool b)) => v7 b
          (bif want then zgs P c o (wt P c ops K rest) (A.put t (qt true)) st else ziq c o (A.put t (qt true)) fun A' => wt P c ops K rest A' st)
          (bif want then ziq c o (A.put t (qt false)) fun A' => wt P c ops K rest A' st else zgs P c o (wt P c ops K rest) (A.put t (qt false)) st)
      | .und => ziq c o A fun A' => wt P c ops K rest A' st
      | _ => False
/-- A piece of code, in words of worlds. -/
structure AWp (P : Program) (c : Cfg) (code : Code) (Q : Exit -> Fr -> Store -> Prop) (A : Fr) (st : Store) : Prop where
  out : ∀ Oth M a w, Sim c.n Oth A st M a w -> code.wpIn c.F 0 P (fun e a' w' => ∃ A' st' M', Q e A' st' /\ Sim c.n Oth A' st' M' a' w' /\ Chg M w M' w') a w
/-- A region whose order is drawn. -/
structure ADraw (P : Program) (c : Cfg) (ops : Array Oper) (K : Fr -> Store -> Prop) (A : Fr) (st : Store) : Prop where
  out : ∀ id, AWp P c (.region id ops true) (fun e A' st' => match e with | .normal => K A' st' | _ => False) A st
def zns (next : Fr -> Store -> Prop) (Q : Exit -> Fr -> Store -> Prop) : Exit -> Fr -> Store -> Prop
  | .normal => next
  | e => Q e
def zaa (id : Nat) (Q : Exit -> Fr -> Store -> Prop) : Exit -> Fr -> Store -> Prop
  | .exit id' => bif Nat.beq id' id then Q .normal else Q (.exit id')
  | e => Q e
def zi7 (Q : Exit -> Fr -> Store -> Prop) : Exit -> Fr -> Store -> Prop
  | .goto _ => fun _ _ => False
  | e => Q e
def vc (P : Program) (c : Cfg) : Code -> (Exit -> Fr -> Store -> Prop) -> Fr -> Store -> Prop
  | .skip, Q, A, st => Q .normal A st
  | .region _ ops draw, Q, A, st => match draw with
    | false => wt P c ops (Q .normal) ops.toList A st
    | true => ADraw P c ops (Q .normal) A st
  | .seq a b, Q, A, st => vc P c a (zns (vc P c b Q) Q) A st
  | .cond x a b, Q, A, st => match A.ev x with
    | .av (.s (.bool t)) => v7 t (vc P c a Q A st) (vc P c b Q A st)
    | _ => False
  | .block id b, Q, A, st => vc P c b (zaa id Q) A st
  | .loop b, Q, A, st => AWp P c (.loop b) Q A st
  | .exit id, Q, A, st => Q (.exit id) A st
  | .scope b, Q, A, st => vc P c b (zi7 Q) A st
  | .label _, Q, A, st => Q .normal A st
  | .ret, Q, A, st => Q .ret A st
  | _, _, _, _ => False
section
variable {P : Program} {c : Cfg}
theorem Fr.put_self {A : Fr} {d : Nat} {x : LV} (h : A.t d = x) : A.put d x = A := by
  unfold Fr.put
  congr
  funext i
  by_cases hi : i = d
  · subst hi; simp [h]
  · simp [nbeq hi]
theorem zb3 {ops : Array Oper} {tmps : Array Value} {j t : Nat} {b : Bool} (hd : (ops[j]?).bind (·.dst) = some t) (h : tmps.getD t undef = .bool b) : yielded ops tmps j = some b := by
  unfold yielded
  rw [hd]
  simp only [Option.bind_some]
  rw [Array.getD_eq_getD_getElem?] at h
  cases ht : tmps[t]? with
  | none => rw [ht] at h; simp [undef] at h
  | some v => rw [ht] at h; simp at h; subst h; rfl
theorem zd3 {ops : Array Oper} {tmps : Array Value} {j t : Nat} (hd : (ops[j]?).bind (·.dst) = some t) (h : tmps.getD t undef = undef) : yielded ops tmps j = none := by
  unfold yielded
  rw [hd]
  simp only [Option.bind_some]
  rw [Array.getD_eq_getD_getElem?] at h
  cases ht : tmps[t]? with
  | none => rfl
  | some v => rw [ht] at h; simp at h; subst h; rfl
theorem zew {o : Oper} {a : Act} {w : World} {K K' : Act -> World -> Prop} {Q Q' : Exit -> Act -> World -> Prop} (hk : ∀ a w, K a w -> K' a w) (hn : ∀ e a w, e ≠ .normal -> ¬ Q e a w) (h : o.wpIn c.F 0 P a w K Q) : o.wpIn c.F 0 P a w K' Q' := by
  refine ⟨h.1, ?_⟩
  have h := h.2
  generalize (o.semAt c.F.round a.eval).run P w = r at *
  have nq : ∀ (e : Exit) (a : Act) (w : World) {p : Prop}, e ≠ .normal -> Q e a w -> p := fun e a w p hne h => (hn e a w hne h).elim
  cases r with
  | ok x w' =>
    cases x <;> simp only [Oper.uponIn] at h ⊢ <;>
      first
        | exact hk _ _ h
        | exact ⟨h.1, CallsIn.mono h.2 (fun e w'' he => by
            cases e with
            | returned v => exact hk _ _ he
            | panicked ch => exact nq _ _ _ (by simp) he
            | outgrown => obtain ⟨a2, w2, h2⟩ := he; exact nq _ _ _ (by simp) h2)⟩
        | exact ⟨h.1, RowsIn.mono h.2 (fun _ _ he => hk _ _ he)⟩
        | exact ⟨h.1, RoundIn.mono h.2 (fun e w'' he => by
            cases e with
            | returned v => exact hk _ _ he
            | panicked ch => exact nq _ _ _ (by simp) he
            | outgrown => obtain ⟨a2, w2, h2⟩ := he; exact nq _ _ _ (by simp) h2)⟩
        | exact h
  | halt x w' => cases x <;> simp only [Oper.uponIn] at h ⊢ <;> first | exact nq _ _ _ (by simp) h | exact h
theorem zey (hI : zp P c.I) (ops : Array Oper) (K : Fr -> Store -> Prop) : ∀ (l : List Oper) (A : Fr) (st : Store), wt P c ops K l A st ->
    ∀ Oth M a w, Sim c.n Oth A st M a w -> wpListIn c.F 0 P ops (fun e a' w' => e = .normal /\ ∃ A' st' M', K A' st' /\ Sim c.n Oth A' st' M' a' w' /\ Chg M w M' w') l a w := by
  intro l
  induction l with
  | nil => intro A st h Oth M a w sim; exact ⟨rfl, A, st, M, h, sim, Chg.refl M w⟩
  | cons o rest ih =>
    intro A st h Oth M a w sim
    have mono : ∀ (M' : Nat -> Nat -> Prop) (w' : World) (a' : Act) (A' : Fr) (st' : Store), wt P c ops K rest A' st' -> Sim c.n Oth A' st' M' a' w' -> Chg M w M' w' ->
        wpListIn c.F 0 P ops (fun e a' w' => e = .normal /\ ∃ A' st' M', K A' st' /\ Sim c.n Oth A' st' M' a' w' /\ Chg M w M' w') rest a' w' := by
      intro M' w' a' A' st' h1 h2 h3
      have := ih A' st' h1 Oth M' a' w' h2
      clear h h1
      -- weaken the post
      have wm : ∀ (l : List Oper) (a w0) (Q Q' : Exit -> Act -> World -> Prop), (∀ e a w, Q e a w -> Q' e a w) -> (∀ e a w, e ≠ .normal -> ¬ Q e a w) -> wpListIn c.F 0 P ops Q l a w0 -> wpListIn c.F 0 P ops Q' l a w0 := by
        intro l
        induction l with
        | nil => intro a w0 Q Q' hq _ h; exact hq _ _ _ h
        | cons o l ihl =>
          intro a w0 Q Q' hq hn h
          unfold wpListIn at h ⊢
          split
          · rename_i hw
            rw [if_pos hw] at h
            exact zew (fun a w h => ihl a w Q Q' hq hn h) (fun e a w hne h => hn e a w hne h) h
          · rename_i hw
            rw [if_neg hw] at h
            exact ⟨fun _ _ => Tv, ihl _ _ _ _ hq hn h.2⟩
      refine wm rest a' w' _ _ ?_ ?_ this
      · rintro e a w ⟨he, A', st', M'', h4, h5, h6⟩
        exact ⟨he, A', st', M'', h4, h5, h3.trans h6⟩
      · rintro e a w hne ⟨he, _⟩
        exact hne he
    -- an operation that is carried out
    have go : ∀ A1, zgs P c o (wt P c ops K rest) A1 st -> Sim c.n Oth A1 st M a w -> Region.wanted o (yielded ops a.tmps) = true ->
        wpListIn c.F 0 P ops (fun e a' w' => e = .normal /\ ∃ A' st' M', K A' st' /\ Sim c.n Oth A' st' M' a' w' /\ Chg M w M' w') (o :: rest) a w := by
      intro A1 h1 sim1 hw
      unfold wpListIn
      rw [if_pos hw]
      exact zew (fun a' w' ⟨A', st', M', h3, h4, h5⟩ => mono M' w' a' A' st' h3 h4 h5) (fun _ _ _ _ h => h) (zh2 hI h1 Oth M a w sim1)
    have skip : ∀ A1, (ziq c o A1 fun A' => wt P c ops K rest A' st) -> Sim c.n Oth A1 st M a w -> Region.wanted o (yielded ops a.tmps) = false ->
        wpListIn c.F 0 P ops (fun e a' w' => e = .normal /\ ∃ A' st' M', K A' st' /\ Sim c.n Oth A' st' M' a' w' /\ Chg M w M' w') (o :: rest) a w := by
      intro A1 h1 sim1 hw
      unfold wpListIn
      rw [if_neg (by rw [hw]; simp)]
      refine ⟨fun _ _ => Tv, ?_⟩
      obtain ⟨β, sim1⟩ := sim1
      unfold ziq putO at h1
      cases hd : o.dst with
      | none => rw [hd] at h1; exact mono M w _ A1 st h1 ⟨β, sim1⟩ (Chg.refl _ _)
      | some d =>
        rw [hd] at h1
        obtain ⟨hlt, h1⟩ := yr h1
        exact mono M w _ _ st h1 ⟨β, sim1.put hlt (x := .und) rfl⟩ (Chg.refl _ _)
    unfold wt at h
    cases hg : o.guard with
    | none =>
      rw [hg] at h
      exact go A h sim (by simp [Region.wanted, hg])
    | some jw =>
      obtain ⟨j, want⟩ := jw
      rw [hg] at h
      obtain ⟨t, ht, h⟩ := zd h
      have hwant : ∀ y, yielded ops a.tmps j = y -> Region.wanted o (yielded ops a.tmps) = (y == some want) := fun y hy => by simp [Region.wanted, hg, hy]
      split at h
      · rename_i b hb
        have htv : a.tmps.getD t undef = .bool b := by
          obtain ⟨β, s⟩ := sim
          have := s.tm t
          rw [hb] at this
          exact VRel.eq_s this
        have hw := hwant _ (zb3 ht htv)
        cases b with
        | true =>
          rw [Fr.put_self (A := A) (x := qt true) hb] at h
          cases want with
          | true => exact go A h sim (by rw [hw]; rfl)
          | false => exact skip A h sim (by rw [hw]; rfl)
        | false =>
          rw [Fr.put_self (A := A) (x := qt false) hb] at h
          cases want with
          | true => exact skip A h sim (by rw [hw]; rfl)
          | false => exact go A h sim (by rw [hw]; rfl)
      · rename_i hb
        have htv : a.tmps.getD t undef = undef := by
          obtain ⟨β, s⟩ := sim
          have := s.tm t
          rw [hb] at this
          exact this
        exact skip A h sim (by rw [hwant _ (zd3 ht htv)]; rfl)
      · exact h.elim
end
end Go.V
namespace Go.V
section
variable {P : Program} {c : Cfg}
theorem Code.wpF_mono {F : Fence} {code : Code} {Q Q' : Exit -> Act -> World -> Prop} {a : Act} {w : World} (hq : ∀ e a w, Q e a w -> Q' e a w) (h : code.wpIn F 0 P Q a w) : code.wpIn F 0 P Q' a w := wpIn_mono h hq
theorem xd {F : Fence} {n : Nat} {code : Code} {Q : Exit -> Act -> World -> Prop} {a : Act} {w : World} (h : code.wpIn F n P (Exit.noGoto Q) a w) : (Code.scope code).wpIn F n P Q a w := by
  intro b k cs hro hb hr
  have s1 : step P (lone (b.atR a (.code (.scope code) :: k)) cs w) = .next (lone (b.atR a (.code code :: .inScope code :: k)) cs w) := step_lone_go (by simp [stepG, stepG.exec, Frame.atR])
  have h0 : (lone (b.atR a (.code (.scope code) :: k)) cs w).fenced P F := fenced_calm hb hr rfl
  obtain ⟨e, a₁, w₁, hq, harr⟩ := h b (.inScope code :: k) cs hro hb hr
  cases e with
  | normal =>
    have s2 : step P (lone (b.atR a₁ (.inScope code :: k)) cs w₁) = .next (lone (b.atR a₁ k) cs w₁) := step_lone_go (by simp [stepG, stepG.exec, Frame.atR])
    exact ⟨.normal, a₁, w₁, hq, .head h0 s1 (StepsIn.trans harr (.one (fenced_calm hb hr rfl) s2))⟩
  | exit id =>
    have hx : exitTo id (.inScope code :: k) = exitTo id k := by simp [exitTo]
    exact ⟨.exit id, a₁, w₁, hq, fun k' hk => .head h0 s1 (harr.1 k' (by rw [hx]; exact hk)), fun hr' hk => let ⟨k₁, h1, h2⟩ := harr.2 hr' (by rw [hx]; exact hk); ⟨k₁, h1, .head h0 s1 h2⟩⟩
  | goto l => exact hq.elim
  | ret => exact ⟨_, a₁, w₁, hq, .of_steps (.one h0 s1) harr⟩
  | panic ch => exact ⟨_, a₁, w₁, hq, .of_steps (.one h0 s1) harr⟩
  | outgrown => exact ⟨_, a₁, w₁, hq, .of_steps (.one h0 s1) harr⟩
theorem AWp.mono {code : Code} {Q Q' : Exit -> Fr -> Store -> Prop} {A : Fr} {st : Store} (h : AWp P c code Q A st) (hq : ∀ e A st, Q e A st -> Q' e A st) : AWp P c code Q' A st :=
  ⟨fun Oth M a w sim => Code.wpF_mono (fun e a' w' ⟨A', st', M', h1, h2, h3⟩ => ⟨A', st', M', hq _ _ _ h1, h2, h3⟩) (h.out Oth M a w sim)⟩
theorem zh7 {F : Fence} {ops : Array Oper} {id : Nat} {Q : Exit -> Act -> World -> Prop} {R : Act -> World -> Prop} {a : Act} {w : World} (h : wpListIn F 0 P ops (fun e a' w' => e = .normal /\ R a' w') ops.toList a w) (hq : ∀ a w, R a w -> Q .normal a w) : (Code.region id ops false).wpIn F 0 P Q a w :=
  Code.wpF_mono (fun e a' w' ⟨he, hr⟩ => by subst he; exact hq _ _ hr) (wpIn_region_list h)
theorem zcj (hI : zp P c.I) : ∀ (code : Code) (Q : Exit -> Fr -> Store -> Prop) (A : Fr) (st : Store), vc P c code Q A st -> AWp P c code Q A st := by
  intro code
  induction code with
  | skip => intro Q A st h; exact ⟨fun Oth M a w sim => wpIn_skip ⟨A, st, M, h, sim, Chg.refl _ _⟩⟩
  | region id ops draw =>
    intro Q A st h
    cases draw with
    | false => exact ⟨fun Oth M a w sim => zh7 (zey hI ops (Q .normal) ops.toList A st h Oth M a w sim) fun _ _ h => h⟩
    | true => exact (ADraw.out h id).mono fun e A' st' h' => by cases e <;> first | exact h' | exact h'.elim
  | seq x y ihx ihy =>
    intro Q A st h
    refine ⟨fun Oth M a w sim => wpIn_seq ?_⟩
    refine Code.wpF_mono ?_ ((ihx _ A st h).out Oth M a w sim)
    rintro e a' w' ⟨A', st', M', h1, h2, h3⟩
    cases e with
    | normal =>
      refine Code.wpF_mono ?_ ((ihy _ A' st' h1).out Oth M' a' w' h2)
      rintro e a'' w'' ⟨A'', st'', M'', h4, h5, h6⟩
      exact ⟨A'', st'', M'', h4, h5, h3.trans h6⟩
    | _ => exact ⟨A', st', M', h1, h2, h3⟩
  | cond x p q ihp ihq =>
    intro Q A st h
    simp only [vc] at h
    split at h
    · rename_i t ht
      refine ⟨fun Oth M a w sim => ?_⟩
      have hv : a.eval x = .bool t := by
        obtain ⟨β, s⟩ := sim
        exact VRel.eq_s (zy s.env ht)
      refine wpIn_cond hv ?_
      cases t with
      | true => exact (ihp Q A st h).out Oth M a w sim
      | false => exact (ihq Q A st h).out Oth M a w sim
    · exact h.elim
  | block id b ih =>
    intro Q A st h
    refine ⟨fun Oth M a w sim => wpIn_block ?_⟩
    refine Code.wpF_mono ?_ ((ih _ A st h).out Oth M a w sim)
    rintro e a' w' ⟨A', st', M', h1, h2, h3⟩
    cases e with
    | exit id' =>
      simp only [zaa] at h1
      simp only [Exit.inBlock]
      by_cases he : id' = id
      · subst he
        simp only [Nat.beq_refl, cond_true] at h1
        rw [if_pos rfl]
        exact ⟨A', st', M', h1, h2, h3⟩
      · simp only [nbeq he, cond_false] at h1
        rw [if_neg he]
        exact ⟨A', st', M', h1, h2, h3⟩
    | _ => exact ⟨A', st', M', h1, h2, h3⟩
  | loop b ih => intro Q A st h; exact h
  | rangeFunc f ps x y ihx ihy => intro Q A st h; exact h.elim
  | exit id => intro Q A st h; exact ⟨fun Oth M a w sim => wpIn_exit ⟨A, st, M, h, sim, Chg.refl _ _⟩⟩
  | scope b ih =>
    intro Q A st h
    refine ⟨fun Oth M a w sim => xd ?_⟩
    refine Code.wpF_mono ?_ ((ih _ A st h).out Oth M a w sim)
    rintro e a' w' ⟨A', st', M', h1, h2, h3⟩
    cases e with
    | goto l => exact h1.elim
    | _ => exact ⟨A', st', M', h1, h2, h3⟩
  | label l => intro Q A st h; exact ⟨fun Oth M a w sim => wpIn_label ⟨A, st, M, h, sim, Chg.refl _ _⟩⟩
  | goto l => intro Q A st h; exact h.elim
  | ret => intro Q A st h; exact ⟨fun Oth M a w sim => wpIn_ret ⟨A, st, M, h, sim, Chg.refl _ _⟩⟩
  | refuse s => intro Q A st h; exact h.elim
/-- What the result variables hold. -/
def resK (c : Cfg) (A : Fr) (st : Store) : List ResultVar -> (List AV -> Prop) -> Prop
  | [], K => K []
  | .tmp t :: rest, K => match A.t t with
    | .av x => resK c A st rest fun l => K (x :: l)
    | _ => False
  | .cell p t :: rest, K => optK (c.I t) fun i => vk A.bx st (A.t p) fun l => optK (je i l) fun x => resK c A st rest fun l => K (x :: l)
def ztl : List AV -> AV
  | [x] => x
  | l => .tup l
def retK (c : Cfg) (rs : List ResultVar) (R : AV -> Store -> Prop) (A : Fr) (st : Store) : Prop :=
  resK c A st rs fun l => ∃ r st', AV.le (ztl l) r /\ st.Has st' /\ R r st'
def retQ (c : Cfg) (rs : List ResultVar) (R : AV -> Store -> Prop) : Exit -> Fr -> Store -> Prop
  | .normal => retK c rs R
  | .ret => retK c rs R
  | _ => fun _ _ => False
def argT (args : List AV) (i : Nat) : LV :=
  match args, i with
  | [], _ => .und
  | x :: _, 0 => .av x
  | _ :: l, i + 1 => argT l i
def za3 (args : List AV) : Fr := ⟨argT args, fun _ => none⟩
theorem zov (args : List AV) (i : Nat) : argT args i = match args[i]? with | some x => .av x | none => .und := by
  induction args generalizing i with
  | nil => simp [argT]
  | cons x l ih =>
    cases i with
    | zero => simp [argT]
    | succ i => simp [argT, ih]
theorem zg1 (hI : zp P c.I) {w : World} {T : Nat -> Nat -> Prop} {β : Nat -> Nat} {A : Fr} {st : Store} {a : Act} (he : Env w T β A.ev A.bx st a.eval) : ∀ (rs : List ResultVar) (K : List AV -> Prop), resK c A st rs K ->
    ∃ l vs, K l /\ (rs.mapM (m := Sem) fun | .tmp t => pure (a.tmps.getD t undef) | .cell p t => do loadVar t (<- asAddr (a.tmps.getD p undef))).run P w = .ok vs w /\ Reads w T l vs := by
  intro rs
  induction rs with
  | nil => intro K h; exact ⟨[], [], h, by simp, Reads.nil⟩
  | cons r rs ih =>
    intro K h
    cases r with
    | tmp t =>
      simp only [resK] at h
      split at h
      · rename_i x hx
        obtain ⟨l, vs, h1, h2, h3⟩ := ih _ h
        refine ⟨x :: l, a.tmps.getD t undef :: vs, h1, by simp only [List.mapM_cons, Sem.run_bind, Sem.run_pure, Result.andThen_ok, h2], Reads.cons ?_ h3⟩
        have := he.ev (.tmp t)
        simp only [Fr.ev, hx] at this
        exact this
      · exact h.elim
    | cell p t =>
      simp only [resK] at h
      obtain ⟨i, hi, h⟩ := zd h
      obtain ⟨cl, hcl, _, hs⟩ := vj (ev := A.ev) h
      obtain ⟨x, hx, hcl⟩ := zd hcl
      obtain ⟨b, off, hv, hav⟩ := hs w T β a.eval he _ (he.ev (.tmp p))
      obtain ⟨v, hr, hvr⟩ := ve (P := P) (hI _ _ hi) hav hx
      obtain ⟨l, vs, h1, h2, h3⟩ := ih _ hcl
      have hv' : a.tmps.getD p undef = .pointer (some ⟨b, off, none⟩) := hv
      refine ⟨x :: l, v :: vs, h1, ?_, Reads.cons hvr h3⟩
      have ha : (asAddr (a.tmps.getD p undef)).run P w = .ok ⟨b, off, none⟩ w := by rw [hv']; rfl
      simp only [List.mapM_cons, Sem.run_bind, ha, Sem.run_pure, Result.andThen_ok, hr, h2]
theorem zix {w : World} {T : Nat -> Nat -> Prop} {l : List AV} {vs : List Value} (h : Reads w T l vs) : VRel w T (ztl l) (if h : vs.toArray.size = 1 then vs.toArray[0] else .tuple vs.toArray) := by
  obtain ⟨hl, hr⟩ := h
  match l, vs, hl with
  | [x], [v], _ => exact hr 0 x v rfl rfl
  | [], [], _ => exact zz ⟨rfl, hr⟩
  | x :: y :: l, u :: v :: vs, hl =>
    have : ¬ (u :: v :: vs).toArray.size = 1 := by simp
    rw [dif_neg this]
    exact zz ⟨by simpa using hl, by simpa using hr⟩
/-- A block of the heap is another object. -/
def putH (w : World) (b : Nat) (o : Obj) : World := { w with heap := w.heap.setIfInBounds b o }
theorem zdu {w : World} {b : Nat} {o : Obj} (h : b < w.heap.size) : (putH w b o).heap[b]? = some o := by simp [putH, h]
theorem zfg {w : World} {b k : Nat} {o : Obj} (h : k ≠ b) : (putH w b o).heap[k]? = w.heap[k]? := by
  simp [putH, Array.getElem?_setIfInBounds_ne (Ne.symm h)]
theorem zi1 {w : World} {b : Nat} {o : Obj} : (putH w b o).heap.size = w.heap.size := by simp [putH]
theorem zn6 {w : World} {b : Nat} (h : w.heap[b]? = some (.deferred (some []))) : (Instr.takeDeferred b).run P w = .ok [] (putH w b (.deferred none)) := by
  simp [Instr.takeDeferred, getObj, setObj, Sem.run_bind, Sem.run, h, Result.andThen, putH]
/-- Some blocks of deferred calls are shut, nothing else. -/
structure Shut (Oth M : Nat -> Nat -> Prop) (w w' : World) : Prop where
  size : w'.heap.size = w.heap.size
  blk : ∀ b, w'.heap[b]? = w.heap[b]? \/ (w.heap[b]? = some (.deferred (some [])) /\ w'.heap[b]? = some (.deferred none) /\ ∀ o, ¬ M b o /\ ¬ Oth b o)
  tape : w'.tape = w.tape
  os : w'.os = w.os
  output : w'.output = w.output
theorem Shut.keeps {Oth M : Nat -> Nat -> Prop} {w w' : World} (h : Shut Oth M w w') (T : Nat -> Nat -> Prop) : Keeps w T w' T where
  cell b o c hc _ := by
    rcases h.blk b with e | ⟨e, _, _⟩
    · rw [ya e]; exact hc
    · simp [World.cell?, e] at hc
  out _ _ _ _ hT := hT
  shp b c e fr hw := by
    rcases h.blk b with e' | ⟨e', _, _⟩
    · exact ⟨c, fr, by rw [e']; exact hw, rfl⟩
    · rw [e'] at hw; cases hw
theorem Shut.sto {Oth M : Nat -> Nat -> Prop} {w w' : World} {st : Store} (h : Shut Oth M w w') (s : StoreOK st Oth M w) : StoreOK st Oth M w' where
  obj b x hx := by
    have h1 := s.obj b x hx
    refine ⟨ObjRel.same h1.1 (h.keeps _) ?_, h1.2⟩
    rcases h.blk b with e | ⟨_, _, e⟩
    · exact e
    · exact absurd (h1.2 0) (e 0).1
  tok b top ht := by
    obtain ⟨c, e, fr, h1, h2, h3, h4⟩ := s.tok b top ht
    refine ⟨c, e, fr, ?_, h2, h3, h4⟩
    rcases h.blk b with e' | ⟨e', _, _⟩
    · rw [e']; exact h1
    · rw [e'] at h1; cases h1
  mlt b o hm := by rw [h.size]; exact s.mlt b o hm
  olt b o hm := by rw [h.size]; exact s.olt b o hm
  dis := s.dis
/-- On the way out: mark by mark. -/
theorem zdz {Oth M : Nat -> Nat -> Prop} {fn : Func} {tmps : Array Value} {R : Ending -> World -> Prop} : ∀ (ds : List Deferred) (w : World), Marks Oth M w ds ->
    (∀ w', Shut Oth M w w' -> ∃ v, (results fn tmps).run P w' = .ok v w' /\ R (.returned v) w') -> LeavesInM Fence.wide 0 P fn tmps R ds .returning w := by
  intro ds
  induction ds with
  | nil => intro w _ h; exact h w ⟨rfl, fun _ => .inl rfl, rfl, rfl, rfl⟩
  | cons d ds ih =>
    intro w hm h
    obtain ⟨D, rfl, h1, h2⟩ := hm.all d (List.mem_cons_self)
    have hnd := List.pairwise_cons.1 hm.nd
    have hne : ∀ d' ∈ ds, ∀ D', d' = { target := .collected D', args := #[] } -> D' ≠ D := fun d' hd' D' e e2 => hnd.1 d' hd' (by rw [e, e2])
    refine ⟨by simp, .inl ⟨D, putH w D (.deferred none), rfl, zn6 h1, ih _ ⟨hnd.2, fun d' hd' => ?_⟩ fun w' hs => h w' ?_⟩⟩
    · obtain ⟨D', e, h3, h4⟩ := hm.all d' (List.mem_cons_of_mem _ hd')
      exact ⟨D', e, (zfg (hne d' hd' D' e)).trans h3, h4⟩
    · refine ⟨hs.size.trans zi1, fun b => ?_, hs.tape, hs.os, hs.output⟩
      by_cases hb : b = D
      · subst hb
        refine .inr ⟨h1, ?_, h2⟩
        rcases hs.blk b with e | ⟨e, _, _⟩
        · rw [e]; exact zdu (zn h1)
        · rw [zdu (zn h1)] at e; cases e
      · rcases hs.blk b with e | ⟨e, e2, e3⟩
        · exact .inl (e.trans (zfg hb))
        · exact .inr ⟨(zfg hb).symm.trans e, e2, e3⟩
/-- What may not be written of a block that is there: also what lies behind its cells. -/
def othX (Oth M : Nat -> Nat -> Prop) (w : World) : Nat -> Nat -> Prop := fun b o => Oth b o \/ (b < w.heap.size /\ ¬ M b o /\ ∀ c e fr, w.heap[b]? = some (.cells c e fr) -> c.size <= o)
theorem zbx {Oth M : Nat -> Nat -> Prop} (w : World) : Keeps w (fun b o => M b o \/ Oth b o) w (fun b o => M b o \/ othX Oth M w b o) where
  cell _ _ _ h _ := h
  out b o v hc hT := by
    rintro (h | h | ⟨_, _, h⟩)
    · exact hT (.inl h)
    · exact hT (.inr h)
    · unfold World.cell? at hc
      cases hb : w.heap[b]? with
      | none => simp [hb] at hc
      | some x =>
        cases x with
        | cells c e fr =>
          have h1 := h c e fr hb
          simp [hb] at hc
          have := (Array.getElem?_eq_some_iff.1 hc).1
          omega
        | _ => simp [hb] at hc
  shp b c e fr h := ⟨c, fr, h, rfl⟩
theorem zoa {Oth M : Nat -> Nat -> Prop} {w : World} {st : Store} (s : StoreOK st Oth M w) : StoreOK st (othX Oth M w) M w where
  obj b x hx := ⟨ObjRel.same (s.obj b x hx).1 (zbx w) rfl, (s.obj b x hx).2⟩
  tok := s.tok
  mlt := s.mlt
  olt b o h := h.elim (s.olt b o) fun h => h.1
  dis b o h := h.elim (s.dis b o) fun h => h.2.1
theorem zi4 {Oth M : Nat -> Nat -> Prop} {w : World} {st : Store} {R : AV -> Store -> Prop} {r : AV} {v : Value} {st' : Store} {M' : Nat -> Nat -> Prop} {w' w'' : World} (s : StoreOK st Oth M w) (hR : R r st') (hr : VRel w'' (fun b o => M' b o \/ othX Oth M w b o) r v)
    (sto : StoreOK st' (othX Oth M w) M' w') (hc : Chg M w M' w') (hs : Shut (othX Oth M w) M' w' w'') : zl st R Oth M w v w'' := by
  have hT : ∀ b o, (M' b o \/ Oth b o) -> (M' b o \/ othX Oth M w b o) := fun b o h => h.imp id .inl
  have sto' := hs.sto sto
  refine ⟨r, st', M', hR, hr.mono hT, ⟨fun b x hx => ⟨(sto'.obj b x hx).1.mono hT, (sto'.obj b x hx).2⟩, sto'.tok, sto'.mlt, fun b o h => sto'.olt b o (.inl h), fun b o h => sto'.dis b o (.inl h)⟩, ?_⟩
  refine { size := by rw [hs.size]; exact hc.size, keep := fun b o hb hm => ?_, blk := fun b hb hm => ?_, shp := fun b c e fr hw => ?_, sub := hc.sub, tape := hs.tape.trans hc.tape, os := hs.os.trans hc.os, output := hs.output.trans hc.output }
  · rw [<- hc.keep b o hb hm]
    rcases hs.blk b with e | ⟨e, e2, _⟩
    · exact ya e o
    · simp [World.cell?, e, e2]
  · rcases hs.blk b with e | ⟨_, _, e⟩
    · exact e.trans (hc.blk b hb hm)
    · exfalso
      cases hx : w.heap[b]? with
      | none =>
        rw [Array.getElem?_eq_none_iff] at hx
        omega
      | some x =>
        cases x with
        | cells c e1 fr => exact (e c.size).2 (.inr ⟨hb, hm _, fun c' e' fr' h => by rw [hx] at h; cases h; exact Nat.le_refl _⟩)
        | _ => exact (e 0).2 (.inr ⟨hb, hm _, fun c' e' fr' h => by rw [hx] at h; cases h⟩)
  · obtain ⟨c', fr', h1, h2⟩ := hc.shp b c e fr hw
    refine ⟨c', fr', ?_, h2⟩
    rcases hs.blk b with e' | ⟨e', _, _⟩
    · rw [e']; exact h1
    · rw [e'] at h1; cases h1
theorem ACalls.of_awp (hI : zp P c.I) {g : FuncId} {fn : Func} {code : Code} {args : List AV} {st : Store} {R : AV -> Store -> Prop} (hf : P.funcs[g]? = some fn) (hb : fn.body = some code) (hname : (fn.name == "runtime.NumGoroutine") = false)
    (hn : fn.ntmps = c.n) (hlen : Nat.ble args.length c.n = true) (h : AWp P c code (retQ c fn.results.toList R) (za3 args) st) (hround : c.round = none := by rfl) : ACalls P g args st R := by
  refine ⟨fun Oth M w vs sto hr => ?_⟩
  have hrun : (callFunc g vs).run P w = .ok (.enter g vs) w := by
    have hne : ¬ fn.name = "runtime.NumGoroutine" := by simpa using hname
    simp [callFunc, run_program, hf, hne, hb]
  rw [hrun]
  simp only [zah]
  have hF : c.F = Fence.wide := by unfold Cfg.F; rw [hround]; rfl
  refine (callsIn_wide (n := 0)).1 (callsIn_of_wp_marks hf hb trivial ?_)
  have hle : args.length <= c.n := Nat.le_of_ble_eq_true hlen
  have hsz : vs.size = args.length := by simpa using hr.1.symm
  let a : Act := { tmps := vs ++ Array.replicate (fn.ntmps - vs.size) undef, defers := [] }
  have sim : SimB c.n (othX Oth M w) (fun _ => 0) (za3 args) st M a w :=
    { tsz := by simp [a, hn]; omega
      dfr := Marks.nil
      tm := fun i => by
        simp only [za3, zov, a]
        rw [Array.getD_eq_getD_getElem?]
        by_cases hi : i < vs.size
        · rw [Array.getElem?_append_left hi, Array.getElem?_eq_getElem hi, List.getElem?_eq_getElem (by omega)]
          exact (hr.2 i _ _ (List.getElem?_eq_getElem (by omega)) (by simp [hi])).keep (zbx w)
        · rw [List.getElem?_eq_none (by omega)]
          simp only [LRel]
          rw [Array.getElem?_append_right (by omega)]
          simp only [Array.getElem?_replicate]
          split <;> rfl
      bx := fun k l hk => by simp [za3] at hk
      inj := fun k k' hk => by simp [za3] at hk
      sep := fun k b hk => by simp [za3] at hk
      sto := zoa sto }
  have h2 := h.out (othX Oth M w) M a w ⟨_, sim⟩
  rw [hF] at h2
  refine Code.wpF_mono ?_ h2
  have fin : ∀ a' w' A' st' M', retK c fn.results.toList R A' st' -> Sim c.n (othX Oth M w) A' st' M' a' w' -> Chg M w M' w' ->
      LeavesInM Fence.wide 0 P fn a'.tmps (fun e w' => ∃ v, e = .returned v /\ zl st R Oth M w v w') a'.defers .returning w' := by
    rintro a' w' A' st' M' hret ⟨β, s⟩ hchg
    refine zdz a'.defers w' s.dfr fun w'' hs => ?_
    have hblk : ∀ b o, M' b o -> w''.heap[b]? = w'.heap[b]? := fun b o hm => by
      rcases hs.blk b with e | ⟨_, _, e⟩
      · exact e
      · exact absurd hm (e o).1
    have he : Env w'' (fun b o => M' b o \/ othX Oth M w b o) β A'.ev A'.bx st' a'.eval :=
      ⟨fun x => (s.ev x).keep (hs.keeps _), fun k l hk => (s.bx k l hk).1.same (hs.keeps _) (hblk _ 0 ((s.bx k l hk).2 0)), fun b x hx => ((hs.sto s.sto).obj b x hx).1⟩
    obtain ⟨l, vs, ⟨r, st'', h1, h2, h3⟩, h4, h5⟩ := zg1 hI he _ _ hret
    refine ⟨_, ?_, _, rfl, zi4 sto h3 (h1 _ _ _ (zix h5)) (s.sto.weaken h2) hchg hs⟩
    unfold results
    rw [Sem.run_bind, Array.mapM_eq_mapM_toList, Sem.run_map]
    exact congrArg (fun r => (Result.andThen (Result.andThen r fun l w => .ok l.toArray w) fun (vs : Array Value) w' => .ok (if h : vs.size = 1 then vs[0] else .tuple vs) w')) h4
  rintro e a' w' ⟨A', st', M', h1, h2, h3⟩
  cases e with
  | normal => exact fin a' w' A' st' M' h1 h2 h3
  | ret => exact fin a' w' A' st' M' h1 h2 h3
  | _ => exact h1.elim
/-- **A function's contract, out of its text.** -/
theorem ACalls.of_body (hI : zp P c.I) {g : FuncId} {fn : Func} {code : Code} {args : List AV} {st : Store} {R : AV -> Store -> Prop} (hf : P.funcs[g]? = some fn) (hb : fn.body = some code) (hname : (fn.name == "runtime.NumGoroutine") = false)
    (hn : fn.ntmps = c.n) (hlen : Nat.ble args.length c.n = true) (h : vc P c code (retQ c fn.results.toList R) (za3 args) st) (hround : c.round = none := by rfl) : ACalls P g args st R :=
  ACalls.of_awp hI hf hb hname hn hlen (zcj hI code _ _ st h) hround
/-- Slots and boxes as they are listed. -/
def zaw (l : List (Nat × LV)) (i : Nat) : LV :=
  match l with
  | [] => .any
  | (j, x) :: l => bif Nat.beq i j then x else zaw l i
def zax (l : List (Nat × List AV)) (i : Nat) : Option (List AV) :=
  match l with
  | [] => none
  | (j, x) :: l => bif Nat.beq i j then some x else zax l i
def mkFr (l : List (Nat × LV)) (b : List (Nat × List AV)) : Fr := ⟨zaw l, zax b⟩
def zhj (A : Fr) : List (Nat × LV) -> Prop
  | [] => True
  | (j, x) :: l => LV.le (A.t j) x /\ zhj A l
def zhk (A : Fr) : List (Nat × List AV) -> Prop
  | [] => True
  | (j, x) :: l => A.bx j = some x /\ zhk A l
theorem zoj {A : Fr} : ∀ {l : List (Nat × LV)}, zhj A l -> ∀ i, LV.le (A.t i) (zaw l i) := by
  intro l
  induction l with
  | nil => intro _ i; exact LV.le_any _
  | cons p l ih =>
    obtain ⟨j, x⟩ := p
    intro h i
    simp only [zaw]
    by_cases hi : i = j
    · subst hi; simp only [Nat.beq_refl, cond_true]; exact h.1
    · simp only [nbeq hi, cond_false]; exact ih h.2 i
theorem zok {A : Fr} : ∀ {l : List (Nat × List AV)}, zhk A l -> ∀ i x, zax l i = some x -> A.bx i = some x := by
  intro l
  induction l with
  | nil => intro _ i x h; simp [zax] at h
  | cons p l ih =>
    obtain ⟨j, y⟩ := p
    intro h i x hx
    simp only [zax] at hx
    by_cases hi : i = j
    · subst hi; simp only [Nat.beq_refl, cond_true] at hx; rw [<- hx]; exact h.1
    · simp only [nbeq hi, cond_false] at hx; exact ih h.2 i x hx
theorem Sim.fits {n : Nat} {Oth M : Nat -> Nat -> Prop} {A : Fr} {st st' : Store} {a : Act} {w : World} (h : Sim n Oth A st M a w) {l : List (Nat × LV)} {b : List (Nat × List AV)} (ht : zhj A l) (hb : zhk A b) (hs : st.Has st') : Sim n Oth (mkFr l b) st' M a w := by
  obtain ⟨β, s⟩ := h
  have hbx : ∀ k x, zax b k = some x -> A.bx k = some x := zok hb
  have hne : ∀ k, zax b k ≠ none -> A.bx k ≠ none := fun k hk => by
    cases hl : zax b k with
    | none => exact absurd hl hk
    | some x => rw [hbx k x hl]; simp
  exact ⟨β,
    { tsz := s.tsz
      dfr := s.dfr
      tm := fun i => zoj ht i _ _ _ _ (s.tm i)
      bx := fun k x hk => s.bx k x (hbx k x hk)
      inj := fun k k' h1 h2 => s.inj k k' (hne k h1) (hne k' h2)
      sep := fun k b hk hb => s.sep k b (hne k hk) (by
        rcases hb with hb | hb
        · cases ho : st'.obj b with
          | none => exact absurd ho hb
          | some x => exact .inl (by rw [hs.obj b x ho]; simp)
        · cases ho : st'.tok b with
          | none => exact absurd ho hb
          | some x => exact .inr (by rw [hs.tok b x ho]; simp))
      sto := s.sto.weaken hs }⟩
theorem AWp.weaken {code : Code} {Q : Exit -> Fr -> Store -> Prop} {A : Fr} {st st' : Store} {l : List (Nat × LV)} {b : List (Nat × List AV)} (h : AWp P c code Q (mkFr l b) st') (ht : zhj A l) (hb : zhk A b) (hs : st.Has st') : AWp P c code Q A st :=
  ⟨fun Oth M a w sim => h.out Oth M a w (sim.fits ht hb hs)⟩
/-- What a loop's head knows: for each 's' the slots, the boxes, and what is said of the store. -/
structure LoopHead (σ : Type) where
  t : σ -> List (Nat × LV)
  bx : σ -> List (Nat × List AV)
  inv : σ -> Store -> Prop
  μ : σ -> Nat
def LoopHead.at {σ : Type} (H : LoopHead σ) (A : Fr) (st : Store) (p : σ -> Prop) : Prop :=
  ∃ s, p s /\ H.inv s st /\ zhj A (H.t s) /\ zhk A (H.bx s)
def ztk {σ : Type} (H : LoopHead σ) (s : σ) (Q : Exit -> Fr -> Store -> Prop) : Exit -> Fr -> Store -> Prop
  | .normal => fun A st => H.at A st fun s' => H.μ s' < H.μ s
  | e => Q e
theorem AWp.loop {σ : Type} (H : LoopHead σ) {b : Code} {Q : Exit -> Fr -> Store -> Prop} {A : Fr} {st : Store} (hI : zp P c.I) (h0 : H.at A st fun _ => True)
    (round : ∀ s st, H.inv s st -> vc P c b (ztk H s Q) (mkFr (H.t s) (H.bx s)) st) : AWp P c (.loop b) Q A st := by
  obtain ⟨s0, _, hi0, ht0, hb0⟩ := h0
  refine ⟨fun Oth M a w sim => ?_⟩
  refine wpIn_loop_ghost (fun n a' w' => ∃ s st' M', H.μ s = n /\ H.inv s st' /\ Sim c.n Oth (mkFr (H.t s) (H.bx s)) st' M' a' w' /\ Chg M w M' w') (H.μ s0)
    ⟨s0, st, M, rfl, hi0, sim.fits ht0 hb0 (Store.Has.refl st), Chg.refl M w⟩ ?_
  rintro n a' w' ⟨s, st', M', rfl, hi, hsim, hchg⟩
  refine Code.wpF_mono ?_ ((zcj hI b _ _ st' (round s st' hi)).out Oth M' a' w' hsim)
  rintro e a'' w'' ⟨A'', st'', M'', h1, h2, h3⟩
  cases e with
  | normal =>
    obtain ⟨s', hlt, hi', ht', hb'⟩ := h1
    exact ⟨H.μ s', hlt, s', st'', M'', rfl, hi', h2.fits ht' hb' (Store.Has.refl st''), hchg.trans h3⟩
  | _ => exact ⟨A'', st'', M'', h1, h2, hchg.trans h3⟩
end
end Go.V
namespace Go.V
section
variable {P : Program} {c : Cfg}
theorem AWp.of_vc (hI : zp P c.I) {code : Code} {Q : Exit -> Fr -> Store -> Prop} {A : Fr} {st : Store} (h : vc P c code Q A st) : AWp P c code Q A st := zcj hI code Q A st h
/-- One piece behind the other: the second one may be cut off. -/
theorem AWp.seq {x y : Code} {Q : Exit -> Fr -> Store -> Prop} {A : Fr} {st : Store} (h : AWp P c x (zns (AWp P c y Q) Q) A st) : AWp P c (.seq x y) Q A st := by
  refine ⟨fun Oth M a w sim => wpIn_seq ?_⟩
  refine Code.wpF_mono ?_ (h.out Oth M a w sim)
  rintro e a' w' ⟨A', st', M', h1, h2, h3⟩
  cases e with
  | normal =>
    refine Code.wpF_mono ?_ ((AWp.out h1) Oth M' a' w' h2)
    rintro e a'' w'' ⟨A'', st'', M'', h4, h5, h6⟩
    exact ⟨A'', st'', M'', h4, h5, h3.trans h6⟩
  | _ => exact ⟨A', st', M', h1, h2, h3⟩
theorem AWp.block {id : Nat} {b : Code} {Q : Exit -> Fr -> Store -> Prop} {A : Fr} {st : Store} (h : AWp P c b (zaa id Q) A st) : AWp P c (.block id b) Q A st := by
  refine ⟨fun Oth M a w sim => wpIn_block ?_⟩
  refine Code.wpF_mono ?_ (h.out Oth M a w sim)
  rintro e a' w' ⟨A', st', M', h1, h2, h3⟩
  cases e with
  | exit id' =>
    simp only [zaa] at h1
    simp only [Exit.inBlock]
    by_cases he : id' = id
    · subst he
      simp only [Nat.beq_refl, cond_true] at h1
      rw [if_pos rfl]
      exact ⟨A', st', M', h1, h2, h3⟩
    · simp only [nbeq he, cond_false] at h1
      rw [if_neg he]
      exact ⟨A', st', M', h1, h2, h3⟩
  | _ => exact ⟨A', st', M', h1, h2, h3⟩
theorem AWp.scope {b : Code} {Q : Exit -> Fr -> Store -> Prop} {A : Fr} {st : Store} (h : AWp P c b (zi7 Q) A st) : AWp P c (.scope b) Q A st := by
  refine ⟨fun Oth M a w sim => xd ?_⟩
  refine Code.wpF_mono ?_ (h.out Oth M a w sim)
  rintro e a' w' ⟨A', st', M', h1, h2, h3⟩
  cases e with
  | goto l => exact h1.elim
  | _ => exact ⟨A', st', M', h1, h2, h3⟩
/-- A place where the ways meet: for each 's' the slots and the boxes that what follows needs. -/
structure Meet (σ : Type) where
  t : σ -> List (Nat × LV)
  bx : σ -> List (Nat × List AV)
  inv : σ -> Store -> Prop
def Meet.at {σ : Type} (H : Meet σ) (A : Fr) (st : Store) : Prop := ∃ s, H.inv s st /\ zhj A (H.t s) /\ zhk A (H.bx s)
/-- Once for all ways: 'x' comes to the place, 'y' goes on from it. -/
theorem AWp.meet {σ : Type} (H : Meet σ) (hI : zp P c.I) {x y : Code} {Q : Exit -> Fr -> Store -> Prop} {A : Fr} {st : Store} (hx : vc P c x (zns H.at Q) A st)
    (hy : ∀ s st', H.inv s st' -> AWp P c y Q (mkFr (H.t s) (H.bx s)) st') : AWp P c (.seq x y) Q A st := by
  refine AWp.seq ((AWp.of_vc hI hx).mono fun e A' st' h => ?_)
  cases e with
  | normal =>
    obtain ⟨s, h1, h2, h3⟩ := h
    exact AWp.weaken (hy s st' h1) h2 h3 (Store.Has.refl st')
  | _ => exact h
end
end Go.V
namespace Go.V
/-- Types of which values are held against one another part by part. -/
def zj2 (P : Program) (t : TypeId) : Bool :=
  !P.stoodInHeld t && !P.eqGuardType P.depth t && (match P.underlying t with | some (.struct fs) => fs.toList.all fun f => f.name != "_" | _ => true)
def zeu (z : Value) (d : Ty) : Bool := match z with | .agg _ => qn d | _ => !qn d
/-- What the tables say of a type. -/
def infoOf (P : Program) (t : TypeId) (eq : Bool) : Option TI :=
  match P.info? t, P.underlying t with
  | some inf, some d => match inf.zero with
    | some z => bif Nat.beq z.cells.toList.length inf.size && (!eq || zj2 P t) && zeu z (tyOf d) then some { ty := tyOf d, size := inf.size, bytes := inf.bytes, zero := z.cells.toList, eq := eq } else none
    | none => none
  | _, _ => none
theorem zjk {P : Program} {t : TypeId} {eq : Bool} {i : TI} (h : infoOf P t eq = some i) : TIok P t i := by
  unfold infoOf at h
  split at h
  · rename_i inf d hinf hd
    split at h
    · rename_i z hz
      cases hb : (Nat.beq z.cells.toList.length inf.size && (!eq || zj2 P t) && zeu z (tyOf d)) with
      | false => rw [hb] at h; cases h
      | true =>
        rw [hb] at h
        simp only [cond_true, Option.some.injEq] at h
        subst h
        simp only [Bool.and_eq_true] at hb
        obtain ⟨⟨h2, h3⟩, h4⟩ := hb
        refine ⟨⟨inf, hinf, rfl, rfl, z, hz, rfl⟩, ⟨d, hd, rfl⟩, (z8 _ _).1 h2, fun inf' z' hi' hz' => ?_, fun he => ?_⟩
        · rw [hinf] at hi'
          cases hi'
          rw [hz] at hz'
          cases hz'
          cases z with
          | agg cs => exact .inl ⟨h4, cs, rfl⟩
          | _ => exact .inr ⟨by simpa [zeu] using h4, rfl⟩
        simp only at he
        subst he
        simp only [Bool.not_true, Bool.false_or, zj2, Bool.and_eq_true, Bool.not_eq_true'] at h3
        obtain ⟨⟨h4, h5⟩, h6⟩ := h3
        refine ⟨h4, h5, fun fs hfs f hf => ?_⟩
        rw [hfs] at h6
        simp only [List.all_eq_true, bne_iff_ne, ne_eq] at h6
        exact h6 f hf
    · cases h
  · cases h
inductive Tr where
  | nil
  | node (k : Nat) (l : Tr) (x : TI) (r : Tr)
def Tr.get : Tr -> Nat -> Option TI
  | .nil, _ => none
  | .node k l x r, t => bif Nat.beq t k then some x else bif Nat.blt t k then l.get t else r.get t
def Tr.all (P : Program) : Tr -> Prop
  | .nil => True
  | .node k l x r => infoOf P k x.eq = some x /\ l.all P /\ r.all P
theorem Tr.ok {P : Program} : ∀ (tr : Tr), tr.all P -> zp P tr.get := by
  intro tr
  induction tr with
  | nil => intro _ t i h; cases h
  | node k l x r ihl ihr =>
    rintro ⟨h1, h2, h3⟩ t i h
    simp only [Tr.get] at h
    by_cases ht : t = k
    · subst ht
      simp only [Nat.beq_refl, cond_true, Option.some.injEq] at h
      subst h
      exact zjk h1
    · simp only [nbeq ht, cond_false] at h
      cases hb : Nat.blt t k with
      | true => rw [hb] at h; exact ihl h2 t i h
      | false => rw [hb] at h; exact ihr h3 t i h
end Go.V
namespace Go.V
/-- A slice that grows by appends: nil at first. -/
def App (k : Nat) (st : Store) (v : AV) (rows : List (List AV)) (st' : Store) : Prop :=
  (v = .s (.slice none 0 0) /\ rows = [] /\ st' = st) \/ Owned k st v rows st'
theorem App.start (k : Nat) (st : Store) : App k st (.s (.slice none 0 0)) [] st := .inl ⟨rfl, rfl, rfl⟩
theorem zfb {st : Store} {b : Nat} {x : Option Nat} (h : st.tok b = none) : (st.setTok b x).setTok b none = st := by
  unfold Store.setTok
  congr
  funext i
  by_cases hi : i = b
  · subst hi; simp [h]
  · simp [nbeq hi]
theorem App.has {k : Nat} {st st' : Store} {v : AV} {rows : List (List AV)} (h : App k st v rows st') : st'.Has st := by
  rcases h with ⟨_, _, rfl⟩ | ⟨_, _, rfl⟩ | ⟨_, b, hb, _, rfl⟩
  · exact Store.Has.refl _
  · exact Store.Has.refl _
  · refine ⟨fun _ _ h => h, fun i x h => ?_⟩
    have : i ≠ b := fun e => by rw [e, hb.2] at h; cases h
    simpa [Store.setTok, nbeq this] using h
theorem App.le {k : Nat} {st st' : Store} {v : AV} {rows : List (List AV)} (h : App k st v rows st') : AV.le v (.lst k rows none) := by
  rcases h with ⟨rfl, rfl, _⟩ | ⟨rfl, rfl, _⟩ | ⟨_, b, hb, rfl, _⟩
  · exact AV.le_nil k
  · intro w T v h
    cases h with
    | emp a h =>
      cases a with
      | none => exact .nil k none
      | some a =>
        obtain ⟨b, off, spot⟩ := a
        have := h _ rfl
        simp only at this
        subst this
        exact VRel.empty w T k b off 0
  · exact AV.le_tok _ _ _
theorem ja {c : Cfg} {st st' : Store} {e : TypeId} {ie : TI} {v : AV} {x : LV} {K : AV -> Store -> Prop} {rows rows' : List (List AV)} (h : App ie.size st v rows st') (hie : c.I e = some ie) (hx : yy ie.size x = some rows')
    (hroom : room (rows.length + rows'.length) ie.bytes) (hK : ∀ v2 st2, App ie.size st v2 (rows ++ rows') st2 -> K v2 st2) {P : Program} (hp : Nat.blt 0 ie.size = true := by rfl) : appendK P c st' e (.av v) x K := by
  refine ⟨.inl (za ie hie ?_)⟩
  rcases h with ⟨rfl, rfl, rfl⟩ | ⟨rfl, rfl, rfl⟩ | ⟨hne, b, hb, rfl, rfl⟩
  · exact za rows' hx ⟨by simpa using hroom, fun v st2 ho => hK v st2 (.inr (by simpa using ho))⟩
  · exact za rows' hx ⟨by simpa using hroom, fun v st2 ho => hK v st2 (.inr (by simpa using ho))⟩
  · show (bif Nat.beq ie.size ie.size && Nat.blt 0 ie.size then _ else False)
    rw [Nat.beq_refl, hp, Bool.and_self, cond_true]
    refine za rows' hx ⟨by simp [Store.setTok], by simpa using hroom, fun v st2 ho => hK v st2 (.inr ?_)⟩
    rwa [zfb hb.2] at ho
end Go.V
namespace Go.V
section
variable {P : Program} {c : Cfg}
theorem zcs {ev ev' : Operand -> LV} {l : List Operand} (h : ∀ x ∈ l, ev' x = ev x) :
    (l.mapM fun x => (ev' x).toAV) = (l.mapM fun x => (ev x).toAV) := by
  induction l with
  | nil => rfl
  | cons a l ih =>
    rw [List.mapM_cons, List.mapM_cons, h a (by simp), ih fun x hx => h x (by simp [hx])]
theorem wc {ev ev' : Operand -> LV} {x : Option Operand} (h : ∀ y ∈ x.toArray, ev' y = ev y) : kh ev' x = kh ev x := by
  cases x with
  | none => rfl
  | some y => simp only [kh]; rw [h y (by simp)]
theorem zf6 {ev : Operand -> LV} {bx : Nat -> Option (List AV)} {st : Store} {d : Nat} {op : Op} {K K' : LV -> Prop} (hI : zp P c.I) (hK : ∀ x, K x -> K' x) (h : vcV c ev bx st d op K) : vcV c ev bx st d op K' := by
  obtain ⟨x, hx, hx', _⟩ := zck hI op h
  exact hx' K' (hK x hx)
theorem zdi {ev ev' : Operand -> LV} {bx : Nat -> Option (List AV)} {st : Store} {d : Nat} {op : Op} {K : LV -> Prop} (h : ∀ x ∈ op.operands, ev' x = ev x) (hv : vcV c ev bx st d op K) : vcV c ev' bx st d op K := by
  cases op <;> simp only [Op.operands] at h <;> first | exact hv | skip
  case move x => simp only [vcV] at hv ⊢; rwa [h x (by simp)]
  case assign x => simp only [vcV] at hv ⊢; rwa [h x (by simp)]
  case pick a b e => simp only [vcV] at hv ⊢; rwa [h a (by simp), h b (by simp), h e (by simp)]
  case load t x => simp only [vcV] at hv ⊢; rwa [h x (by simp)]
  case nilCheck x => simp only [vcV] at hv ⊢; rwa [h x (by simp)]
  case binOp op t x y yt => simp only [vcV] at hv ⊢; rwa [h x (by simp), h y (by simp)]
  case unOp op t x => simp only [vcV] at hv ⊢; rwa [h x (by simp)]
  case convert s t x => simp only [vcV] at hv ⊢; rwa [h x (by simp)]
  case fieldAddr s x f => simp only [vcV] at hv ⊢; rwa [h x (by simp)]
  case field s x f => simp only [vcV] at hv ⊢; rwa [h x (by simp)]
  case indexAddr t x i => simp only [vcV] at hv ⊢; rwa [h x (by simp), h i (by simp)]
  case index t x i => simp only [vcV] at hv ⊢; rwa [h x (by simp), h i (by simp)]
  case extract x i => simp only [vcV] at hv ⊢; rwa [h x (by simp)]
  case slice t x lo hi mx =>
    simp only [vcV] at hv ⊢
    have e1 := wc (ev := ev) (ev' := ev') (x := lo) (fun y hy => h y (by simp [hy]))
    have e2 := wc (ev := ev) (ev' := ev') (x := hi) (fun y hy => h y (by simp [hy]))
    rwa [h x (by simp), e1, e2]
  case build t ps =>
    simp only [vcV] at hv ⊢
    have e : (ps.toList.map fun p => (p.1, ev' p.2)) = (ps.toList.map fun p => (p.1, ev p.2)) := List.map_congr_left fun p hp => by
      rw [h p.2 (by simp; exact ⟨p.1, by simpa using hp⟩)]
    rwa [e]
  case makeFunc f first cap =>
    cases f <;> simp only [vcV] at hv ⊢ <;> try exact hv
    rwa [zcs (ev := ev) (ev' := ev') fun x hx => h x (by simp; exact .inr (by simpa using hx))]
  case call cl =>
    obtain ⟨callee, args, argTypes⟩ := cl
    simp only [vcV, xj] at hv ⊢
    cases callee with
    | value f => exact hv
    | invoke r m => exact hv
    | builtin b =>
      have ha : ∀ x ∈ args, ev' x = ev x := fun x hx => h x (by simp [Call.operands, hx])
      cases b <;> simp only at hv ⊢ <;> try exact hv
      case len =>
        obtain ⟨t, ht, hv⟩ := zd hv
        obtain ⟨i, hi, hv⟩ := zd hv
        obtain ⟨x, hx, hv⟩ := zd hv
        refine za t ht (za i hi (za x hx ?_))
        rwa [ha x (Array.mem_of_getElem? hx)]
      case cap =>
        obtain ⟨t, ht, hv⟩ := zd hv
        obtain ⟨i, hi, hv⟩ := zd hv
        obtain ⟨x, hx, hv⟩ := zd hv
        refine za t ht (za i hi (za x hx ?_))
        rwa [ha x (Array.mem_of_getElem? hx)]
      case min => rwa [show args.toList.map ev' = args.toList.map ev from List.map_congr_left fun x hx => ha x (by simpa using hx)]
      case max => rwa [show args.toList.map ev' = args.toList.map ev from List.map_congr_left fun x hx => ha x (by simpa using hx)]
/-- The operations whose value hangs on nothing but their operands. -/
def zb0 : Op -> Bool
  | .load .. => false
  | .call cl => match cl.callee with | .builtin .min => true | .builtin .max => true | _ => false
  | _ => true
theorem zbr {ev : Operand -> LV} {bx bx' : Nat -> Option (List AV)} {st st' : Store} {d : Nat} {op : Op} {K : LV -> Prop} (hn : zb0 op = true) (hv : vcV c ev bx st d op K) : vcV c ev bx' st' d op K := by
  cases op <;> first | exact hv | skip
  case load t x => simp [zb0] at hn
  case call cl =>
    obtain ⟨callee, args, argTypes⟩ := cl
    simp only [vcV, xj] at hv ⊢
    cases callee with
    | value f => exact hv
    | invoke r m => exact hv
    | builtin b => cases b <;> simp [zb0] at hn <;> exact hv
/-- A slice literal, as a value. -/
def bsK (c : Cfg) (ev : Operand -> LV) (t : TypeId) (n : Nat) (parts : Array (Nat × Operand)) (K : LV -> Prop) : Prop :=
  optK (c.I t) fun i => match i.ty with
    | .slice e => optK (c.I e) fun ie => optK (jt ie.size n (List.replicate n (yv ie)) (parts.toList.map fun p => (p.1, ev p.2))) fun rows =>
      bif rows.flatten.all AV.one then n * ie.size <= 16777216 /\ (match rows with
        | [] => K (.av .emp)
        | _ :: _ => K (.av (.lst ie.size rows none))) else False
    | _ => False
/-- The operations that may be carried out at any time. -/
def vcW (c : Cfg) (ev : Operand -> LV) (bx : Nat -> Option (List AV)) (st : Store) (d : Nat) (op : Op) (K : LV -> Prop) : Prop :=
  match op with
  | .buildSlice t n parts => bsK c ev t n parts K
  | op => vcV c ev bx st d op K
theorem zgg {ev : Operand -> LV} {t : TypeId} {n : Nat} {parts : Array (Nat × Operand)} {K : LV -> Prop} (h : bsK c ev t n parts K) :
    ∃ (i ie : TI) (e : TypeId) (rows : List (List AV)) (x : LV), c.I t = some i /\ i.ty = .slice e /\ c.I e = some ie /\ jt ie.size n (List.replicate n (yv ie)) (parts.toList.map fun p => (p.1, ev p.2)) = some rows /\ rows.flatten.all AV.one = true ∧
      n * ie.size <= 16777216 /\ x = (match rows with | [] => .av .emp | _ :: _ => .av (.lst ie.size rows none)) /\ K x /\ ∀ K' : LV -> Prop, K' x -> bsK c ev t n parts K' := by
  unfold bsK at h
  obtain ⟨i, hi, h⟩ := zd h
  split at h
  · rename_i e hty
    obtain ⟨ie, hie, h⟩ := zd h
    obtain ⟨rows, hrows, h⟩ := zd h
    cases hone : rows.flatten.all AV.one with
    | false => rw [hone] at h; exact h.elim
    | true =>
      rw [hone] at h
      simp only [cond_true] at h
      obtain ⟨hroom, h⟩ := h
      refine ⟨i, ie, e, rows, _, hi, hty, hie, hrows, hone, hroom, rfl, by cases rows <;> exact h, fun K' h' => ?_⟩
      refine za i hi ?_
      simp only [hty]
      refine za ie hie (za rows hrows ?_)
      rw [hone]
      exact ⟨hroom, by cases rows <;> exact h'⟩
  · exact h.elim
theorem zai {ev ev' : Operand -> LV} {bx : Nat -> Option (List AV)} {st : Store} {d : Nat} {op : Op} {K : LV -> Prop} (h : ∀ x ∈ op.operands, ev' x = ev x) (hv : vcW c ev bx st d op K) : vcW c ev' bx st d op K := by
  cases op <;> first | exact zdi (bx := bx) (st := st) (d := d) (K := K) h (show vcV c ev bx st d _ K from hv) | skip
  case buildSlice t n parts =>
    have e : (parts.toList.map fun p => (p.1, ev' p.2)) = (parts.toList.map fun p => (p.1, ev p.2)) := List.map_congr_left fun p hp => by
      rw [h p.2 (by simp [Op.operands]; exact ⟨p.1, by simpa using hp⟩)]
    simp only [vcW] at hv ⊢
    unfold bsK at hv ⊢
    rwa [e]
theorem zgr {ev : Operand -> LV} {bx bx' : Nat -> Option (List AV)} {st st' : Store} {d : Nat} {op : Op} {K : LV -> Prop} (hn : zb0 op = true) (hv : vcW c ev bx st d op K) : vcW c ev bx' st' d op K := by
  cases op <;> first | exact zbr (bx := bx) (st := st) (d := d) (K := K) hn (show vcV c ev bx st d _ K from hv) | exact hv | skip
  case call cl => exact zbr (bx := bx) (bx' := bx') (st := st) (st' := st') (d := d) (op := .call cl) hn hv
end
end Go.V
namespace Go.V
/-- In what order a region is carried out: values at once, then the effects that may come next, each with what follows; 'chk': the operations whose values must stand behind the effect. -/
inductive Sched where
  | done
  | v (i : Nat) (r : Sched)
  | e (i : Nat) (chk : List Nat) (r alt : Sched)
  | stop
def sv : List Nat -> Sched -> Sched
  | [], s => s
  | i :: l, s => .v i (sv l s)
/-- May the operation float? -/
def isV (c : Cfg) (o : Oper) : Bool :=
  match o.op with
  | .alloc _ => false
  | .box _ _ => false
  | .store _ _ _ => false
  | .assign _ => false
  | .convert s t _ => !Nat.beq s t
  | .buildSlice _ _ _ => match o.dst with | some d => !c.G.contains d | none => false
  | .call cl => match cl.callee with
    | .builtin .len => true
    | .builtin .cap => true
    | .builtin .min => true
    | .builtin .max => true
    | _ => false
  | .mapUpdate .. | .insert .. | .mapEntry .. | .entryStore .. | .makeMap .. | .makeSlice .. | .lookup .. | .range .. | .next .. | .entry .. | .makeInterface .. | .typeAssert .. | .select .. | .go .. | .defer .. | .panic .. | .send .. | .recv .. | .ready .. | .waits .. | .makeChan .. => false
  | _ => true
def yl (ops : Array Oper) (i : Nat) : List Nat :=
  match ops[i]? with
  | some o => o.after.toList.filterMap fun e => bif Region.binds .any e then some e.on else none
  | none => []
def mem (i : Nat) : List Nat -> Bool
  | [] => false
  | j :: l => bif Nat.beq i j then true else mem i l
theorem yz (i : Nat) : ∀ (l : List Nat), mem i l = true ↔ i ∈ l := by
  intro l
  induction l with
  | nil => simp [mem]
  | cons j l ih =>
    simp only [mem, List.mem_cons]
    by_cases h : i = j
    · subst h; simp
    · simp [nbeq h, ih, h]
def sub (l m : List Nat) : Bool := l.all fun i => mem i m
/-- The alternatives that a schedule lists from here on. -/
def zes : Sched -> List Nat
  | .e i _ _ alt => i :: zes alt
  | _ => []
/-- What must have been carried out before 'i'. -/
def ziz (ops : Array Oper) (i : Nat) : List Nat :=
  (List.range i).reverse.foldl (fun acc j => bif mem j acc then yl ops j ++ acc else acc) (yl ops i)
/-- What the effect 'i' asks of those that have been taken before it. -/
def zj4 (c : Cfg) (ops : Array Oper) (i : Nat) (chk L : List Nat) : Bool :=
  !mem i L && Nat.blt i ops.size && sub (yl ops i) L && (match ops[i]? with | some o => !isV c o | none => false) &&
  L.all fun j => mem j (ziz ops i) || mem j chk || (match ops[j]?, ops[i]? with
    | some o, some o' => !isV c o || (zb0 o.op && (match o'.op with | .alloc _ => false | .box _ _ => false | _ => true))
    | _, _ => false)
/-- Is the schedule one of the region's, all that may come next listed? -/
def yj (c : Cfg) (ops : Array Oper) : Sched -> List Nat -> Bool -> Bool
  | .done, L, first => first && (List.range ops.size).all fun i => mem i L
  | .v i r, L, first => first && (!mem i L && Nat.blt i ops.size && (match ops[i]? with | some o => isV c o | none => false) && sub (yl ops i) L && yj c ops r (i :: L) true)
  | .e i chk r alt, L, first => zj4 c ops i chk L && yj c ops r (i :: L) true && yj c ops alt L false &&
      (!first || (List.range ops.size).all fun j => mem j L || !sub (yl ops j) L || mem j (i :: zes alt))
  | .stop, _, first => !first
/-- What holds of the operations among themselves. -/
def wu (c : Cfg) (ops : Array Oper) : Bool :=
  (List.range ops.size).all fun i => match ops[i]? with
    | none => false
    | some o => (yl ops i).all (fun j => Nat.blt j i) && (match o.op with | .select .. => false | .defer .. => false | _ => true) && (match o.dst with
      | none => !isV c o
      | some t => Nat.blt t c.n && !mem t (o.looksAt ops) &&
        (List.range ops.size).all fun k => Nat.beq k i || (match ops[k]? with
          | none => false
          | some o' => (match o'.dst with | some t' => !Nat.beq t t' | none => true) && (!mem t (o'.looksAt ops) || mem i (yl ops k) || (!isV c o && mem k (yl ops i)))))
/-- An operation under its guard: carried out, or left out. -/
def wh (ops : Array Oper) (o : Oper) (A : Fr) (go skip : Fr -> Prop) : Prop :=
  match o.guard with
  | none => go A
  | some (j, want) => optK ((ops[j]?).bind (·.dst)) fun t =>
    match A.t t with
    | .av (.s (.bool b)) => v7 b (bif want then go (A.put t (qt true)) else skip (A.put t (qt true))) (bif want then skip (A.put t (qt false)) else go (A.put t (qt false)))
    | .und => skip A
    | _ => False
/-- The operation's value stands. -/
def stands (c : Cfg) (ops : Array Oper) (A : Fr) (st : Store) (i : Nat) : Prop :=
  optK ops[i]? fun o => optK o.dst fun d => wh ops o A (fun A => vcW c A.ev A.bx st d o.op fun x => x = A.t d) (fun A => A.t d = .und)
def xf (c : Cfg) (ops : Array Oper) (A : Fr) (st : Store) : List Nat -> Prop
  | [] => True
  | i :: l => stands c ops A st i /\ xf c ops A st l
def vcDr (P : Program) (c : Cfg) (ops : Array Oper) (K : Fr -> Store -> Prop) : Sched -> Fr -> Store -> Prop
  | .done, A, st => K A st
  | .v i r, A, st => optK ops[i]? fun o => optK o.dst fun d =>
      wh ops o A (fun A => vcW c A.ev A.bx st d o.op fun x => vcDr P c ops K r (A.put d x) st) (fun A => vcDr P c ops K r (A.put d .und) st)
  | .e i chk r alt, A, st => (optK ops[i]? fun o =>
      wh ops o A (fun A => vcOp P c o (fun A' st' => xf c ops A' st' chk /\ vcDr P c ops K r A' st') A st)
        (fun A => putO A c.n o.dst .und fun A' => xf c ops A' st chk /\ vcDr P c ops K r A' st)) /\ vcDr P c ops K alt A st
  | .stop, _, _ => True
end Go.V
namespace Go.V
section
variable {P : Program} {c : Cfg} {ops : Array Oper}
/-- How a guard stands. -/
def qv (ops : Array Oper) (o : Oper) (A : Fr) : Option Bool :=
  match o.guard with
  | none => some true
  | some (j, want) => match (ops[j]?).bind (·.dst) with
    | none => none
    | some t => match A.t t with
      | .av (.s (.bool b)) => some (b == want)
      | .und => some false
      | _ => none
theorem guardK_iff {o : Oper} {A : Fr} {go skip : Fr -> Prop} : wh ops o A go skip ↔ (qv ops o A = some true /\ go A) \/ (qv ops o A = some false /\ skip A) := by
  unfold wh qv
  cases hg : o.guard with
  | none => simp
  | some jw =>
    obtain ⟨j, want⟩ := jw
    simp only
    cases hd : (ops[j]?).bind (·.dst) with
    | none => simp [optK]
    | some t =>
      simp only [optK]
      generalize hy : A.t t = y
      split
      · rename_i b
        cases b with
        | true => rw [Fr.put_self (A := A) (x := qt true) hy]; cases want <;> simp [v7]
        | false => rw [Fr.put_self (A := A) (x := qt false) hy]; cases want <;> simp [v7]
      · simp
      · rename_i h1 h2
        simp
theorem qz {o : Oper} {B : Fr} {st : Store} {n : Nat} {Oth M : Nat -> Nat -> Prop} {a : Act} {w : World} (sim : Sim n Oth B st M a w) {b : Bool} (h : qv ops o B = some b) : Region.wanted o (yielded ops a.tmps) = b := by
  obtain ⟨β, s⟩ := sim
  unfold qv at h
  unfold Region.wanted
  cases hg : o.guard with
  | none => rw [hg] at h; simp at h; simp [h]
  | some jw =>
    obtain ⟨j, want⟩ := jw
    rw [hg] at h
    simp only at h ⊢
    cases hd : (ops[j]?).bind (·.dst) with
    | none => rw [hd] at h; cases h
    | some t =>
      rw [hd] at h
      simp only at h
      have hs := s.tm t
      split at h
      · rename_i b' hb
        simp at h
        rw [hb] at hs
        rw [zb3 hd (VRel.eq_s hs), <- h]
        simp
      · rename_i hb
        simp at h
        rw [hb] at hs
        rw [zd3 hd hs, h]
        cases want <;> rfl
      · cases h
theorem zfv {b : Bool} {p : Prop} (h : bif b then p else False) : b = true /\ p := by
  cases b with
  | true => exact ⟨rfl, h⟩
  | false => exact h.elim
theorem zfw {b : Bool} {p : Prop} (hb : b = true) (h : p) : bif b then p else False := by subst hb; exact h
/-- Some slots forgotten. -/
def zq (A : Fr) (D : List Nat) : Fr := ⟨fun t => bif mem t D then .any else A.t t, A.bx⟩
theorem qi {t : Nat} {D : List Nat} (h : t ∉ D) : mem t D = false := by
  cases hm : mem t D with
  | false => rfl
  | true => exact absurd ((yz _ _).1 hm) h
theorem vf {A : Fr} {D : List Nat} {t : Nat} (h : t ∉ D) : (zq A D).t t = A.t t := by
  simp [zq, qi h]
theorem zjx {A : Fr} {D : List Nat} {x : Operand} (h : ∀ t, x = .tmp t -> t ∉ D) : (zq A D).ev x = A.ev x := by
  cases x with
  | tmp t => exact vf (h t rfl)
  | _ => rfl
theorem yx {A : Fr} {D : List Nat} {d : Nat} (h : d ∉ D) (x : LV) : (zq A D).put d x = zq (A.put d x) D := by
  unfold zq Fr.put
  congr
  funext i
  by_cases hi : i = d
  · subst hi; simp [qi h]
  · simp [nbeq hi]
theorem wj {A : Fr} {D : List Nat} {d : Nat} (h : d ∉ D) (l : List AV) : (zq A D).newBx d l = zq (A.newBx d l) D := by
  unfold zq Fr.newBx
  congr
  funext i
  by_cases hi : i = d
  · subst hi; simp [qi h]
  · simp only [nbeq hi, cond_false]
    cases mem i D <;> simp [LV.kill]
/-- What an effect leaves of the slots. -/
def Kept (o : Oper) (A A' : Fr) : Prop := (match o.op with | .alloc _ => False | .box _ _ => False | _ => True) -> ∀ t, o.dst ≠ some t -> A'.t t = A.t t
theorem x5 {o : Oper} {A : Fr} {d : Nat} {x : LV} (hd : o.dst = some d) : Kept o A (A.put d x) := fun _ t ht => by
  have : t ≠ d := fun h => ht (by rw [h]; exact hd)
  simp [Fr.put, nbeq this]
theorem zay {o : Oper} {A : Fr} : Kept o A A := fun _ _ _ => rfl
/-- What an effect does in a frame in which slots are forgotten that it does not look at. -/
theorem zez (hI : zp P c.I) {o : Oper} {K : Fr -> Store -> Prop} {A : Fr} {st : Store} {D : List Nat} (h : vcOp P c o K A st) (hop : ∀ x ∈ o.op.operands, ∀ t, x = .tmp t -> t ∉ D) (hd : ∀ d, o.dst = some d -> d ∉ D) :
    vcOp P c o (fun B' st' => ∃ A', K A' st' /\ B' = zq A' D /\ Kept o A A') (zq A D) st := by
  have hev : ∀ x ∈ o.op.operands, (zq A D).ev x = A.ev x := fun x hx => zjx (hop x hx)
  have hputO : ∀ (x : LV) (st' : Store), (putO A c.n o.dst x fun A' => K A' st') -> putO (zq A D) c.n o.dst x fun B' => ∃ A', K A' st' /\ B' = zq A' D /\ Kept o A A' := by
    intro x st' hx
    unfold putO at hx ⊢
    cases hdst : o.dst with
    | none => rw [hdst] at hx; exact ⟨A, hx, rfl, zay⟩
    | some d =>
      rw [hdst] at hx
      obtain ⟨hlt, hx⟩ := yr hx
      simp only [show Nat.blt d c.n = true from Nat.ble_eq_true_of_le hlt, cond_true]
      exact ⟨_, hx, yx (hd d hdst) x, x5 hdst⟩
  have hval : ∀ op', op' = o.op -> (optK o.dst fun d => bif Nat.blt d c.n then vcV c A.ev A.bx st d op' (fun x => K (A.put d x) st) else False) ->
      optK o.dst fun d => bif Nat.blt d c.n then vcV c (zq A D).ev (zq A D).bx st d op' (fun x => ∃ A', K A' st /\ (zq A D).put d x = zq A' D /\ Kept o A A') else False := by
    rintro op' rfl hx
    obtain ⟨d, hdst, hx⟩ := zd hx
    obtain ⟨hlt, hx⟩ := yr hx
    refine za d hdst ?_
    simp only [show Nat.blt d c.n = true from Nat.ble_eq_true_of_le hlt, cond_true]
    exact zf6 hI (fun x hx => ⟨_, hx, yx (hd d hdst) x, x5 hdst⟩) (zdi hev hx)
  unfold vcOp at h ⊢
  have hX : vcX P c o K A st -> vcX P c o (fun B' st' => ∃ A', K A' st' /\ B' = zq A' D /\ Kept o A A') (zq A D) st := by
    intro h
    obtain ⟨vs, hvs, h⟩ := zd h
    have e : (o.op.operands.toList.mapM fun x => ((zq A D).ev x).toAV) = o.op.operands.toList.mapM fun x => (A.ev x).toAV :=
      zcs fun x hx => hev x (by simpa using hx)
    refine za vs (by rw [e]; exact hvs) ⟨fun Oth M w ρ hI' sto hr => ?_⟩
    have := h.out Oth M w ρ hI' sto hr
    have hpost : ∀ v w', zl st (fun r st' => putO A c.n o.dst (.av r) fun A' => K A' st') Oth M w v w' -> zl st (fun r st' => putO (zq A D) c.n o.dst (.av r) fun B' => ∃ A', K A' st' /\ B' = zq A' D /\ Kept o A A') Oth M w v w' :=
      fun v w' ⟨r, st', M', h1, h2⟩ => ⟨r, st', M', hputO _ st' h1, h2⟩
    generalize (execOp ρ o).run P w = res at *
    cases res with
    | halt x w' => exact this.elim
    | ok nx w' =>
      cases nx with
      | value v => exact hpost v w' this
      | skip => exact ⟨this.1, hpost _ w' this.2⟩
      | _ => exact this.elim
  cases hx : isX o.op with
  | true => rw [hx] at h; exact hX h
  | false =>
  rw [hx] at h
  replace h : zbf P c o K A st := h
  change zbf P c o (fun B' st' => ∃ A', K A' st' /\ B' = zq A' D /\ Kept o A A') (zq A D) st
  unfold zbf at h ⊢
  cases ho : o.op with
  | alloc t =>
    simp only [ho, y5] at h ⊢
    obtain ⟨i, hi, h⟩ := zd h
    obtain ⟨d, hdst, h⟩ := zd h
    obtain ⟨hlt, h⟩ := yr h
    refine za i hi (za d hdst ?_)
    simp only [show Nat.blt d c.n = true from Nat.ble_eq_true_of_le hlt, cond_true]
    cases hg : c.G.contains d with
    | true => rw [hg] at h; exact fun b hb => ⟨_, h b hb, yx (hd d hdst) _, fun hh => by rw [ho] at hh; exact hh.elim⟩
    | false => rw [hg] at h; exact ⟨_, h, wj (hd d hdst) _, fun hh => by rw [ho] at hh; exact hh.elim⟩
  | box t x =>
    simp only [ho] at h ⊢
    rw [ho] at hev
    obtain ⟨d, hdst, h⟩ := zd h
    obtain ⟨hlt, h⟩ := yr h
    refine za d hdst ?_
    simp only [show Nat.blt d c.n = true from Nat.ble_eq_true_of_le hlt, cond_true]
    rw [hev x (by simp [Op.operands])]
    split at h
    · obtain ⟨l, hl, h⟩ := zd h
      refine za l hl ?_
      cases hg : c.G.contains d with
      | true => rw [hg] at h; exact fun b hb => ⟨_, h b hb, yx (hd d hdst) _, fun hh => by rw [ho] at hh; exact hh.elim⟩
      | false => rw [hg] at h; exact ⟨_, h, wj (hd d hdst) _, fun hh => by rw [ho] at hh; exact hh.elim⟩
    · exact h.elim
  | buildSlice t n parts =>
    simp only [ho] at h ⊢
    rw [ho] at hev
    have e : (parts.toList.map fun p => (p.1, (zq A D).ev p.2)) = (parts.toList.map fun p => (p.1, A.ev p.2)) := List.map_congr_left fun p hp => by
      rw [hev p.2 (by simp [Op.operands]; exact ⟨p.1, by simpa using hp⟩)]
    rw [e]
    obtain ⟨i, hi, h⟩ := zd h
    obtain ⟨d, hdst, h⟩ := zd h
    obtain ⟨hlt, h⟩ := yr h
    refine za i hi (za d hdst ?_)
    simp only [show Nat.blt d c.n = true from Nat.ble_eq_true_of_le hlt, cond_true]
    split at h
    · obtain ⟨ie, hie, h⟩ := zd h
      obtain ⟨rows, hrows, h⟩ := zd h
      refine za ie hie (za rows hrows ?_)
      cases hone : rows.flatten.all AV.one with
      | false => rw [hone] at h; exact h.elim
      | true =>
        rw [hone] at h
        simp only [cond_true] at h ⊢
        refine ⟨h.1, ?_⟩
        replace h := h.2
        cases rows with
        | nil => exact ⟨_, h, yx (hd d hdst) _, x5 hdst⟩
        | cons r rs =>
          cases hg : c.G.contains d with
          | true =>
            cases hg2 : c.G.contains (d + 1000000) with
            | true => simp only [hg, hg2, cond_true] at h ⊢; exact fun b hb => ⟨_, h b hb, yx (hd d hdst) _, x5 hdst⟩
            | false => simp only [hg, hg2, cond_true, cond_false] at h ⊢; exact fun b hb => ⟨_, h b hb, yx (hd d hdst) _, x5 hdst⟩
          | false => simp only [hg, cond_false] at h ⊢; exact ⟨_, h, yx (hd d hdst) _, x5 hdst⟩
    · exact h.elim
  | store t p x =>
    simp only [ho] at h ⊢
    rw [ho] at hev
    cases hdst : o.dst with
    | some d => rw [hdst] at h; exact h.elim
    | none =>
      rw [hdst] at h
      simp only [Option.isNone_none, cond_true] at h ⊢
      obtain ⟨i, hi, h⟩ := zd h
      refine za i hi ?_
      rw [hev x (by simp [Op.operands])]
      split at h
      · unfold zao at h ⊢
        rw [hev p (by simp [Op.operands])]
        obtain ⟨xs, hxs, h⟩ := zd h
        refine za xs hxs ?_
        cases hb : (Nat.beq xs.length i.size && xs.all AV.one) with
        | false => rw [hb] at h; exact h.elim
        | true =>
          rw [hb] at h
          simp only [cond_true] at h ⊢
          split at h
          · rename_i k off hp
            obtain ⟨l, hl, h⟩ := zd h
            refine za l hl ?_
            cases hb2 : Nat.ble (off + xs.length) l.length with
            | false => rw [hb2] at h; exact h.elim
            | true => rw [hb2] at h; simp only [cond_true, y5] at h ⊢; exact ⟨_, h, rfl, fun _ _ _ => rfl⟩
          · obtain ⟨y, hy, h⟩ := zd h
            refine za y hy ?_
            cases y with
            | cells l => simp only [y5] at h ⊢; exact ⟨h.1, _, h.2, rfl, zay⟩
            | map es bs clock => exact h.elim
            | iter m since seen last => exact h.elim
            | ghost o gh => exact h.elim
          · exact h.elim
      · exact h.elim
  | binOp op t x y yt =>
    simp only [ho] at h ⊢
    have hev' := hev
    rw [ho] at hev'
    unfold zgi at h ⊢
    rw [hev' x (by simp [Op.operands]), hev' y (by simp [Op.operands])]
    split at h
    · obtain ⟨i, hi, h⟩ := zd h
      refine za i hi ?_
      cases hty : i.ty with
      | slice e =>
        rw [hty] at h
        cases op with
        | eql => exact fun b hb => hputO _ st (h b hb)
        | neq => exact fun b hb => hputO _ st (h b hb)
        | _ => exact h.elim
      | _ => rw [hty] at h; exact h.elim
    · exact hval _ ho.symm h
  | convert s t x =>
    simp only [ho] at h ⊢
    have hev' := hev
    rw [ho] at hev'
    unfold zos at h ⊢
    rw [hev' x (by simp [Op.operands])]
    split at h
    · obtain ⟨hb, h⟩ := zfv h
      refine zfw hb ?_
      obtain ⟨i, hi, h⟩ := zd h
      refine za i hi ?_
      split at h
      · obtain ⟨ie, hie, h⟩ := zd h
        obtain ⟨hu, h⟩ := zfv h
        obtain ⟨top, htop, h⟩ := zd h
        exact za ie hie (zfw hu (za top htop (hputO _ st h)))
      · exact h.elim
    · exact hX h
    · exact hval _ ho.symm h
  | call cl =>
    simp only [ho] at h ⊢
    have hev' := hev
    rw [ho] at hev'
    cases hcl : cl.callee with
    | value f =>
      simp only [hcl] at h ⊢
      rw [hev' f (by simp [Op.operands, Call.operands, hcl])]
      split at h
      · obtain ⟨vs, hvs, h⟩ := zd h
        have e : (cl.args.toList.mapM fun x => ((zq A D).ev x).toAV) = cl.args.toList.mapM fun x => (A.ev x).toAV :=
          zcs fun x hx => hev' x (by simp [Op.operands, Call.operands]; exact .inr (by simpa using hx))
        rw [e]
        refine za vs hvs ⟨fun Oth M w us sto hr => ?_⟩
        have := h.out Oth M w us sto hr
        have hpost : ∀ v w', zl st (fun r st' => putO A c.n o.dst (.av r) fun A' => K A' st') Oth M w v w' -> zl st (fun r st' => putO (zq A D) c.n o.dst (.av r) fun B' => ∃ A', K A' st' /\ B' = zq A' D /\ Kept o A A') Oth M w v w' :=
          fun v w' ⟨r, st', M', h1, h2⟩ => ⟨r, st', M', hputO _ st' h1, h2⟩
        generalize (callFunc _ us).run P w = res at *
        cases res with
        | halt x w' => exact this.elim
        | ok nx w' =>
          cases nx with
          | enter f as => exact Calls.mono this fun e w'' ⟨v, he, hp⟩ => ⟨v, he, hpost v w'' hp⟩
          | value v => exact hpost v w' this
          | _ => exact this.elim
      · exact h.elim
    | invoke y m =>
      simp only [hcl] at h ⊢
      unfold zcv at h ⊢
      rw [hev' y (by simp [Op.operands, Call.operands, hcl])]
      split at h
      · obtain ⟨vs, hvs, g, x, hm, h⟩ := zd h
        have e : (cl.args.toList.mapM fun x => ((zq A D).ev x).toAV) = cl.args.toList.mapM fun x => (A.ev x).toAV :=
          zcs fun x hx => hev' x (by simp [Op.operands, Call.operands]; exact .inr (by simpa using hx))
        rw [e]
        refine za vs hvs ⟨g, x, hm, ⟨fun Oth M w us sto hr => ?_⟩⟩
        have := h.out Oth M w us sto hr
        have hpost : ∀ v w', zl st (fun r st' => putO A c.n o.dst (.av r) fun A' => K A' st') Oth M w v w' -> zl st (fun r st' => putO (zq A D) c.n o.dst (.av r) fun B' => ∃ A', K A' st' /\ B' = zq A' D /\ Kept o A A') Oth M w v w' :=
          fun v w' ⟨r, st', M', h1, h2⟩ => ⟨r, st', M', hputO _ st' h1, h2⟩
        generalize (callFunc _ us).run P w = res at *
        cases res with
        | halt x w' => exact this.elim
        | ok nx w' =>
          cases nx with
          | enter f as => exact Calls.mono this fun e w'' ⟨v, he, hp⟩ => ⟨v, he, hpost v w'' hp⟩
          | value v => exact hpost v w' this
          | _ => exact this.elim
      · exact h.elim
    | builtin b =>
      cases b with
      | append =>
        simp only [hcl] at h ⊢
        obtain ⟨t, ht, h⟩ := zd h
        obtain ⟨i, hi, h⟩ := zd h
        obtain ⟨s, hs, h⟩ := zd h
        obtain ⟨x, hx, h⟩ := zd h
        refine za t ht (za i hi (za s hs (za x hx ?_)))
        rw [hev' s (by simp [Op.operands, Call.operands, hcl]; exact Array.mem_of_getElem? hs), hev' x (by simp [Op.operands, Call.operands, hcl]; exact Array.mem_of_getElem? hx)]
        split at h
        · cases hb : (cl.argTypes[1]?.bind c.I).any zar with
          | false => rw [hb] at h; exact hX h
          | true =>
          rw [hb] at h
          replace h := h.out
          rcases h with h | ⟨s', x', hes, hex, h⟩
          rotate_left
          · refine ⟨.inr ⟨s', x', hes, hex, h.has, fun ie hie Oth M w sv xv at' ty args t sto h1 h2 h3 h4 h5 h6 h7 h8 => ?_⟩⟩
            obtain ⟨v, w', hr, r, st', M', hK, hp⟩ := h.out ie hie Oth M w sv xv at' ty args t sto h1 h2 h3 h4 h5 h6 h7 h8
            exact ⟨v, w', hr, r, st', M', hputO _ st' hK, hp⟩
          refine ⟨.inl ?_⟩
          unfold zf1 at h ⊢
          obtain ⟨ie, hie, h⟩ := zd h
          refine za ie hie ?_
          split at h
          · obtain ⟨rows, hrows, hroom, h⟩ := zd h
            exact za rows hrows ⟨hroom, fun v st' ho => hputO _ st' (h v st' ho)⟩
          · obtain ⟨rows, hrows, hroom, h⟩ := zd h
            exact za rows hrows ⟨hroom, fun v st' ho => hputO _ st' (h v st' ho)⟩
          · rename_i k rows b hev2
            obtain ⟨hk, h⟩ := zfv h
            obtain ⟨rows', hrows, htok, hroom, h⟩ := zd h
            exact zfw hk (za rows' hrows ⟨htok, hroom, fun v st' ho => hputO _ st' (h v st' ho)⟩)
          · exact h.elim
        · exact h.elim
      | _ => simp only [hcl] at h ⊢; have := hval o.op rfl (by rw [ho]; exact h); rw [ho] at this; exact this
  | _ => simp only [ho] at h ⊢; exact hval _ ho.symm h
end
end Go.V
namespace Go.V
section
variable {P : Program} {c : Cfg} {ops : Array Oper}
theorem all_range {n : Nat} {p : Nat -> Bool} : (List.range n).all p = true ↔ ∀ i, i < n -> p i = true := by
  simp [List.all_eq_true]
structure OpFacts (c : Cfg) (ops : Array Oper) (i : Nat) (o : Oper) : Prop where
  lt : ∀ j ∈ yl ops i, j < i
  sel : ∀ cs b, o.op ≠ .select cs b
  nd : ∀ cl, o.op ≠ .defer cl
  dst : isV c o = true -> ∃ d, o.dst = some d
  dlt : ∀ d, o.dst = some d -> d < c.n
  own : ∀ d, o.dst = some d -> d ∉ o.looksAt ops
  one : ∀ d, o.dst = some d -> ∀ k o', ops[k]? = some o' -> k ≠ i -> o'.dst ≠ some d
  look : ∀ d, o.dst = some d -> ∀ k o', ops[k]? = some o' -> k ≠ i -> d ∈ o'.looksAt ops -> i ∈ yl ops k \/ (isV c o = false /\ k ∈ yl ops i)
theorem yw (h : wu c ops = true) {i : Nat} {o : Oper} (hi : ops[i]? = some o) : OpFacts c ops i o := by
  have hlt : i < ops.size := (Array.getElem?_eq_some_iff.1 hi).1
  have h1 := all_range.1 h i hlt
  simp only [hi, Bool.and_eq_true, List.all_eq_true] at h1
  obtain ⟨⟨hd, hs⟩, h2⟩ := h1
  refine ⟨fun j hj => Nat.le_of_ble_eq_true (hd j hj), fun cs b hop => (by rw [hop] at hs; cases hs), fun cl hop => (by rw [hop] at hs; cases hs), fun hv => ?_, fun d hdst => ?_, fun d hdst => ?_, fun d hdst k o' hk hne => ?_, fun d hdst k o' hk hne hl => ?_⟩
  · cases hdst : o.dst with
    | none => rw [hdst] at h2; simp [hv] at h2
    | some d => exact ⟨d, rfl⟩
  all_goals
    rw [hdst] at h2
    simp only [Bool.and_eq_true, Bool.not_eq_true'] at h2
    obtain ⟨⟨h3, h4⟩, h5⟩ := h2
  · exact Nat.le_of_ble_eq_true h3
  · intro hm
    rw [(yz _ _).2 hm] at h4
    cases h4
  all_goals
    have hklt : k < ops.size := (Array.getElem?_eq_some_iff.1 hk).1
    have h6 := all_range.1 h5 k hklt
    rw [hk] at h6
    simp only [Bool.or_eq_true, nbeq hne, Bool.false_eq_true, false_or, Bool.and_eq_true, Bool.not_eq_true'] at h6
  · intro hd'
    rw [hd'] at h6
    simp at h6
  · rcases h6.2 with (h | h) | h
    · rw [(yz _ _).2 hl] at h; cases h
    · exact .inl ((yz _ _).1 h)
    · exact .inr ⟨h.1, (yz _ _).1 h.2⟩
theorem zfu {p q : Nat -> Bool} {i : Nat} : ∀ (l : List Nat), l.Nodup -> i ∈ l -> p i = true -> q i = false -> (∀ j, j ≠ i -> p j = q j) -> l.countP p = l.countP q + 1 := by
  intro l
  induction l with
  | nil => intro _ h; cases h
  | cons a l ih =>
    intro hn hi hp hq he
    rw [List.nodup_cons] at hn
    rw [List.countP_cons, List.countP_cons]
    by_cases ha : a = i
    · subst ha
      have : l.countP p = l.countP q := List.countP_congr fun j hj => by rw [he j fun h => hn.1 (h ▸ hj)]
      rw [this, hp, hq]
      simp
    · have hi' : i ∈ l := by
        rcases List.mem_cons.1 hi with h | h
        · exact absurd h.symm ha
        · exact h
      rw [ih hn.2 hi' hp hq he, he a ha]
      omega
/-- How many are still to come. -/
def left (ops : Array Oper) (listed : Array Bool) : Nat := (List.range ops.size).countP fun i => !listed.getD i true
theorem w8 {listed : Array Bool} (hs : listed.size = ops.size) {i : Nat} (hi : i < ops.size) (hl : listed.getD i true = false) : left ops listed = left ops (listed.setIfInBounds i true) + 1 := by
  unfold left
  refine zfu (i := i) _ List.nodup_range (List.mem_range.2 hi) (by simp [hl]) ?_ fun j hj => ?_
  · simp [hs, hi]
  · rw [getD_set_ne true (Ne.symm hj)]
theorem zdy {listed : Array Bool} (h : left ops listed = 0) {i : Nat} (hi : i < ops.size) : listed.getD i true = true := by
  unfold left at h
  rw [List.countP_eq_zero] at h
  have := h i (List.mem_range.2 hi)
  simpa using this
theorem zt6 {p : Nat -> Prop} : ∀ n, (∃ i, i < n /\ p i) -> ∃ i, i < n /\ p i /\ ∀ j, j < i -> ¬ p j := by
  intro n
  induction n with
  | zero => rintro ⟨i, h, _⟩; omega
  | succ n ih =>
    rintro ⟨i, h, hp⟩
    by_cases hx : ∃ j, j < n /\ p j
    · obtain ⟨j, h1, h2, h3⟩ := ih hx
      exact ⟨j, by omega, h2, h3⟩
    · have : i = n := Nat.le_antisymm (by omega) (Nat.not_lt.1 fun hl => hx ⟨i, hl, hp⟩)
      subst this
      exact ⟨i, h, hp, fun j hj hpj => hx ⟨j, hj, hpj⟩⟩
theorem zgd {i j : Nat} {o : Oper} (hi : ops[i]? = some o) : j ∈ yl ops i ↔ ∃ e ∈ o.after, Region.binds .any e = true /\ e.on = j := by
  unfold yl
  rw [hi]
  simp only [List.mem_filterMap, Array.mem_toList_iff]
  constructor
  · rintro ⟨e, he, hx⟩
    cases hb : Region.binds .any e with
    | false => rw [hb] at hx; cases hx
    | true => rw [hb] at hx; simp at hx; exact ⟨e, he, hb, hx⟩
  · rintro ⟨e, he, hb, hx⟩
    exact ⟨e, he, by simp [hb, hx]⟩
theorem ready_iff {i : Nat} {listed : Array Bool} : i ∈ Region.ready .any ops listed ↔ listed.getD i true = false /\ i < ops.size /\ ∀ j ∈ yl ops i, listed.getD j false = true := by
  rw [mem_ready]
  constructor
  · rintro ⟨h1, o, ho, h2⟩
    refine ⟨h1, (Array.getElem?_eq_some_iff.1 ho).1, fun j hj => ?_⟩
    obtain ⟨e, he, hb, rfl⟩ := (zgd ho).1 hj
    exact h2 e he hb
  · rintro ⟨h1, hlt, h2⟩
    refine ⟨h1, ops[i], Array.getElem?_eq_getElem hlt, fun e he hb => h2 _ ((zgd (Array.getElem?_eq_getElem hlt)).2 ⟨e, he, hb, rfl⟩)⟩
/-- The slots of some operations. -/
def y6 (ops : Array Oper) (U : List Nat) : List Nat := U.filterMap fun i => (ops[i]?).bind (·.dst)
theorem mem_dsts {U : List Nat} {t : Nat} : t ∈ y6 ops U ↔ ∃ k ∈ U, ∃ o, ops[k]? = some o /\ o.dst = some t := by
  unfold y6
  rw [List.mem_filterMap]
  constructor
  · rintro ⟨k, hk, h⟩
    cases ho : ops[k]? with
    | none => rw [ho] at h; cases h
    | some o => rw [ho] at h; exact ⟨k, hk, o, ho, h⟩
  · rintro ⟨k, hk, o, ho, h⟩
    exact ⟨k, hk, by rw [ho]; exact h⟩
theorem SimB.weaken {n : Nat} {Oth M : Nat -> Nat -> Prop} {β : Nat -> Nat} {A B : Fr} {st : Store} {a : Act} {w : World} (h : SimB n Oth β A st M a w) (hb : B.bx = A.bx) (ht : ∀ t, A.t t = B.t t \/ B.t t = .any) : SimB n Oth β B st M a w where
  tsz := h.tsz
  dfr := h.dfr
  tm i := by
    rcases ht i with h1 | h1
    · rw [<- h1]; exact h.tm i
    · rw [h1]; trivial
  bx := by rw [hb]; exact h.bx
  inj := by rw [hb]; exact h.inj
  sep := by rw [hb]; exact h.sep
  sto := h.sto
theorem Oper.wp_q {o : Oper} {a : Act} {w : World} {K : Act -> World -> Prop} {Q : Exit -> Act -> World -> Prop} (h : o.wp P a w K fun _ _ _ => False) : o.wp P a w K Q := by
  unfold Oper.wp at *
  generalize (execOp a.eval o).run P w = r at *
  cases r with
  | ok n w' =>
    cases n <;> simp only [Oper.upon] at h ⊢ <;>
      first
        | exact h
        | exact Calls.mono h (fun e w'' he => by cases e <;> first | exact he | exact he.elim | (obtain ⟨_, _, he⟩ := he; exact he.elim))
        | exact Rows.mono h (fun _ _ he => he)
  | halt x w' => cases x <;> simp only [Oper.upon] at h ⊢ <;> exact h.elim
/-- An operation whose value stands, carried out. -/
theorem zkl (hI : zp P c.I) {o : Oper} {d : Nat} {x : LV} {B : Fr} {st : Store} (hd : o.dst = some d) (hlt : d < c.n) (h : vcW c B.ev B.bx st d o.op (fun y => y = x)) : AOp P c.n o (fun A' st' => A' = B.put d x /\ st' = st) B st := by
  have key : (∀ t n ps, o.op ≠ .buildSlice t n ps) -> AOp P c.n o (fun A' st' => A' = B.put d x /\ st' = st) B st := by
    intro hne
    refine zbc hI (za d hd ?_)
    simp only [show Nat.blt d c.n = true from Nat.ble_eq_true_of_le hlt, cond_true]
    unfold vcW at h
    split at h
    · rename_i heq; exact absurd heq (hne _ _ _)
    · exact zf6 hI (fun y hy => ⟨by rw [hy], Tv⟩) h
  cases hop : o.op with
  | buildSlice t n parts =>
    clear key
    rw [hop] at h
    obtain ⟨i, ie, e, rows, y, hi, hty, hie, hrows, hone, hroom, hy, hyx, _⟩ := zgg (show bsK c B.ev t n parts (fun y => y = x) from h)
    subst hyx
    refine km (c := { c with G := [] }) hop hI (za i hi (za d hd ?_))
    simp only [show Nat.blt d c.n = true from Nat.ble_eq_true_of_le hlt, cond_true, hty]
    refine za ie hie (za rows hrows ?_)
    rw [hone]
    refine ⟨hroom, ?_⟩
    cases rows with
    | nil => subst hy; exact ⟨rfl, Tv⟩
    | cons r rs => subst hy; exact ⟨rfl, Tv⟩
  | _ => exact key (by rw [hop]; intro _ _ _ h; cases h)
theorem qd {o : Oper} {A B : Fr} (h : ∀ t ∈ o.looksAt ops, B.t t = A.t t) : qv ops o B = qv ops o A := by
  unfold qv
  cases hg : o.guard with
  | none => rfl
  | some jw =>
    obtain ⟨j, want⟩ := jw
    simp only
    cases hd : (ops[j]?).bind (·.dst) with
    | none => rfl
    | some t =>
      simp only
      rw [h t (by unfold Oper.looksAt; rw [hg]; simp [hd])]
theorem zjd {o : Oper} {t : Nat} (h : Operand.tmp t ∈ o.op.operands) : t ∈ o.looksAt ops :=
  List.mem_append_left _ (List.mem_filterMap.2 ⟨.tmp t, by simpa using h, rfl⟩)
theorem zc1 {o : Oper} {A B : Fr} (h : ∀ t ∈ o.looksAt ops, B.t t = A.t t) : ∀ x ∈ o.op.operands, B.ev x = A.ev x := by
  intro x hx
  cases x with
  | tmp t => exact h t (zjd hx)
  | _ => rfl
theorem stands_iff {A : Fr} {st : Store} {i : Nat} : stands c ops A st i ↔ ∃ o d, ops[i]? = some o /\ o.dst = some d ∧
    ((qv ops o A = some true /\ vcW c A.ev A.bx st d o.op fun x => x = A.t d) \/ (qv ops o A = some false /\ A.t d = .und)) := by
  unfold stands
  constructor
  · intro h
    obtain ⟨o, ho, h⟩ := zd h
    obtain ⟨d, hd, h⟩ := zd h
    exact ⟨o, d, ho, hd, guardK_iff.1 h⟩
  · rintro ⟨o, d, ho, hd, h⟩
    exact za o ho (za d hd (guardK_iff.2 h))
/-- A value that stands, in another frame. -/
theorem v8 {A B : Fr} {st st' : Store} {i : Nat} {o : Oper} (hi : ops[i]? = some o) (h : stands c ops A st i) (hl : ∀ t ∈ o.looksAt ops, B.t t = A.t t) (hd : ∀ d, o.dst = some d -> B.t d = A.t d)
    (hn : (B.bx = A.bx /\ st' = st) \/ zb0 o.op = true) : stands c ops B st' i := by
  obtain ⟨o', d, ho, hdst, h⟩ := stands_iff.1 h
  rw [hi] at ho
  cases ho
  refine stands_iff.2 ⟨o, d, hi, hdst, ?_⟩
  rw [qd hl, hd d hdst]
  refine h.imp (fun h => ⟨h.1, ?_⟩) id
  have h2 := zai (ev' := B.ev) (zc1 hl) h.2
  rcases hn with ⟨h3, h4⟩ | hn
  · rw [h3, h4]; exact h2
  · exact zgr hn h2
theorem zcn {A : Fr} {st : Store} : ∀ {l : List Nat}, xf c ops A st l -> ∀ i ∈ l, stands c ops A st i := by
  intro l
  induction l with
  | nil => intro _ i h; cases h
  | cons a l ih =>
    intro h i hi
    rcases List.mem_cons.1 hi with rfl | h'
    · exact h.1
    · exact ih h.2 i h'
/-- What the effect 'i' does, in the schedule. -/
def zj3 (P : Program) (c : Cfg) (ops : Array Oper) (K : Fr -> Store -> Prop) (i : Nat) (chk : List Nat) (r : Sched) (A : Fr) (st : Store) : Prop :=
  optK ops[i]? fun o =>
      wh ops o A (fun A => vcOp P c o (fun A' st' => xf c ops A' st' chk /\ vcDr P c ops K r A' st') A st)
        (fun A => putO A c.n o.dst .und fun A' => xf c ops A' st chk /\ vcDr P c ops K r A' st)
theorem zoy {K : Fr -> Store -> Prop} {A : Fr} {st : Store} {i : Nat} {L : List Nat} : ∀ (S : Sched) (first : Bool), yj c ops S L first = true -> vcDr P c ops K S A st -> i ∈ zes S ->
    ∃ chk r, zj4 c ops i chk L = true /\ yj c ops r (i :: L) true = true /\ zj3 P c ops K i chk r A st := by
  intro S
  induction S with
  | done => intro _ _ _ h; cases h
  | stop => intro _ _ _ h; cases h
  | v j r _ => intro _ _ _ h; cases h
  | e j chk r alt _ ih =>
    intro first hs hv hi
    simp only [yj, Bool.and_eq_true] at hs
    simp only [zes, List.mem_cons] at hi
    rcases hi with rfl | hi
    · exact ⟨chk, r, hs.1.1.1, hs.1.1.2, hv.1⟩
    · exact ih false hs.1.2 hv.2 hi
structure DInv (c : Cfg) (ops : Array Oper) (Oth M0 : Nat -> Nat -> Prop) (w0 : World) (listed : Array Bool) (Lab U : List Nat) (A : Fr) (st : Store) (M : Nat -> Nat -> Prop) (a : Act) (w : World) : Prop where
  lsz : listed.size = ops.size
  lst : ∀ i, i < ops.size -> (listed.getD i false = true ↔ i ∈ Lab /\ i ∉ U)
  usub : ∀ i ∈ U, i ∈ Lab
  lab : ∀ i ∈ Lab, i < ops.size /\ ∀ j ∈ yl ops i, j ∈ Lab
  uv : ∀ i ∈ U, ∃ o, ops[i]? = some o /\ isV c o = true
  std : ∀ i ∈ U, stands c ops A st i
  sim : Sim c.n Oth (zq A (y6 ops U)) st M a w
  chg : Chg M0 w0 M w
  cls : ∀ i, i < ops.size -> listed.getD i false = true -> ∀ j ∈ yl ops i, listed.getD j false = true
theorem zfn {listed : Array Bool} {i : Nat} (h : i < listed.size) : listed.getD i true = listed.getD i false := by
  simp [h]
theorem zds {ops : Array Oper} {listed : Array Bool} (cls : ∀ i, i < ops.size -> listed.getD i false = true -> ∀ j ∈ yl ops i, listed.getD j false = true) (hlt : ∀ i j, j ∈ yl ops i -> j < ops.size) {i : Nat} (hi : ∀ j ∈ yl ops i, listed.getD j false = true) :
    ∀ k ∈ ziz ops i, listed.getD k false = true := by
  have key : ∀ (l acc : List Nat), (∀ k ∈ acc, k < ops.size /\ listed.getD k false = true) -> ∀ k ∈ l.foldl (fun acc j => bif mem j acc then yl ops j ++ acc else acc) acc, k < ops.size /\ listed.getD k false = true := by
    intro l
    induction l with
    | nil => intro acc h; exact h
    | cons j l ih =>
      intro acc h
      refine ih _ ?_
      by_cases hm : mem j acc = false
      · simp only [hm, cond_false]; exact h
      · have hm : mem j acc = true := by simpa using hm
        have hj := h j ((yz _ _).1 hm)
        intro k hk
        simp only [hm, cond_true, List.mem_append] at hk
        rcases hk with hk | hk
        · exact ⟨hlt j k hk, cls j hj.1 hj.2 k hk⟩
        · exact h k hk
  exact fun k hk => (key _ _ (fun k hk => ⟨hlt i k hk, hi k hk⟩) k hk).2
end
end Go.V
