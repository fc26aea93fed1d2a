/- The ground on which laws of thronglaw24 are proved: contracts of functions and plain lemmas; no condition beyond the row's own. -/
import Derived.MapKept
import Derived.Laws.OwnMore
import Derived.Shelf.Sort.Plain
import Derived.Shelf.Slices.SearchI
import Derived.Shelf.Slices.Empties
import Derived.Shelf.Slices.Delete
import Derived.Shelf.Slices.In.SortNone
import Derived.Shelf.Spec.SlicesInsertGrow
import Derived.Shelf.Spec.BitsCarry
import Derived.Test.YtbemejeejgpkaaaGreatVC
import Derived.Test.YtbemejeejgpkaaaGreatVB
set_option linter.unusedSimpArgs false
set_option linter.unusedVariables false
namespace Go.V
section
variable {P : Program} {c : Cfg} {I : Info} {w : World} {T : Nat -> Nat -> Prop}
def zwm : Ty -> Bool
  | .int _ => true
  | _ => false
/-- A value that may be asked for in a map. -/
def zwk (I : Info) (kt : TypeId) (k : AV) : Bool :=
  match I kt with
  | none => false
  | some i => match i.ty, k with
    | .int _, _ => true
    | .bool, _ => true
    | .struct fs, .agg cs => fs.all fun f => match I f.2 with | some j => zwm j.ty && (zal j (cs.drop f.1)).isSome | none => false
    | _, _ => false
theorem zev {kt : TypeId} {k : IntKind} (h : P.underlying kt = some (.int k)) (v : Value) (e : Bool) (n : Nat) : (Instr.checkKey e (n + 1) kt v).run P w = .ok () w := by
  unfold Instr.checkKey
  simp only [Sem.run_bind, zn h, Result.andThen_ok]
  cases v <;> simp
theorem zkp {kt : TypeId} (h : P.underlying kt = some .bool) (v : Value) (e : Bool) (n : Nat) : (Instr.checkKey e (n + 1) kt v).run P w = .ok () w := by
  unfold Instr.checkKey
  simp only [Sem.run_bind, zn h, Result.andThen_ok]
  cases v <;> simp
theorem wd (hI : zw P I) {kt : TypeId} {k : AV} {kv : Value} (h : zwk I kt k = true) (hv : VRel w T k kv) (e : Bool) : (Instr.checkKey e 10000 kt kv).run P w = .ok () w := by
  unfold zwk at h
  cases hi : I kt with
  | none => rw [hi] at h; cases h
  | some i =>
    rw [hi] at h
    have ht := hI kt i hi
    simp only at h
    split at h
    · rename_i k' hy; exact zev (zh1 ht hy) kv e 9999
    · rename_i hy; exact zkp (zt8 ht hy) kv e 9999
    · rename_i fs cs hy
      obtain ⟨cv, rfl, hr⟩ := x8 hv
      obtain ⟨a, ha1, ha2⟩ := wg ht hy
      rw [show (10000 : Nat) = 9999 + 1 from rfl, Instr.checkKey]
      simp only [Sem.run_bind, zn ha1, Result.andThen_ok]
      rw [<- Array.forIn_toList]
      subst ha2
      clear ha1 hy
      generalize a.toList = L at h
      induction L with
      | nil => simp
      | cons f L ih =>
        simp only [List.map_cons, List.all_cons, Bool.and_eq_true] at h
        obtain ⟨h1, h2⟩ := h
        cases hj : I f.type with
        | none => simp [hj] at h1
        | some j =>
          simp only [hj, Bool.and_eq_true] at h1
          obtain ⟨h3, h4⟩ := h1
          obtain ⟨x, hx⟩ := Option.isSome_iff_exists.1 h4
          obtain ⟨v, r1, r2⟩ := wu (hI _ _ hj) hr hx
          have hk : ∃ k, j.ty = .int k := by
            unfold zwm at h3
            split at h3
            · rename_i k hk; exact ⟨k, hk⟩
            · cases h3
          obtain ⟨k, hk⟩ := hk
          have r3 := zev (w := w) (zh1 (hI _ _ hj) hk) v e 9998
          by_cases hn : f.name = "_"
          · simp only [List.forIn_cons, Sem.run_bind, hn, ne_eq, not_true_eq_false, if_false, Result.andThen_ok, Sem.run_pure]
            exact ih h2
          · simp only [List.forIn_cons, Sem.run_bind, hn, ne_eq, not_false_eq_true, if_true, Result.andThen_ok, r1, r3, Sem.run_pure]
            exact ih h2
    · cases h
theorem yhq {kt : TypeId} {d : TypeDesc} (hd : P.underlying kt = some d) {a b : Value} {r : Bool} (h : Instr.sameNow d a b = some r) (D : Nat) : (Op.equalIn (D + 1) kt a b).run P w = .ok r w := by
  unfold Instr.sameNow at h
  split at h
  · split at h
    · rename_i hk
      cases h
      subst hk
      simp [Op.equalIn, zn hd]
    · cases h
  · cases h
    simp [Op.equalIn, zn hd]
  · cases h
    simp [Op.equalIn, zn hd]
  · cases h
/-- The first entry with the key. -/
theorem zai (hI : zw P I) {kt : TypeId} {k : AV} {kv : Value} (hv : VRel w T k kv) (q : AV × AV -> Bool) {es : List (AV × AV)} {ms : List MapEntry} (hl : es.length = ms.length)
    (hr : ∀ (i : Nat) (x : AV × AV) (y : MapEntry), es[i]? = some x -> ms[i]? = some y -> VRel w T x.1 y.key) (hq : ∀ e ∈ es, eqAV I 5 kt k e.1 = some (q e)) (hkt : (I kt).isSome) :
    ∃ r, (Instr.findKey kt kv ms).run P w = .ok r w /\ ((r = none /\ es.findIdx? q = none) \/ ∃ i e m, r = some (i, m.val) /\ es.findIdx? q = some i /\ es[i]? = some e /\ ms[i]? = some m /\ q e = true) := by
  have eqrun : ∀ (i : Nat) (e : AV × AV) (m : MapEntry), es[i]? = some e -> ms[i]? = some m -> (Op.equal kt kv m.key).run P w = .ok (q e) w := fun i e m he hm =>
    ziz hI 5 kt k e.1 (q e) (hq e (List.mem_of_getElem? he)) 10000 (by omega) kv m.key hv (hr i e m he hm)
  obtain ⟨ik, hik⟩ := Option.isSome_iff_exists.1 hkt
  obtain ⟨d, hd, _⟩ := (hI kt ik hik).und
  have same : ∀ (i : Nat) (e : AV × AV) (m : MapEntry) (b : Bool), es[i]? = some e -> ms[i]? = some m -> Instr.sameNow d kv m.key = some b -> b = q e := by
    intro i e m b he hm hs
    have h1 := eqrun i e m he hm
    have h2 : (Op.equal kt kv m.key).run P w = .ok b w := yhq hd hs 9999
    rw [h1] at h2
    cases h2; rfl
  have res : ∀ (es : List (AV × AV)) (ms : List MapEntry) (i0 : Nat), es.length = ms.length ->
      (∀ (i : Nat) (e : AV × AV) (m : MapEntry), es[i]? = some e -> ms[i]? = some m -> (Op.equal kt kv m.key).run P w = .ok (q e) w /\ ∀ b, Instr.sameNow d kv m.key = some b -> b = q e) ->
      ∃ r, ((r = none /\ es.findIdx? q = none) \/ ∃ i e m, r = some (i0 + i, m.val) /\ es.findIdx? q = some i /\ es[i]? = some e /\ ms[i]? = some m /\ q e = true) /\ (Instr.findAsking kt kv ms i0).run P w = .ok r w ∧
        ∀ r', Instr.findNow d kv ms i0 = some r' -> r' = r := by
    intro es
    induction es with
    | nil =>
      intro ms i0 hl _
      cases ms with
      | cons m ms => simp at hl
      | nil => exact ⟨none, .inl ⟨rfl, by simp⟩, by simp [Instr.findAsking], fun r' h => by simp [Instr.findNow] at h; exact h.symm⟩
    | cons e es ih =>
      intro ms i0 hl hall
      cases ms with
      | nil => simp at hl
      | cons m ms =>
        obtain ⟨h1, h2⟩ := hall 0 e m rfl rfl
        cases hqe : q e with
        | true =>
          rw [hqe] at h1 h2
          refine ⟨some (i0, m.val), .inr ⟨0, e, m, rfl, by simp [List.findIdx?_cons, hqe], rfl, rfl, hqe⟩, ?_, fun r' h => ?_⟩
          · rw [Instr.findAsking]
            simp [h1]
          · unfold Instr.findNow at h
            cases hs : Instr.sameNow d kv m.key with
            | none => rw [hs] at h; cases h
            | some b =>
              obtain rfl := h2 b hs
              rw [hs] at h
              simp at h
              exact h.symm
        | false =>
          rw [hqe] at h1 h2
          obtain ⟨r, h3, h4, h5⟩ := ih ms (i0 + 1) (by simpa using hl) fun i e' m' he hm => hall (i + 1) e' m' he hm
          refine ⟨r, ?_, ?_, fun r' h => ?_⟩
          · rcases h3 with ⟨h6, h7⟩ | ⟨i, e', m', h6, h7, h8, h9, h10⟩
            · exact .inl ⟨h6, by simp [List.findIdx?_cons, hqe, h7]⟩
            · exact .inr ⟨i + 1, e', m', by rw [h6]; simp; omega, by simp [List.findIdx?_cons, hqe, h7], h8, h9, h10⟩
          · rw [Instr.findAsking]
            simp [h1, h4]
          · unfold Instr.findNow at h
            cases hs : Instr.sameNow d kv m.key with
            | none => rw [hs] at h; cases h
            | some b =>
              obtain rfl := h2 b hs
              rw [hs] at h
              exact h5 r' h
  obtain ⟨r, h1, h2, h3⟩ := res es ms 0 hl fun i e m he hm => ⟨eqrun i e m he hm, fun b => same i e m b he hm⟩
  refine ⟨r, ?_, ?_⟩
  · unfold Instr.findKey
    simp only [Sem.run_bind, zn hd, Result.andThen_ok]
    cases hf : Instr.findNow d kv ms 0 with
    | none => exact h2
    | some r' => rw [h3 r' hf]; rfl
  · rcases h1 with h1 | ⟨i, e, m, h4, h5⟩
    · exact .inl h1
    · exact .inr ⟨i, e, m, by rw [h4]; simp, h5⟩
/-- What a type's variables hold at first. -/
def zav (i : TI) : AV := bif jd i.ty then .agg (i.zero.map AV.s) else match i.zero with | v :: _ => .s v | [] => .any
theorem zq4 {t : TypeId} {i : TI} (h : TIok P t i) (w : World) (T : Nat -> Nat -> Prop) : ∃ z, (zeroValue t).run P w = .ok z w /\ VRel w T (zav i) z := by
  obtain ⟨inf, h1, _, _, z, h2, h3⟩ := h.info
  refine ⟨z, by simp [zeroValue, typeInfo, h1, h2], ?_⟩
  unfold zav
  rcases h.zag inf z h1 h2 with ⟨h4, cs, rfl⟩ | ⟨h4, h5⟩
  · rw [h4]
    refine jg ?_
    have : i.zero = cs.toList := h3.symm
    rw [this]
    exact Reads.map_s _
  · rw [h4, h5]
    exact .s _
end
end Go.V
namespace Go.V
section
variable {P : Program} {c : Cfg} {w : World} {st : Store} {Oth M : Nat -> Nat -> Prop}
theorem zd6 {b : Nat} {old : Obj} (new : Obj) (hb : w.heap[b]? = some old) : (w.heap.setIfInBounds b new)[b]? = some new := by
  have hlt : b < w.heap.size := (Array.getElem?_eq_some_iff.1 hb).1
  simp [hlt]
theorem ww {b b' : Nat} (new : Obj) (h : b' ≠ b) : (w.heap.setIfInBounds b new)[b']? = w.heap[b']? := by
  simp [Ne.symm h]
theorem y7 {r : Nat} {es : Array MapEntry} {clock : Nat} (hb : w.heap[r]? = some (.map es clock)) : (getObj r).run P w = .ok (.map es clock) w := by
  simp [getObj, Sem.run, hb]
theorem zbs {r : Nat} {es : Array MapEntry} {clock : Nat} (o : Obj) (hb : w.heap[r]? = some (.map es clock)) : (setObj r o).run P w = .ok () { w with heap := w.heap.setIfInBounds r o } := by
  simp [setObj, Sem.run, hb]
def bare : Obj -> Prop
  | .cells .. => False
  | _ => True
theorem znc {b : Nat} {old new : Obj} (hb : w.heap[b]? = some old) (ho : bare old) (hn : bare new) (a : Addr) : World.cell? { w with heap := w.heap.setIfInBounds b new } a = w.cell? a := by
  simp only [World.cell?]
  by_cases h : a.block = b
  · rw [h, zd6 new hb, hb]
    cases old <;> cases new <;> simp_all [bare]
  · rw [ww new h]
theorem jr {b : Nat} {old new : Obj} (hb : w.heap[b]? = some old) (ho : bare old) (hn : bare new) (T : Nat -> Nat -> Prop) : Keeps w T { w with heap := w.heap.setIfInBounds b new } T where
  cell b' o c hc _ := by rw [znc hb ho hn]; exact hc
  out _ _ _ _ h := h
  shp b' c e fr h := by
    by_cases hbb : b' = b
    · subst hbb; rw [hb] at h; cases h; exact ho.elim
    · exact ⟨c, fr, by rw [<- h]; exact ww new hbb, rfl⟩
/-- An object that is no row of cells is turned. -/
theorem zfx (sto : StoreOK st Oth M w) {b : Nat} {old new : Obj} {x y : AObj} (hx : st.obj b = some x) (hb : w.heap[b]? = some old) (ho : bare old) (hn : bare new)
    (hy : ObjRel { w with heap := w.heap.setIfInBounds b new } (fun b o => M b o \/ Oth b o) y b) :
    StoreOK (st.setObj b y) Oth M { w with heap := w.heap.setIfInBounds b new } /\ Chg M w M { w with heap := w.heap.setIfInBounds b new } := by
  have hk := jr hb ho hn (fun b o => M b o \/ Oth b o)
  have hM := (sto.obj b x hx).2
  refine ⟨{ obj := fun b' z hz => ?_, tok := fun b' top ht => ?_, mlt := fun b' o hm => ?_, olt := fun b' o hm => ?_, dis := sto.dis }, ?_⟩
  · by_cases hbb : b' = b
    · subst hbb
      rw [zb] at hz
      cases hz
      exact ⟨hy, hM⟩
    · rw [zf hbb] at hz
      exact ⟨ObjRel.same (sto.obj b' z hz).1 hk (ww new hbb), (sto.obj b' z hz).2⟩
  · obtain ⟨c, e, fr, h1, h2⟩ := sto.tok b' top ht
    have hbb : b' ≠ b := fun e => by rw [e, hb] at h1; cases h1; exact ho.elim
    exact ⟨c, e, fr, by rw [<- h1]; exact ww new hbb, h2⟩
  · have := sto.mlt b' o hm; simpa using this
  · have := sto.olt b' o hm; simpa using this
  · exact { size := by simp
            keep := fun b' o hb' _ => znc hb ho hn _
            blk := fun b' hb' hm => by
              have hbb : b' ≠ b := fun e => hm 0 (e ▸ hM 0)
              exact ww new hbb
            shp := fun b' c e fr h => (jr hb ho hn (fun _ _ => False)).shp b' c e fr h
            sub := fun _ _ h _ => h
            tape := rfl, os := rfl, output := rfl }
theorem zgx {α : Type} {q : α -> Bool} : ∀ {l : List α} {i : Nat} {e : α}, l.findIdx? q = some i -> l[i]? = some e -> l.find? q = some e := by
  intro l
  induction l with
  | nil => intro i e h; simp at h
  | cons a l ih =>
    intro i e h he
    rw [List.findIdx?_cons] at h
    cases hq : q a with
    | true => rw [hq] at h; simp at h; subst h; simp at he; subst he; simp [List.find?_cons, hq]
    | false =>
      rw [hq] at h
      simp only [Bool.false_eq_true, if_false, Option.map_eq_some_iff] at h
      obtain ⟨j, hj, rfl⟩ := h
      rw [List.find?_cons, hq]
      exact ih hj (by simpa using he)
theorem zer {α : Type} {q : α -> Bool} {l : List α} (h : l.findIdx? q = none) : l.find? q = none := by
  rw [List.findIdx?_eq_none_iff] at h
  rw [List.find?_eq_none]
  intro x hx
  simp [h x hx]
/-- What a look-up tells. -/
def zc5 (ok : Bool) (z : AV) (r : Option (AV × AV)) : AV :=
  match ok, r with
  | true, some e => .tup [e.2, .s (.bool true)]
  | true, none => .tup [z, .s (.bool false)]
  | false, some e => e.2
  | false, none => z
theorem zk6 {T : Nat -> Nat -> Prop} {x : AV} {v : Value} (b : Bool) (h : VRel w T x v) : VRel w T (.tup [x, .s (.bool b)]) (.tuple #[v, .bool b]) :=
  yq (Reads.cons h (Reads.cons (.s _) Reads.nil))
theorem zgf {T : Nat -> Nat -> Prop} {x y : AV} {vs : List Value} (h : Reads w T [x, y] vs) : ∃ u v, vs = [u, v] /\ VRel w T x u /\ VRel w T y v := by
  obtain ⟨h1, h2⟩ := h
  match vs, h1 with
  | [u, v], _ => exact ⟨u, v, rfl, h2 0 x u rfl rfl, h2 1 y v rfl rfl⟩
theorem yjo {T : Nat -> Nat -> Prop} {x y z : AV} {vs : List Value} (h : Reads w T [x, y, z] vs) : ∃ u v t, vs = [u, v, t] /\ VRel w T x u /\ VRel w T y v /\ VRel w T z t := by
  obtain ⟨h1, h2⟩ := h
  match vs, h1 with
  | [u, v, t], _ => exact ⟨u, v, t, rfl, h2 0 x u rfl rfl, h2 1 y v rfl rfl, h2 2 z t rfl rfl⟩
theorem zlx {T : Nat -> Nat -> Prop} {x : AV} {vs : List Value} (h : Reads w T [x] vs) : ∃ u, vs = [u] /\ VRel w T x u := by
  obtain ⟨h1, h2⟩ := h
  match vs, h1 with
  | [u], _ => exact ⟨u, rfl, h2 0 x u rfl rfl⟩
theorem y4 {o : Oper} {t kt e : TypeId} {x ix : Operand} {ok : Bool} (ho : o.op = .lookup t x ix ok) {it ie ik : TI} (hit : c.I t = some it) (hty : it.ty = .map kt e) (hie : c.I e = some ie) (hik : c.I kt = some ik)
    {m clk : Nat} {es : List (AV × AV)} {bs : List Nat} {k : AV} (hm : st.obj m = some (.map es bs clk)) (hk : zwk c.I kt k = true) (q : AV × AV -> Bool) (hq : ∀ e ∈ es, eqAV c.I 5 kt k e.1 = some (q e))
    {R : AV -> Store -> Prop} (h : R (zc5 ok (zav ie) (es.find? q)) st) : AEff P c o [.s (.map (some m)), k] st R := by
  refine ⟨fun Oth M w ρ hI sto hr => ?_⟩
  rw [ho] at hr
  have hr : Reads w (fun b o => M b o \/ Oth b o) [.s (.map (some m)), k] [ρ x, ρ ix] := by simpa [Op.operands] using hr
  obtain ⟨u, v, he, h1, h2⟩ := zgf hr
  simp only [List.cons.injEq, and_true] at he
  obtain ⟨hu, hv⟩ := he
  rw [<- hu] at h1
  rw [<- hv] at h2
  have h1 := VRel.eq_s h1
  obtain ⟨⟨ms, g1, g2, g3, g4⟩, hM⟩ := sto.obj m _ hm
  obtain ⟨r, r1, r2⟩ := zai (kt := kt) (k := k) (kv := ρ ix) hI h2 q (es := es) (ms := ms.toList) (by simpa using g2) (fun i x y hx hy => (g3 i x y hx (by simpa using hy)).1) hq (by rw [hik]; rfl)
  obtain ⟨z, z1, z2⟩ := zq4 (hI _ _ hie) w (fun b o => M b o \/ Oth b o)
  have hck := wd hI hk h2 ms.isEmpty
  have hu := zn (P := P) (zh0 (hI _ _ hit) hty)
  have done : ∀ val : Value, VRel w (fun b o => M b o \/ Oth b o) (zc5 ok (zav ie) (es.find? q)) val -> (execOp ρ o).run P w = .ok (.value val) w ->
      match (execOp ρ o).run P w with
      | .ok (.value v) w' => zt st R Oth M w v w'
      | .ok .skip w' => o.dst = none /\ zt st R Oth M w (.tuple #[]) w'
      | _ => False := by
    intro val hval hrun
    rw [hrun]
    exact ⟨_, st, M, h, hval, sto, Chg.refl _ _⟩
  rcases r2 with ⟨rfl, r3⟩ | ⟨i, en, me, rfl, r3, r4, r5, r6⟩
  · rw [zer r3] at done
    cases ok with
    | true => exact done _ (zk6 false z2) (by simp [execOp, ho, Instr.lookup, hu, h1, y7 g1, hck, r1, z1])
    | false => exact done _ z2 (by simp [execOp, ho, Instr.lookup, hu, h1, y7 g1, hck, r1, z1])
  · have hval := (g3 i en me r4 (by simpa using r5)).2
    rw [zgx r3 r4] at done
    cases ok with
    | true => exact done _ (zk6 true hval) (by simp [execOp, ho, Instr.lookup, hu, h1, y7 g1, hck, r1])
    | false => exact done _ hval (by simp [execOp, ho, Instr.lookup, hu, h1, y7 g1, hck, r1])
/-- A key whose value is told. -/
def zwj : AV -> Bool
  | .s (.int _ _) => true
  | .s (.bool _) => true
  | .agg cs => cs.all fun | .s (.int _ _) => true | _ => false
  | _ => false
theorem zem {T T' : Nat -> Nat -> Prop} {w' : World} {k : AV} {u v : Value} (hk : zwj k = true) (hu : VRel w T k u) (hv : VRel w' T' k v) : u = v /\ ∀ n, Instr.sameBits (n + 1) u u = true := by
  unfold zwj at hk
  split at hk
  · rw [VRel.eq_s hu, VRel.eq_s hv]; exact ⟨rfl, fun n => by simp [Instr.sameBits]⟩
  · rw [VRel.eq_s hu, VRel.eq_s hv]; exact ⟨rfl, fun n => by simp [Instr.sameBits]⟩
  · rename_i cs
    obtain ⟨c1, rfl, h1⟩ := x8 hu
    obtain ⟨c2, rfl, h2⟩ := x8 hv
    have hint : ∀ (i : Nat) (y : AV), cs[i]? = some y -> ∃ k n, y = .s (.int k n) := by
      intro i y hy
      have := List.all_eq_true.1 hk y (List.mem_of_getElem? hy)
      split at this
      · exact ⟨_, _, rfl⟩
      · cases this
    have heq : c1 = c2 := by
      apply Array.ext_getElem?
      intro i
      have e1 := h1.1
      have e2 := h2.1
      simp only [Array.length_toList] at e1 e2
      by_cases hi : i < cs.length
      · obtain ⟨k, n, hy⟩ := hint i cs[i] (List.getElem?_eq_getElem hi)
        have h3 := h1.2 i cs[i] c1[i] (List.getElem?_eq_getElem hi) (by simp)
        have h4 := h2.2 i cs[i] c2[i] (List.getElem?_eq_getElem hi) (by simp)
        rw [hy] at h3 h4
        rw [Array.getElem?_eq_getElem (by omega), Array.getElem?_eq_getElem (by omega), VRel.eq_s h3, VRel.eq_s h4]
      · rw [Array.getElem?_eq_none (by omega), Array.getElem?_eq_none (by omega)]
    refine ⟨by rw [heq], fun n => ?_⟩
    have hall : ∀ y ∈ c1.toList, ∃ k n, y = .int k n := by
      intro y hy
      obtain ⟨i, hi, rfl⟩ := List.getElem_of_mem hy
      have hi' : i < cs.length := by rw [h1.1]; exact hi
      obtain ⟨k, n, hx⟩ := hint i cs[i] (List.getElem?_eq_getElem hi')
      have h3 := h1.2 i cs[i] _ (List.getElem?_eq_getElem hi') (List.getElem?_eq_getElem hi)
      rw [hx] at h3
      exact ⟨k, n, VRel.eq_s h3⟩
    rw [Instr.sameBits]
    simp only [beq_self_eq_true, Bool.true_and]
    generalize c1.toList = L at hall
    clear heq h1 h2 hu hv
    induction L with
    | nil => simp
    | cons a L ih =>
      obtain ⟨k, m, rfl⟩ := hall a (by simp)
      simp only [List.zip_cons_cons, List.all_cons, Bool.and_eq_true]
      refine ⟨?_, ih fun y hy => hall y (by simp [hy])⟩
      cases n <;> simp [Instr.sameBits]
  · cases hk
/-- The entries with one turned, or one more. -/
def jz (es : List (AV × AV)) (bs : List Nat) (clk : Nat) (q : AV × AV -> Bool) (k v : AV) : AObj :=
  match es.findIdx? q with
  | some i => .map (es.set i (k, v)) bs clk
  | none => .map (es ++ [(k, v)]) (bs ++ [clk]) (clk + 1)
theorem xu {o : Oper} {t kt e : TypeId} {x ix y : Operand} (ho : o.op = .mapUpdate t x ix y \/ o.op = .insert t x ix y) (hd : o.dst = none) {it ik : TI} (hit : c.I t = some it) (hty : it.ty = .map kt e) (hik : c.I kt = some ik)
    {m clk : Nat} {es : List (AV × AV)} {bs : List Nat} {k v : AV} (hm : st.obj m = some (.map es bs clk)) (hk : zwk c.I kt k = true) (hdet : zwj k = true) (q : AV × AV -> Bool) (hq : ∀ e ∈ es, eqAV c.I 5 kt k e.1 = some (q e))
    (hsame : ∀ e ∈ es, q e = true -> e.1 = k) {R : AV -> Store -> Prop} (h : R (.tup []) (st.setObj m (jz es bs clk q k v))) : AEff P c o [.s (.map (some m)), k, v] st R := by
  refine ⟨fun Oth M w ρ hI sto hr => ?_⟩
  have hops : o.op.operands = #[x, ix, y] := by rcases ho with ho | ho <;> rw [ho] <;> rfl
  rw [hops] at hr
  have hr : Reads w (fun b o => M b o \/ Oth b o) [.s (.map (some m)), k, v] [ρ x, ρ ix, ρ y] := by simpa using hr
  obtain ⟨u, v', t', he, h1, h2, h3⟩ := yjo hr
  simp only [List.cons.injEq, and_true] at he
  obtain ⟨hu, hv, ht'⟩ := he
  rw [<- hu] at h1
  rw [<- hv] at h2
  rw [<- ht'] at h3
  have h1 := VRel.eq_s h1
  obtain ⟨⟨ms, g1, g2, g3, g4, g5, g6⟩, hM⟩ := sto.obj m _ hm
  obtain ⟨r, r1, r2⟩ := zai (kt := kt) (k := k) (kv := ρ ix) hI h2 q (es := es) (ms := ms.toList) (by simpa using g2) (fun i x y hx hy => (g3 i x y hx (by simpa using hy)).1) hq (by rw [hik]; rfl)
  have hck := wd hI hk h2 false
  have hund := zn (P := P) (zh0 (hI _ _ hit) hty)
  have done : ∀ w', (execOp ρ o).run P w = .ok .skip w' -> (StoreOK (st.setObj m (jz es bs clk q k v)) Oth M w' /\ Chg M w M w') ->
      match (execOp ρ o).run P w with
      | .ok (.value v) w' => zt st R Oth M w v w'
      | .ok .skip w' => o.dst = none /\ zt st R Oth M w (.tuple #[]) w'
      | _ => False := by
    intro w' hrun hok
    rw [hrun]
    exact ⟨hd, _, _, M, h, yq Reads.nil, hok.1, hok.2⟩
  have hexec : (execOp ρ o).run P w = ((Instr.mapUpdate t (ρ x) (ρ ix) (ρ y)).run P w).andThen fun _ w' => .ok .skip w' := by
    rcases ho with ho | ho <;> simp [execOp, ho]
  rcases r2 with ⟨rfl, r3⟩ | ⟨i, en, me, rfl, r3, r4, r5, r6⟩
  · refine done { w with heap := w.heap.setIfInBounds m (.map (ms.push { key := ρ ix, val := ρ y, born := clk }) (clk + 1)) } ?_ ?_
    · rw [hexec]
      simp [Instr.mapUpdate, hund, h1, y7 g1, hck, r1, zbs _ g1]
    · refine zfx sto hm g1 trivial trivial ?_
      unfold jz
      rw [r3]
      have hkp := jr (new := .map (ms.push { key := ρ ix, val := ρ y, born := clk }) (clk + 1)) g1 trivial trivial (fun b o => M b o \/ Oth b o)
      refine ⟨_, zd6 _ g1, by simp [g2], fun i x' y' hx hy => ?_, by simp [g4], fun t ht => ?_, ?_⟩
      · by_cases hi : i < es.length
        · rw [List.getElem?_append_left hi] at hx
          rw [Array.getElem?_push_lt (by omega)] at hy
          have hy : ms[i]? = some y' := by rw [<- hy]; simp
          exact ⟨(g3 i x' y' hx hy).1.keep hkp, (g3 i x' y' hx hy).2.keep hkp⟩
        · rw [List.getElem?_append_right (by omega)] at hx
          have hi2 : i = es.length := by
            have := (List.getElem?_eq_some_iff.1 hx).1
            simp at this; omega
          subst hi2
          rw [g2, Array.getElem?_push_size] at hy
          simp at hx hy
          subst hx hy
          exact ⟨h2.keep hkp, h3.keep hkp⟩
      · rcases List.mem_append.1 ht with ht | ht
        · have := g5 t ht; omega
        · simp at ht; omega
      · rw [List.pairwise_append]
        refine ⟨g6, by simp, fun a ha b hb => ?_⟩
        simp at hb
        subst hb
        exact g5 a ha
  · have hme : ms[i]? = some me := by simpa using r5
    have hkey : me.key = ρ ix := by
      have := (g3 i en me r4 hme).1
      rw [hsame en (List.mem_of_getElem? r4) r6] at this
      exact (zem hdet this h2).1
    have hsb := (zem hdet h2 h2).2 9999
    have hstay : (Instr.keyThatStays (((ms[i]?).map (·.key)).getD (ρ ix)) (ρ ix)).run P w = .ok (ρ ix) w := by
      rw [hme]
      simp only [Option.map_some, Option.getD_some, hkey, Instr.keyThatStays]
      rw [if_pos hsb]; rfl
    refine done { w with heap := w.heap.setIfInBounds m (.map (ms.modify i fun e => { e with key := ρ ix, val := ρ y }) clk) } ?_ ?_
    · rw [hexec]
      simp only [Instr.mapUpdate, Sem.run_bind, hund, Result.andThen_ok, h1, y7 g1, hck, r1, hstay, zbs _ g1]
    · refine zfx sto hm g1 trivial trivial ?_
      unfold jz
      rw [r3]
      have hkp := jr (new := .map (ms.modify i fun e => { e with key := ρ ix, val := ρ y }) clk) g1 trivial trivial (fun b o => M b o \/ Oth b o)
      refine ⟨_, zd6 _ g1, by simp [g2], fun j x' y' hx hy => ?_, ?_, g5, g6⟩
      · rw [Array.getElem?_modify] at hy
        by_cases hij : i = j
        · subst hij
          rw [if_pos rfl, hme] at hy
          simp at hy
          rw [List.getElem?_set_self (List.getElem?_eq_some_iff.1 r4).1] at hx
          simp at hx
          subst hx hy
          exact ⟨h2.keep hkp, h3.keep hkp⟩
        · rw [if_neg hij] at hy
          rw [List.getElem?_set_ne hij] at hx
          exact ⟨(g3 j x' y' hx hy).1.keep hkp, (g3 j x' y' hx hy).2.keep hkp⟩
      · rw [g4]
        apply List.ext_getElem?
        intro j
        simp only [List.getElem?_map, Array.getElem?_toList, Array.getElem?_modify]
        by_cases hij : i = j
        · subst hij; rw [if_pos rfl]; cases ms[i]? <;> rfl
        · rw [if_neg hij]
end
end Go.V
namespace Go.V
section
variable {P : Program} {c : Cfg} {w : World} {st : Store} {Oth M : Nat -> Nat -> Prop}
/-- A new object that is no row of cells. -/
theorem zdy (sto : StoreOK st Oth M w) (new : Obj) {y : AObj} (hy : ObjRel (w.alloc new) (fun b o => addB M w.heap.size b o \/ Oth b o) y w.heap.size) :
    Fresh st w.heap.size /\ StoreOK (st.setObj w.heap.size y) Oth (addB M w.heap.size) (w.alloc new) /\ Chg M w (addB M w.heap.size) (w.alloc new) := by
  refine ⟨sto.fresh (Nat.le_refl _), ?_, vf w new M⟩
  have h := sto.alloc new
  refine { obj := fun b z hz => ?_, tok := h.tok, mlt := h.mlt, olt := h.olt, dis := h.dis }
  by_cases hb : b = w.heap.size
  · subst hb
    rw [zb] at hz
    cases hz
    exact ⟨hy, fun o => .inr rfl⟩
  · rw [zf hb] at hz
    exact h.obj b z hz
theorem vw {o : Oper} {t : TypeId} (ho : o.op = .makeMap t none) {R : AV -> Store -> Prop}
    (h : ∀ b, Fresh st b -> R (.s (.map (some b))) (st.setObj b (.map [] [] 0))) : AEff P c o [] st R := by
  refine ⟨fun Oth M w ρ hI sto hr => ?_⟩
  have hrun : (execOp ρ o).run P w = .ok (.value (.map (some w.heap.size))) (w.alloc (.map #[] 0)) := by
    simp [execOp, ho, Instr.makeMap]
  rw [hrun]
  obtain ⟨h1, h2, h3⟩ := zdy sto (.map #[] 0) (y := .map [] [] 0) ⟨#[], qq w _, rfl, fun i x y hx => by simp at hx, rfl, by simp, List.Pairwise.nil⟩
  exact ⟨_, _, _, h _ h1, .s _, h2, h3⟩
/-- The entries with one less. -/
def zb7 (es : List (AV × AV)) (bs : List Nat) (clk : Nat) (q : AV × AV -> Bool) : AObj :=
  match es.findIdx? q with
  | some i => .map (es.eraseIdx i) (bs.eraseIdx i) clk
  | none => .map es bs clk
theorem getElem?_eraseIdx' {α : Type} (l : List α) (i j : Nat) : (l.eraseIdx i)[j]? = if j < i then l[j]? else l[j + 1]? := List.getElem?_eraseIdx
theorem kk {α β : Type} (f : α -> β) : ∀ (l : List α) (i : Nat), (l.map f).eraseIdx i = (l.eraseIdx i).map f
  | [], _ => rfl
  | _ :: _, 0 => rfl
  | a :: l, i + 1 => by simp [kk f l i]
theorem zcl {o : Oper} {cl : Call} {t kt e : TypeId} {x ix : Operand} (ho : o.op = .call cl) (hcl : cl.callee = .builtin .delete) (hargs : cl.args = #[x, ix]) (hat : cl.argTypes[0]? = some t)
    {it ik : TI} (hit : c.I t = some it) (hty : it.ty = .map kt e) (hik : c.I kt = some ik)
    {m clk : Nat} {es : List (AV × AV)} {bs : List Nat} {k : AV} (hm : st.obj m = some (.map es bs clk)) (hk : zwk c.I kt k = true) (q : AV × AV -> Bool) (hq : ∀ e ∈ es, eqAV c.I 5 kt k e.1 = some (q e))
    {R : AV -> Store -> Prop} (h : R (.tup []) (st.setObj m (zb7 es bs clk q))) : AEff P c o [.s (.map (some m)), k] st R := by
  refine ⟨fun Oth M w ρ hI sto hr => ?_⟩
  have hops : o.op.operands = #[x, ix] := by rw [ho]; simp [Op.operands, Call.operands, hcl, hargs]
  rw [hops] at hr
  have hr : Reads w (fun b o => M b o \/ Oth b o) [.s (.map (some m)), k] [ρ x, ρ ix] := by simpa using hr
  obtain ⟨u, v', he, h1, h2⟩ := zgf hr
  simp only [List.cons.injEq, and_true] at he
  obtain ⟨hu, hv⟩ := he
  rw [<- hu] at h1
  rw [<- hv] at h2
  have h1 := VRel.eq_s h1
  obtain ⟨⟨ms, g1, g2, g3, g4, g5, g6⟩, hM⟩ := sto.obj m _ hm
  obtain ⟨r, r1, r2⟩ := zai (kt := kt) (k := k) (kv := ρ ix) hI h2 q (es := es) (ms := ms.toList) (by simpa using g2) (fun i x y hx hy => (g3 i x y hx (by simpa using hy)).1) hq (by rw [hik]; rfl)
  have hck := wd hI hk h2 ms.isEmpty
  have hund := zn (P := P) (zh0 (hI _ _ hit) hty)
  have hexec : (execOp ρ o).run P w = ((Builtin.delete_ cl.argTypes o.type #[ρ x, ρ ix]).run P w).andThen fun v w' => .ok (.value v) w' := by
    simp [execOp, ho, resolve, hcl, invoke, builtin, hargs]
  have done : ∀ w', (execOp ρ o).run P w = .ok (.value (.tuple #[])) w' -> (StoreOK (st.setObj m (zb7 es bs clk q)) Oth M w' /\ Chg M w M w') ->
      match (execOp ρ o).run P w with
      | .ok (.value v) w' => zt st R Oth M w v w'
      | .ok .skip w' => o.dst = none /\ zt st R Oth M w (.tuple #[]) w'
      | _ => False := by
    intro w' hrun hok
    rw [hrun]
    exact ⟨_, _, M, h, yq Reads.nil, hok.1, hok.2⟩
  rcases r2 with ⟨rfl, r3⟩ | ⟨i, en, me, rfl, r3, r4, r5, r6⟩
  · refine done { w with heap := w.heap.setIfInBounds m (.map ms clk) } ?_ ?_
    · rw [hexec]
      simp [Builtin.delete_, hat, hund, h1, y7 g1, hck, r1, zbs _ g1]
    · refine zfx sto hm g1 trivial trivial ?_
      unfold zb7
      rw [r3]
      have hkp := jr (new := .map ms clk) g1 trivial trivial (fun b o => M b o \/ Oth b o)
      exact ⟨_, zd6 _ g1, g2, fun i x' y' hx hy => ⟨(g3 i x' y' hx hy).1.keep hkp, (g3 i x' y' hx hy).2.keep hkp⟩, g4, g5, g6⟩
  · refine done { w with heap := w.heap.setIfInBounds m (.map (ms.eraseIdxIfInBounds i) clk) } ?_ ?_
    · rw [hexec]
      simp [Builtin.delete_, hat, hund, h1, y7 g1, hck, r1, zbs _ g1]
    · refine zfx sto hm g1 trivial trivial ?_
      unfold zb7
      rw [r3]
      have hkp := jr (new := .map (ms.eraseIdxIfInBounds i) clk) g1 trivial trivial (fun b o => M b o \/ Oth b o)
      have hi : i < ms.size := by have := (List.getElem?_eq_some_iff.1 r4).1; omega
      have htl : (ms.eraseIdxIfInBounds i).toList = ms.toList.eraseIdx i := by
        simp [Array.eraseIdxIfInBounds, hi]
      have hsub : (bs.eraseIdx i).Sublist bs := List.eraseIdx_sublist ..
      refine ⟨_, zd6 _ g1, ?_, fun j x' y' hx hy => ?_, ?_, fun t ht => g5 t (hsub.subset ht), g6.sublist hsub⟩
      · have : (ms.eraseIdxIfInBounds i).size = (ms.toList.eraseIdx i).length := by rw [<- htl, Array.length_toList]
        rw [this, List.length_eraseIdx, List.length_eraseIdx]
        simp [g2]
      · have hy : (ms.toList.eraseIdx i)[j]? = some y' := by rw [<- htl, Array.getElem?_toList]; exact hy
        rw [getElem?_eraseIdx'] at hx hy
        by_cases hj : j < i
        · rw [if_pos hj] at hx hy
          have := g3 j x' y' hx (by simpa using hy)
          exact ⟨this.1.keep hkp, this.2.keep hkp⟩
        · rw [if_neg hj] at hx hy
          have := g3 (j + 1) x' y' hx (by simpa using hy)
          exact ⟨this.1.keep hkp, this.2.keep hkp⟩
      · rw [htl, g4, kk]
theorem ztq {o : Oper} {t kt e : TypeId} {x : Operand} (ho : o.op = .range t x) {it : TI} (hit : c.I t = some it) (hty : it.ty = .map kt e)
    {m clk : Nat} {es : List (AV × AV)} {bs : List Nat} (hm : st.obj m = some (.map es bs clk)) {R : AV -> Store -> Prop}
    (h : ∀ b, Fresh st b -> R (.s (.pointer (some ⟨b, 0, none⟩))) (st.setObj b (.iter m clk [] clk))) : AEff P c o [.s (.map (some m))] st R := by
  refine ⟨fun Oth M w ρ hI sto hr => ?_⟩
  rw [ho] at hr
  have hr : Reads w (fun b o => M b o \/ Oth b o) [.s (.map (some m))] [ρ x] := by simpa [Op.operands] using hr
  obtain ⟨u, he, h1⟩ := zlx hr
  simp only [List.cons.injEq, and_true] at he
  rw [<- he] at h1
  have h1 := VRel.eq_s h1
  obtain ⟨⟨ms, g1, g2⟩, hM⟩ := sto.obj m _ hm
  have hund := zn (P := P) (zh0 (hI _ _ hit) hty)
  have hrun : (execOp ρ o).run P w = .ok (.value (.pointer (some ⟨w.heap.size, 0, none⟩))) (w.alloc (.mapIter (some m) clk #[] clk)) := by
    simp [execOp, ho, Instr.range, hund, h1, y7 g1]
  rw [hrun]
  obtain ⟨h2, h3, h4⟩ := zdy sto (.mapIter (some m) clk #[] clk) (y := .iter m clk [] clk) (qq w _)
  exact ⟨_, _, _, h _ h2, .s _, h3, h4⟩
theorem zcz (n : Nat) (hn : 0 < n) (w : World) : ∃ i w', i < n /\ Grow w w' /\ w'.heap = w.heap /\ (choose (.mapNext n)).run P w = .ok i w' := by
  by_cases h1 : n <= 1
  · refine ⟨0, w, hn, Grow.refl w, rfl, ?_⟩
    simp only [choose, Sem.run]
    rw [if_pos (by simpa [Question.forced] using h1)]
  · refine ⟨w.tape w.drawn (.mapNext n) % n, w.drew, Nat.mod_lt _ hn, Grow.drew w, rfl, ?_⟩
    simp only [choose, Sem.run]
    rw [if_neg (by simpa [Question.forced] using h1)]
    rfl
theorem zyg {o : Oper} {x : Operand} (ho : o.op = .next x false)
    {b m clk : Nat} {es : List (AV × AV)} {bs seen : List Nat} (hb : st.obj b = some (.iter m clk seen clk)) (hm : st.obj m = some (.map es bs clk)) {R : AV -> Store -> Prop}
    (h1 : (∀ t ∈ bs, t ∈ seen) -> R (.tup [.s (.bool false)]) st)
    (h2 : ∀ (i : Nat) (e : AV × AV) (t : Nat), es[i]? = some e -> bs[i]? = some t -> t ∉ seen -> R (.tup [.s (.bool true), e.1, e.2]) (st.setObj b (.iter m clk (seen ++ [t]) clk))) : AEff P c o [.s (.pointer (some ⟨b, 0, none⟩))] st R := by
  refine ⟨fun Oth M w ρ hI sto hr => ?_⟩
  rw [ho] at hr
  have hr : Reads w (fun b o => M b o \/ Oth b o) [.s (.pointer (some ⟨b, 0, none⟩))] [ρ x] := by simpa [Op.operands] using hr
  obtain ⟨u, he, hx⟩ := zlx hr
  simp only [List.cons.injEq, and_true] at he
  rw [<- he] at hx
  have hx := VRel.eq_s hx
  obtain ⟨⟨ms, g1, g2, g3, g4, g5, g6⟩, hM⟩ := sto.obj m _ hm
  obtain ⟨hit, hMb⟩ := sto.obj b _ hb
  have hit : w.heap[b]? = some (.mapIter (some m) clk seen.toArray clk) := hit
  have born : ∀ y ∈ ms, y.born < clk := fun y hy => g5 _ (by rw [g4]; exact List.mem_map_of_mem (Array.mem_toList_iff.2 hy))
  have hall : (!seen.toArray.isEmpty && !ms.isEmpty && ms.all (fun e => decide (e.born >= clk))) = false := by
    cases hms : ms.isEmpty with
    | true => simp
    | false =>
      have hne : 0 < ms.size := by
        have : ms ≠ #[] := fun e => by rw [e] at hms; simp at hms
        cases hs : ms.size with
        | zero => exact absurd (Array.eq_empty_of_size_eq_zero hs) this
        | succ n => omega
      have : ms.all (fun e => decide (e.born >= clk)) = false := by
        rw [Array.all_eq_false']
        exact ⟨ms[0], by simp, by have := born ms[0] (by simp); simp; omega⟩
      rw [this]; simp
  have hnew : (Array.filter (fun e => !seen.toArray.contains e.born) ms).filter (fun e => decide (e.born >= clk)) = #[] := by
    rw [Array.filter_eq_empty_iff]
    intro y hy
    have := born y (by rw [Array.mem_filter] at hy; exact hy.1)
    simp; omega
  have hold : (Array.filter (fun e => !seen.toArray.contains e.born) ms).filter (fun e => decide (e.born < clk)) = Array.filter (fun e => !seen.toArray.contains e.born) ms := by
    rw [Array.filter_eq_self]
    intro y hy
    have := born y (by rw [Array.mem_filter] at hy; exact hy.1)
    simpa using this
  have hgo : (getObj b).run P w = .ok (.mapIter (some m) clk seen.toArray clk) w := by simp [getObj, Sem.run, hit]
  generalize hleft : Array.filter (fun e => !seen.toArray.contains e.born) ms = left at hnew hold
  have hlm : ∀ y ∈ left, y ∈ ms /\ y.born ∉ seen := by
    intro y hy
    rw [<- hleft, Array.mem_filter] at hy
    exact ⟨hy.1, by simpa using hy.2⟩
  let cands : Array (Option MapEntry) := (if left.isEmpty then #[none] else #[]) ++ (left ++ #[]).map some
  have hcs : 0 < cands.size := by
    cases hl : left.isEmpty with
    | true => simp [cands, hl]; omega
    | false =>
      have : left ≠ #[] := fun e => by rw [e] at hl; simp at hl
      have : left.size ≠ 0 := fun e => this (Array.eq_empty_of_size_eq_zero e)
      simp [cands, hl]
      omega
  obtain ⟨i, w1, hi, hg, hheap, hch⟩ := zcz (P := P) cands.size hcs w
  have hexec : (execOp ρ o).run P w = ((Instr.next (ρ x) false o.type).run P w).andThen fun v w' => .ok (.value v) w' := by
    simp [execOp, ho]
  cases hl : left.isEmpty with
  | true =>
    have hc0 : cands = #[none] := by
      have : left = #[] := by simpa using hl
      simp [cands, this]
    have hi0 : i = 0 := by rw [hc0] at hi; simpa using hi
    have hrun : (execOp ρ o).run P w = .ok (.value (.tuple #[.bool false])) w1 := by
      rw [hexec]
      simp only [Instr.next, hx, Sem.run_bind, hgo, Result.andThen_ok, y7 g1, hall, Bool.false_eq_true, if_false, hleft, hold, hnew, Sem.run_pure]
      show ((((choose (.mapNext cands.size)).run P w).andThen _).andThen _) = _
      rw [hch]
      simp only [Result.andThen_ok]
      rw [show ((if left.isEmpty = true then #[none] else #[]) ++ Array.map some (left ++ #[]) : Array (Option MapEntry)) = cands from rfl, hc0, hi0]
      simp
    rw [hrun]
    refine ⟨_, st, M, h1 fun t ht => ?_, yq (Reads.cons (.s _) Reads.nil), sto.grow hg, hg.chg M⟩
    rw [g4] at ht
    obtain ⟨y, hy, rfl⟩ := List.mem_map.1 ht
    have hle : left = #[] := by simpa using hl
    rw [<- hleft, Array.filter_eq_empty_iff] at hle
    have := hle _ (Array.mem_toList_iff.1 hy)
    simpa using this
  | false =>
    have hce : cands = left.map some := by simp [cands, hl]
    have hil : i < left.size := by rw [hce] at hi; simpa using hi
    have hcg : cands[i]? = some (some left[i]) := by rw [hce]; simp [hil]
    have hgo1 : w1.heap[b]? = some (.mapIter (some m) clk seen.toArray clk) := by rw [hheap]; exact hit
    have hset : ∀ ob : Obj, (setObj b ob).run P w1 = .ok () { w1 with heap := w1.heap.setIfInBounds b ob } := fun ob => by simp [setObj, Sem.run, hgo1]
    have hrun : (execOp ρ o).run P w = .ok (.value (.tuple #[.bool true, left[i].key, left[i].val])) { w1 with heap := w1.heap.setIfInBounds b (.mapIter (some m) clk (seen.toArray.push left[i].born) clk) } := by
      rw [hexec]
      simp only [Instr.next, hx, Sem.run_bind, hgo, Result.andThen_ok, y7 g1, hall, Bool.false_eq_true, if_false, hleft, hold, hnew, Sem.run_pure]
      show ((((choose (.mapNext cands.size)).run P w).andThen _).andThen _) = _
      rw [hch]
      simp only [Result.andThen_ok]
      rw [show ((if left.isEmpty = true then #[none] else #[]) ++ Array.map some (left ++ #[]) : Array (Option MapEntry)) = cands from rfl, hcg]
      simp only [Sem.run_bind, hset, Result.andThen_ok, Sem.run_pure]
    rw [hrun]
    obtain ⟨hlm1, hlm2⟩ := hlm left[i] (by simp)
    obtain ⟨j, hj, hje⟩ := Array.mem_iff_getElem.1 hlm1
    have hjs : j < es.length := by omega
    have hms : ms[j]? = some left[i] := by rw [Array.getElem?_eq_getElem hj, hje]
    have hrel := g3 j es[j] left[i] (List.getElem?_eq_getElem hjs) hms
    have hbs : bs[j]? = some left[i].born := by
      rw [g4, List.getElem?_map, Array.getElem?_toList, hms]; rfl
    have sto1 := sto.grow hg
    have hk1 := hg.keeps (fun b o => M b o \/ Oth b o)
    have hk2 := jr (new := .mapIter (some m) clk (seen.toArray.push left[i].born) clk) hgo1 trivial trivial (fun b o => M b o \/ Oth b o)
    obtain ⟨s1, s2⟩ := zfx (y := .iter m clk (seen ++ [left[i].born]) clk) sto1 hb hgo1 trivial trivial (new := .mapIter (some m) clk (seen.toArray.push left[i].born) clk) (by
      show _ = _
      rw [zd6 _ hgo1]
      simp)
    exact ⟨_, _, M, h2 j es[j] left[i].born (List.getElem?_eq_getElem hjs) hbs hlm2,
      yq (Reads.cons (.s _) (Reads.cons ((hrel.1.keep hk1).keep hk2) (Reads.cons ((hrel.2.keep hk1).keep hk2) Reads.nil))), s1, (hg.chg M).trans s2⟩
end
end Go.V
namespace Go.V
section
variable {P : Program} {c : Cfg} {w : World} {st : Store} {Oth M : Nat -> Nat -> Prop}
/-- A map's stamps, as every world has them. -/
structure Stamps (es : List (AV × AV)) (bs : List Nat) (clk : Nat) : Prop where
  len : es.length = bs.length
  lt : ∀ t ∈ bs, t < clk
  inc : bs.Pairwise (· < ·)
/-- What holds of a map in every world may be used. -/
theorem zpn {o : Oper} {args : List AV} {m clk : Nat} {es : List (AV × AV)} {bs : List Nat} (hm : st.obj m = some (.map es bs clk)) {R : AV -> Store -> Prop} (h : Stamps es bs clk -> AEff P c o args st R) : AEff P c o args st R := by
  refine ⟨fun Oth M w ρ hI sto hr => ?_⟩
  obtain ⟨⟨ms, g1, g2, g3, g4, g5, g6⟩, hM⟩ := sto.obj m _ hm
  exact (h ⟨by rw [g4]; simpa using g2, g5, g6⟩).out Oth M w ρ hI sto hr
theorem zxf {t : Nat} {me : MapEntry} : ∀ {L : List MapEntry} {i : Nat}, (L.map (·.born)).Pairwise (· < ·) -> L[i]? = some me -> me.born = t -> L.find? (fun e => e.born == t) = some me := by
  intro L
  induction L with
  | nil => intro i _ h; simp at h
  | cons a L ih =>
    intro i hinc hti hbt
    rw [List.map_cons, List.pairwise_cons] at hinc
    cases i with
    | zero =>
      simp at hti
      subst hti
      rw [List.find?_cons_of_pos (by simp [hbt])]
    | succ i =>
      have hti : L[i]? = some me := by simpa using hti
      have h1 := hinc.1 me.born (List.mem_map_of_mem (List.mem_of_getElem? hti))
      rw [List.find?_cons_of_neg (by simp; omega)]
      exact ih hinc.2 hti hbt
theorem zts {o : Oper} {x : Operand} (ho : o.op = .entry x) {b m clk since : Nat} {es : List (AV × AV)} {bs seen : List Nat} {i t : Nat} {e : AV × AV} (hb : st.obj b = some (.iter m since (seen ++ [t]) clk)) (hm : st.obj m = some (.map es bs clk))
    (he : es[i]? = some e) (hbi : bs[i]? = some t) {R : AV -> Store -> Prop} (h : R (.tup [e.1, e.2]) st) : AEff P c o [.s (.pointer (some ⟨b, 0, none⟩))] st R := by
  refine ⟨fun Oth M w ρ hI sto hr => ?_⟩
  rw [ho] at hr
  have hr : Reads w (fun b o => M b o \/ Oth b o) [.s (.pointer (some ⟨b, 0, none⟩))] [ρ x] := by simpa [Op.operands] using hr
  obtain ⟨u, hx0, hx⟩ := zlx hr
  simp only [List.cons.injEq, and_true] at hx0
  rw [<- hx0] at hx
  have hx := VRel.eq_s hx
  obtain ⟨⟨ms, g1, g2, g3, g4, g5, g6⟩, hM⟩ := sto.obj m _ hm
  obtain ⟨hit, hMb⟩ := sto.obj b _ hb
  have hit : w.heap[b]? = some (.mapIter (some m) since (seen ++ [t]).toArray clk) := hit
  have hgo : (getObj b).run P w = .ok (.mapIter (some m) since (seen ++ [t]).toArray clk) w := by simp [getObj, Sem.run, hit]
  have hlt : i < ms.size := by rw [<- g2]; exact (List.getElem?_eq_some_iff.1 he).1
  have hmi : ms[i]? = some ms[i] := Array.getElem?_eq_getElem hlt
  have hbt : ms[i].born = t := by
    rw [g4, List.getElem?_map, Array.getElem?_toList, hmi] at hbi
    simpa using hbi
  have hfind : ms.find? (fun e => e.born == t) = some ms[i] := by
    rw [<- Array.find?_toList]
    exact zxf (by rw [<- g4]; exact g6) (by rw [Array.getElem?_toList]; exact hmi) hbt
  have hback : (seen ++ [t]).toArray.back? = some t := by simp
  have hrun : (execOp ρ o).run P w = .ok (.value (.tuple #[ms[i].key, ms[i].val])) w := by
    simp only [execOp, ho, Instr.entry, hx, Sem.run_bind, hgo, Result.andThen_ok, hback, y7 g1, bne_self_eq_false, Bool.false_eq_true, if_false, hfind, Sem.run_pure]
  rw [hrun]
  have hrel := g3 i e ms[i] he hmi
  exact ⟨_, st, M, h, yq (Reads.cons hrel.1 (Reads.cons hrel.2 Reads.nil)), sto, Chg.refl _ _⟩
end
end Go.V
namespace Go.V
/-- Two stores side by side. -/
def Store.un (a g : Store) : Store :=
  ⟨fun b => match g.obj b with | some x => some x | none => a.obj b, fun b => match g.tok b with | some x => some x | none => a.tok b⟩
def Store.has (g : Store) (b : Nat) : Prop := g.obj b ≠ none \/ g.tok b ≠ none
def Disj (a g : Store) : Prop := ∀ b, a.has b -> ¬ g.has b
theorem v8 {g : Store} {b : Nat} (h : ¬ g.has b) : g.obj b = none /\ g.tok b = none := by
  constructor
  · cases h1 : g.obj b with
    | none => rfl
    | some x => exact absurd (Or.inl (by rw [h1]; simp)) h
  · cases h1 : g.tok b with
    | none => rfl
    | some x => exact absurd (Or.inr (by rw [h1]; simp)) h
theorem js {g : Store} {b : Nat} {x : AObj} (h : g.obj b = some x) : g.has b := .inl (by rw [h]; simp)
theorem zdb {g : Store} {b : Nat} {x : Nat} (h : g.tok b = some x) : g.has b := .inr (by rw [h]; simp)
theorem fresh_iff {g : Store} {b : Nat} : Fresh g b ↔ ¬ g.has b :=
  ⟨fun ⟨h1, h2⟩ h => h.elim (fun h => h h1) (fun h => h h2), v8⟩
theorem un_r {a g : Store} {b : Nat} {x : AObj} (h : g.obj b = some x) : (a.un g).obj b = some x := by simp [Store.un, h]
theorem un_l {a g : Store} {b : Nat} {x : AObj} (hd : Disj a g) (h : a.obj b = some x) : (a.un g).obj b = some x := by
  simp [Store.un, (v8 (hd b (js h))).1, h]
theorem yj9 {a g : Store} {b : Nat} {x : Nat} (hd : Disj a g) (h : a.tok b = some x) : (a.un g).tok b = some x := by
  simp [Store.un, (v8 (hd b (zdb h))).2, h]
theorem zld {a g : Store} {b : Nat} {x : Nat} (h : g.tok b = some x) : (a.un g).tok b = some x := by simp [Store.un, h]
theorem yjk {a g : Store} {b : Nat} {x : AObj} (h : (a.un g).obj b = some x) : g.obj b = some x \/ (g.obj b = none /\ a.obj b = some x) := by
  simp only [Store.un] at h
  cases h1 : g.obj b with
  | none => rw [h1] at h; exact .inr ⟨rfl, h⟩
  | some y => rw [h1] at h; exact .inl h
theorem yjj {a g : Store} {b : Nat} {x : Nat} (h : (a.un g).tok b = some x) : g.tok b = some x \/ (g.tok b = none /\ a.tok b = some x) := by
  simp only [Store.un] at h
  cases h1 : g.tok b with
  | none => rw [h1] at h; exact .inr ⟨rfl, h⟩
  | some y => rw [h1] at h; exact .inl h
theorem un_has {a g : Store} {b : Nat} : (a.un g).has b ↔ a.has b \/ g.has b := by
  unfold Store.has Store.un
  simp only
  cases g.obj b <;> cases g.tok b <;> simp
section
variable {P : Program}
/-- What a call does with its own, beside what it does not touch. -/
theorem ACalls.frame {f : FuncId} {xs : List AV} {a g : Store} {R R' : AV -> Store -> Prop} (hd : Disj a g) (h : ACalls P f xs a R) (hR : ∀ r a', R r a' -> Disj a' g -> R' r (a'.un g)) : ACalls P f xs (a.un g) R' := by
  refine ⟨fun Oth M w vs sto hr => ?_⟩
  let gM : Nat -> Nat -> Prop := fun b o => M b o /\ g.has b
  let M1 : Nat -> Nat -> Prop := fun b o => M b o /\ ¬ g.has b
  let O1 : Nat -> Nat -> Prop := fun b o => Oth b o \/ gM b o
  have hT : (fun (b o : Nat) => M1 b o \/ O1 b o) = fun b o => M b o \/ Oth b o := by
    funext b o
    apply propext
    constructor
    · rintro (h | h | h)
      · exact .inl h.1
      · exact .inr h
      · exact .inl h.1
    · rintro (h | h)
      · by_cases hg : g.has b
        · exact .inr (.inr ⟨h, hg⟩)
        · exact .inl ⟨h, hg⟩
      · exact .inr (.inl h)
  have sto1 : StoreOK a O1 M1 w :=
    { obj := fun b x hx => by
        rw [hT]
        have := sto.obj b x (un_l hd hx)
        exact ⟨this.1, fun o => ⟨this.2 o, hd b (js hx)⟩⟩
      tok := fun b top hx => by
        obtain ⟨c, e, fr, h1, h2, h3, h4⟩ := sto.tok b top (yj9 hd hx)
        exact ⟨c, e, fr, h1, h2, h3, fun o ho => ⟨h4 o ho, hd b (zdb hx)⟩⟩
      mlt := fun b o hm => sto.mlt b o hm.1
      olt := fun b o hm => by
        rcases hm with h | h
        · exact sto.olt b o h
        · exact sto.mlt b o h.1
      dis := fun b o hO hM => by
        rcases hO with h | h
        · exact sto.dis b o h hM.1
        · exact hM.2 h.2 }
  have h1 := h.out O1 M1 w vs sto1 (by rw [hT]; exact hr)
  have key : ∀ v w', zt a R O1 M1 w v w' -> zt (a.un g) R' Oth M w v w' := by
    rintro v w' ⟨r, a', M2, hRr, hv, hsto, hchg⟩
    let M' : Nat -> Nat -> Prop := fun b o => M2 b o \/ gM b o
    have hT2 : (fun (b o : Nat) => M2 b o \/ O1 b o) = fun b o => M' b o \/ Oth b o := by
      funext b o
      apply propext
      constructor
      · rintro (h | h | h)
        · exact .inl (.inl h)
        · exact .inr h
        · exact .inl (.inr h)
      · rintro ((h | h) | h)
        · exact .inl h
        · exact .inr (.inr h)
        · exact .inr (.inl h)
    have hglt : ∀ b, g.has b -> b < w.heap.size := by
      intro b hb
      rcases hb with hb | hb
      · cases hx : g.obj b with
        | none => exact absurd hx hb
        | some x => exact sto.mlt b 0 ((sto.obj b x (un_r hx)).2 0)
      · cases hx : g.tok b with
        | none => exact absurd hx hb
        | some x =>
          obtain ⟨c, e, fr, h1, _⟩ := sto.tok b x (zld hx)
          exact z6 h1
    have hno : ∀ b o, M2 b o -> ¬ g.has b := fun b o hm hg => (hchg.sub b o hm (hglt b hg)).2 hg
    have hd' : Disj a' g := by
      intro b hb
      rcases hb with hb | hb
      · cases hx : a'.obj b with
        | none => exact absurd hx hb
        | some x => exact hno b 0 ((hsto.obj b x hx).2 0)
      · cases hx : a'.tok b with
        | none => exact absurd hx hb
        | some x =>
          obtain ⟨c, e, fr, h1, h2, h3, h4⟩ := hsto.tok b x hx
          exact hno b x (h4 x (Nat.le_refl _))
    have hblk : ∀ b, g.has b -> w'.heap[b]? = w.heap[b]? := fun b hg => hchg.blk b (hglt b hg) fun o hm => hm.2 hg
    refine ⟨r, a'.un g, M', hR r a' hRr hd', by rw [hT2] at hv; exact hv, ?_, ?_⟩
    · refine { obj := fun b x hx => ?_, tok := fun b top hx => ?_, mlt := fun b o hm => ?_, olt := fun b o hm => Nat.lt_of_lt_of_le (sto.olt b o hm) hchg.size, dis := fun b o hO hM => ?_ }
      · rcases yjk hx with hx | ⟨_, hx⟩
        · have h5 := sto.obj b x (un_r hx)
          have hk := hchg.keeps (Oth := O1)
          rw [hT, hT2] at hk
          exact ⟨ObjRel.same h5.1 hk (hblk b (js hx)), fun o => .inr ⟨h5.2 o, js hx⟩⟩
        · have h5 := hsto.obj b x hx
          rw [hT2] at h5
          exact ⟨h5.1, fun o => .inl (h5.2 o)⟩
      · rcases yjj hx with hx | ⟨_, hx⟩
        · obtain ⟨c, e, fr, h1, h2, h3, h4⟩ := sto.tok b top (zld hx)
          exact ⟨c, e, fr, by rw [hblk b (zdb hx)]; exact h1, h2, h3, fun o ho => .inr ⟨h4 o ho, zdb hx⟩⟩
        · obtain ⟨c, e, fr, h1, h2, h3, h4⟩ := hsto.tok b top hx
          exact ⟨c, e, fr, h1, h2, h3, fun o ho => .inl (h4 o ho)⟩
      · rcases hm with h | h
        · exact hsto.mlt b o h
        · exact Nat.lt_of_lt_of_le (sto.mlt b o h.1) hchg.size
      · rcases hM with h | h
        · exact hsto.dis b o (.inl hO) h
        · exact sto.dis b o hO h.1
    · exact
        { size := hchg.size
          keep := fun b o hb hm => hchg.keep b o hb fun h => hm h.1
          blk := fun b hb hm => hchg.blk b hb fun o h => hm o h.1
          shp := hchg.shp
          sub := fun b o hm hb => by
            rcases hm with h | h
            · exact (hchg.sub b o h hb).1
            · exact h.1
          tape := hchg.tape
          os := hchg.os
          output := hchg.output }
  generalize (callFunc f vs).run P w = res at h1
  cases res with
  | ok n w' =>
    cases n with
    | enter f' args => exact Calls.mono h1 fun e w'' ⟨v, he, hv⟩ => ⟨v, he, key _ _ hv⟩
    | value v => exact key _ _ h1
    | _ => exact h1
  | _ => exact h1
/-- A value that reads by no cell. -/
def flat (r : AV) : Prop := ∀ w T w' T' v, VRel w T r v -> VRel w' T' r v
theorem yjw (v : Value) : flat (.s v) := fun _ _ _ _ _ h => by cases h; exact .s _
theorem zxc (cs : List Value) : flat (.agg (cs.map AV.s)) := by
  intro w T w' T' v h
  obtain ⟨c, rfl, hr⟩ := x8 h
  refine jg ⟨hr.1, fun i x y hx hy => ?_⟩
  have := hr.2 i x y hx hy
  rw [List.getElem?_map] at hx
  cases hc : cs[i]? with
  | none => rw [hc] at hx; cases hx
  | some z =>
    rw [hc] at hx
    simp at hx
    subst hx
    cases this
    exact .s _
/-- A call that only looks at what is there, in its plain form. -/
theorem ACalls.read {f : FuncId} {xs ys : List AV} {g : Store} {Q : AV -> Prop} {R : AV -> Store -> Prop}
    (hb : ∀ Oth M w vs, StoreOK g Oth M w -> Reads w (fun b o => M b o \/ Oth b o) xs vs -> Reads w (fun b o => (M b o \/ Oth b o) /\ g.obj b = none) ys vs)
    (h : ACalls P f ys Store.empty fun r _ => Q r) (hf : ∀ r, Q r -> flat r) (hR : ∀ r, Q r -> R r g) : ACalls P f xs g R := by
  refine ⟨fun Oth M w vs sto hr => ?_⟩
  let O1 : Nat -> Nat -> Prop := fun b o => (M b o \/ Oth b o) /\ g.obj b = none
  have sto0 : StoreOK Store.empty O1 (fun _ _ => False) w :=
    { obj := fun b x hx => (by cases hx), tok := fun b x hx => (by cases hx), mlt := fun _ _ h => h.elim, olt := fun b o h => Or.elim h.1 (sto.mlt b o) (sto.olt b o), dis := fun _ _ _ h => h }
  have h1 := h.out O1 (fun _ _ => False) w vs sto0 (by
    have e : (fun (b o : Nat) => False \/ O1 b o) = O1 := by funext b o; simp
    rw [e]; exact hb Oth M w vs.toList sto hr)
  have key : ∀ v w', zt Store.empty (fun r _ => Q r) O1 (fun _ _ => False) w v w' -> zt g R Oth M w v w' := by
    rintro v w' ⟨r, a', M2, hQ, hv, hsto, hchg⟩
    have hg : Grow w w' := ⟨hchg.size, fun b hb => hchg.blk b hb fun _ h => h, hchg.tape, hchg.os, hchg.output⟩
    exact ⟨r, g, M, hR r hQ, hf r hQ _ _ _ _ _ hv, sto.grow hg, hg.chg M⟩
  generalize (callFunc f vs).run P w = res at h1
  cases res with
  | ok n w' =>
    cases n with
    | enter f' args => exact Calls.mono h1 fun e w'' ⟨v, he, hv⟩ => ⟨v, he, key _ _ hv⟩
    | value v => exact key _ _ h1
    | _ => exact h1
  | _ => exact h1
/-- A slice over an object reads as a list for the time that the object rests. -/
theorem zi7 {w : World} {T : Nat -> Nat -> Prop} {b n cap k : Nat} {rows : List (List AV)} {pad : List AV} (ho : CellsRel w T (rows.flatten ++ pad) b) {T' : Nat -> Nat -> Prop} (hT : ∀ o, ¬ T' b o) (hn : rows.length = n) (hcap : n <= cap)
    (hk : ∀ row ∈ rows, row.length = k) (hall : ∀ row ∈ rows, ∀ x ∈ row, ∃ v, x = AV.s v /\ z8 v = true) : VRel w T' (.lst k rows none) (.slice (some ⟨b, 0, none⟩) n cap) := by
  obtain ⟨cs, e0, fr, hb0, huf, hlen, hrel⟩ := ho
  subst hn
  have at1 : ∀ (i : Nat) (row : List AV) (j : Nat) (x : AV), rows[i]? = some row -> row[j]? = some x -> ∃ v, x = .s v /\ z8 v = true /\ cs[i * k + j]? = some v := by
    intro i row j x hi hj
    obtain ⟨v, rfl, hv⟩ := hall row (List.mem_of_getElem? hi) x (List.mem_of_getElem? hj)
    have h5 := xr hk hi hj
    have hlt := (List.getElem?_eq_some_iff.1 h5).1
    have h6 : (rows.flatten ++ pad)[i * k + j]? = some (.s v) := by rw [List.getElem?_append_left hlt]; exact h5
    have hlt2 : i * k + j < cs.size := by rw [<- hlen, List.length_append]; omega
    have h7 := hrel _ _ cs[i * k + j] h6 (by simp [hlt2])
    have : cs[i * k + j] = v := by generalize cs[i * k + j] = y at h7; cases h7; rfl
    exact ⟨v, rfl, hv, by rw [<- this]; simp [hlt2]⟩
  refine VRel.lst rows none b 0 cap k (fun p => cs.getD p undef) hcap (fun i row hi => hk row (List.mem_of_getElem? hi)) (fun _ h => by cases h) (fun i row j x hi hj => ?_) (fun i row j x hi hj => ?_) (fun i row j x hi hj => ?_)
  · obtain ⟨v, rfl, hv, h5⟩ := at1 i row j x hi hj
    refine ⟨?_, hT _⟩
    rw [Nat.zero_add]
    simp only [World.cell?, hb0]
    rw [Array.getD_eq_getD_getElem?, h5]
    simp [h5]
  · obtain ⟨v, rfl, hv, h5⟩ := at1 i row j x hi hj
    rw [Array.getD_eq_getD_getElem?, h5]; exact hv
  · obtain ⟨v, rfl, hv, h5⟩ := at1 i row j x hi hj
    rw [Array.getD_eq_getD_getElem?, h5]; exact .s _
/-- One store says less than another one. -/
def AObj.le (x y : AObj) : Prop := ∀ w T b, ObjRel w T x b -> ObjRel w T y b
structure Store.Le (st st' : Store) : Prop where
  obj : ∀ b y, st'.obj b = some y -> ∃ x, st.obj b = some x /\ AObj.le x y
  tok : ∀ b x, st'.tok b = some x -> st.tok b = some x
theorem AObj.le_refl (x : AObj) : AObj.le x x := fun _ _ _ h => h
theorem Store.Le.refl (st : Store) : st.Le st := ⟨fun b y h => ⟨y, h, AObj.le_refl y⟩, fun _ _ h => h⟩
theorem Store.Has.toLe {st st' : Store} (h : st.Has st') : st.Le st' := ⟨fun b y hy => ⟨y, h.obj b y hy, AObj.le_refl y⟩, h.tok⟩
theorem Store.Le.trans {a b c : Store} (h : a.Le b) (h' : b.Le c) : a.Le c :=
  ⟨fun i z hz => by
    obtain ⟨y, hy, h2⟩ := h'.obj i z hz
    obtain ⟨x, hx, h3⟩ := h.obj i y hy
    exact ⟨x, hx, fun w T b k => h2 w T b (h3 w T b k)⟩, fun i x hx => h.tok i x (h'.tok i x hx)⟩
theorem StoreOK.weakenLe {st st' : Store} {Oth M : Nat -> Nat -> Prop} {w : World} (h : StoreOK st Oth M w) (hh : st.Le st') : StoreOK st' Oth M w :=
  ⟨fun b y k => by
    obtain ⟨x, hx, hle⟩ := hh.obj b y k
    exact ⟨hle _ _ _ (h.obj b x hx).1, (h.obj b x hx).2⟩, fun b x k => h.tok b x (hh.tok b x k), h.mlt, h.olt, h.dis⟩
/-- A contract that says less. -/
theorem ACalls.post {f : FuncId} {xs : List AV} {st st0 : Store} {R R' : AV -> Store -> Prop} (h : ACalls P f xs st0 R) (h0 : st.Le st0) (hR : ∀ r st', R r st' -> ∃ r' st'', AV.le r r' /\ st'.Le st'' /\ R' r' st'') : ACalls P f xs st R' := by
  refine ⟨fun Oth M w vs sto hr => ?_⟩
  have h1 := h.out Oth M w vs (sto.weakenLe h0) hr
  have key : ∀ v w', zt st0 R Oth M w v w' -> zt st R' Oth M w v w' := by
    rintro v w' ⟨r, a', M2, hQ, hv, hsto, hchg⟩
    obtain ⟨r', st'', h2, h3, h4⟩ := hR r a' hQ
    exact ⟨r', st'', M2, h4, h2 _ _ _ hv, hsto.weakenLe h3, hchg⟩
  generalize (callFunc f vs).run P w = res at h1
  cases res with
  | ok n w' =>
    cases n with
    | enter f' args => exact Calls.mono h1 fun e w'' ⟨v, he, hv⟩ => ⟨v, he, key _ _ hv⟩
    | value v => exact key _ _ h1
    | _ => exact h1
  | _ => exact h1
theorem ACalls.imp {f : FuncId} {xs : List AV} {st : Store} {R R' : AV -> Store -> Prop} (h : ACalls P f xs st R) (hR : ∀ r st', R r st' -> R' r st') : ACalls P f xs st R' :=
  h.post (Store.Le.refl st) fun r st' hr => ⟨r, st', AV.le_refl r, Store.Le.refl st', hR r st' hr⟩
/-- A contract off a walk in words of worlds. -/
theorem ACalls.of_calls {f : FuncId} {fn : Func} {code : Code} {xs : List AV} {st : Store} {R : AV -> Store -> Prop} (hf : P.funcs[f]? = some fn) (hb : fn.body = some code) (hname : (fn.name == "runtime.NumGoroutine") = false)
    (h : ∀ (Oth M : Nat -> Nat -> Prop) (w : World) (vs : Array Value), StoreOK st Oth M w -> Reads w (fun b o => M b o \/ Oth b o) xs vs.toList -> Calls P f vs w fun e w' => ∃ v, e = .returned v /\ zt st R Oth M w v w') : ACalls P f xs st R := by
  refine ⟨fun Oth M w vs sto hr => ?_⟩
  have hrun : (callFunc f vs).run P w = .ok (.enter f vs) w := by
    have hne : ¬ fn.name = "runtime.NumGoroutine" := by simpa using hname
    simp [callFunc, run_program, hf, hne, hb]
  rw [hrun]
  exact h Oth M w vs sto hr
/-- A contract off what a function without a text is said to do. -/
theorem ACalls.of_value {f : FuncId} {xs : List AV} {st : Store} {R : AV -> Store -> Prop}
    (h : ∀ (Oth M : Nat -> Nat -> Prop) (w : World) (vs : Array Value), StoreOK st Oth M w -> Reads w (fun b o => M b o \/ Oth b o) xs vs.toList -> ∃ v w', (callFunc f vs).run P w = .ok (.value v) w' /\ zt st R Oth M w v w') : ACalls P f xs st R := by
  refine ⟨fun Oth M w vs sto hr => ?_⟩
  obtain ⟨v, w', h1, h2⟩ := h Oth M w vs sto hr
  rw [h1]
  exact h2
end
/-- Once for all ways; the way to the place may be cut. -/
theorem AWp.meetA {P : Program} {c : Cfg} {σ : Type} (H : Meet σ) {x y : Code} {Q : Exit -> Fr -> Store -> Prop} {A : Fr} {st : Store} (hx : AWp P c x (yfp H.at Q) A st)
    (hy : ∀ s st', H.inv s st' -> AWp P c y Q (mkFr (H.t s) (H.bx s)) st') : AWp P c (.seq x y) Q A st := by
  refine AWp.seq (hx.mono fun e A' st' h => ?_)
  cases e with
  | normal =>
    obtain ⟨s, h1, h2, h3⟩ := h
    exact AWp.weaken (hy s st' h1) h2 h3 (Store.Has.refl st')
  | _ => exact h
/-- A test whose ways are not yet walked. -/
theorem AWp.cond {P : Program} {c : Cfg} {x : Operand} {p q : Code} {Q : Exit -> Fr -> Store -> Prop} {A : Fr} {st : Store} (t : Bool) (ht : A.ev x = .av (.s (.bool t))) (h : zed t (AWp P c p Q A st) (AWp P c q Q A st)) : AWp P c (.cond x p q) Q A st := by
  refine ⟨fun Oth M a w sim => ?_⟩
  have hv : a.eval x = .bool t := by
    obtain ⟨β, s⟩ := sim
    exact VRel.eq_s (yn s.env ht)
  refine wpIn_cond hv ?_
  cases t with
  | true => exact (AWp.out (show AWp P c p Q A st from h)) Oth M a w sim
  | false => exact (AWp.out (show AWp P c q Q A st from h)) Oth M a w sim
end Go.V
namespace Go.V
section
variable {P : Program} {c : Cfg} {w : World} {st : Store} {Oth M : Nat -> Nat -> Prop}
/-- Cells of an object are stored. -/
theorem jx (sto : StoreOK st Oth M w) {b o : Nat} {l xs : List AV} {vs : List Value} {w' : World} (hk : st.obj b = some (.cells l))
    (hx : Reads w (fun b o => M b o \/ Oth b o) xs vs) (hw : Wrote w b o vs w') : StoreOK (st.setObj b (.cells (zo l o xs))) Oth M w' /\ Chg M w M w' := by
  have hM := (sto.obj b _ hk).2
  have hT : ∀ o, M b o \/ Oth b o := fun o => .inl (hM o)
  refine ⟨{ obj := fun b' x hx' => ?_, tok := fun b' top ht => ?_, mlt := fun b' o' hm => ?_, olt := fun b' o' hm => ?_, dis := sto.dis }, hw.chg hM⟩
  · by_cases he : b' = b
    · subst he
      rw [zb] at hx'
      cases hx'
      exact ⟨CellsRel.wrote hw hT (sto.obj b' _ hk).1 hx, hM⟩
    · rw [zf he] at hx'
      exact ⟨ObjRel.same (sto.obj b' x hx').1 (hw.keeps hT) (hw.other b' he), (sto.obj b' x hx').2⟩
  · obtain ⟨c, e, fr, h1, h2, h3, h4⟩ := sto.tok b' top ht
    by_cases he : b' = b
    · subst he
      obtain ⟨c', h5, _, h6⟩ := hw.blk c e fr h1
      exact ⟨c', e, fr, h5, by rw [h6]; exact h2, by rw [h6]; exact h3, h4⟩
    · exact ⟨c, e, fr, by rw [hw.other b' he]; exact h1, h2, h3, h4⟩
  · rw [hw.size]; exact sto.mlt b' o' hm
  · rw [hw.size]; exact sto.olt b' o' hm
/-- A new row of cells. -/
theorem qy (sto : StoreOK st Oth M w) (cs : Array Value) (e : TypeId) {l : List AV} (h : Reads w (fun b o => M b o \/ Oth b o) l cs.toList) :
    Fresh st w.heap.size /\ StoreOK (st.setObj w.heap.size (.cells l)) Oth (addB M w.heap.size) (w.alloc (.cells cs e)) /\ Chg M w (addB M w.heap.size) (w.alloc (.cells cs e)) :=
  zdy sto (.cells cs e) (y := .cells l) (j3 w e M Oth h)
theorem zho {T : Nat -> Nat -> Prop} {b n cap k : Nat} {l : List AV} (h : CellsRel w T l b) (hn : n * k <= l.length) :
    ∃ new : Array Value, Reads w T (l.take (n * k)) new.toList /\ new.size = n * k /\ ∀ w', w'.heap = w.heap -> (Builtin.firstCells k n (.slice (some ⟨b, 0, none⟩) n cap)).run P w' = .ok new w' := by
  obtain ⟨c, e, fr, h1, h2, h3, h4⟩ := h
  have hsz : n * k <= c.size := by omega
  refine ⟨((List.range' 0 (n * k)).map fun i => c.getD i undef).toArray, ?_, by simp, fun w' hw => ?_⟩
  · refine ⟨by simp; omega, fun i x y hx hy => ?_⟩
    have hi : i < n * k := by
      have := (List.getElem?_eq_some_iff.1 hx).1
      simp at this; omega
    rw [List.getElem?_take_of_lt hi] at hx
    simp [hi] at hy
    subst hy
    refine h4 i x _ hx ?_
    rw [Array.getElem?_eq_getElem (by omega)]
    simp [show i < c.size by omega]
  · have := yu (P := P) ⟨b, 0, none⟩ w' (fun i => c.getD i undef) (n * k) 0 #[] (fun p _ hp => by
      rw [x5, zda hw]
      simp only [World.cell?, h1]
      have : p < c.size := by omega
      simp [this])
    simp only [Builtin.firstCells, loadCells]
    simpa using this
theorem zik {T : Nat -> Nat -> Prop} {xs : List AV} {vs : List Value} (h : Reads w T xs vs) (h1 : ∀ x ∈ xs, x.one = true) : ∀ v ∈ vs, z8 v = true := by
  intro v hv
  obtain ⟨i, hi⟩ := List.mem_iff_getElem?.1 hv
  have hlt : i < xs.length := by rw [h.1]; exact (List.getElem?_eq_some_iff.1 hi).1
  exact zok (h.2 i xs[i] v (List.getElem?_eq_getElem hlt) hi) (h1 _ (List.getElem_mem hlt))
/-- An append to a slice over an object. -/
theorem zq2 {e : TypeId} {ie : TI} (hie : c.I e = some ie) {b n cap : Nat} {l : List AV} {x : AV} {rows : List (List AV)} (ho : st.obj b = some (.cells l)) (hcap : cap * ie.size <= l.length) (hn : n <= cap)
    (hx : qf ie.size (.av x) = some rows) (hroom : room (n + rows.length) ie.bytes) {K : AV -> Store -> Prop}
    (h1 : n + rows.length <= cap -> K (.s (.slice (some ⟨b, 0, none⟩) (n + rows.length) cap)) (st.setObj b (.cells (zo l (n * ie.size) rows.flatten))))
    (h2 : cap < n + rows.length -> ∀ b' cap', Fresh st b' -> n + rows.length <= cap' -> cap' <= 9223372036854775807 -> K (.s (.slice (some ⟨b', 0, none⟩) (n + rows.length) cap')) (st.setObj b' (.cells (l.take (n * ie.size) ++ rows.flatten ++ List.replicate ((cap' - (n + rows.length)) * ie.size) .any)))) :
    AppX P c st e (.s (.slice (some ⟨b, 0, none⟩) n cap)) x K := by
  refine ⟨⟨ie, hie⟩, fun ie' hie' Oth M w sv xv argTypes ty args t sto hs hxv hat ht1 hu hti h0 h1' => ?_⟩
  rw [hie] at hie'
  cases hie'
  have hs := VRel.eq_s hs
  subst hs
  have A : AppArgs P c argTypes args t e ie (some ⟨b, 0, none⟩) n cap xv := ⟨hat, ht1, hu, hti, h0, h1'⟩
  obtain ⟨hl1, hl2, new, hnew, hone, hnsz, hfc⟩ := ks (P := P) (β := fun _ => 0) (k := ie.size) (x := .av x) hxv hx
  have hnn : n * ie.size <= l.length := Nat.le_trans (Nat.mul_le_mul_right _ hn) hcap
  by_cases hc : n + rows.length <= cap
  · obtain ⟨⟨cs, e0, fr, hb0, huf, hlen, hrel⟩, hM⟩ := sto.obj b _ ho
    have hfit : n * ie.size + new.toList.length <= cs.size := by
      rw [Array.length_toList, hnsz, <- Nat.add_mul, <- hlen]
      exact Nat.le_trans (Nat.mul_le_mul_right _ hc) hcap
    obtain ⟨w', hw1, hw2⟩ := qo (P := P) w b (n * ie.size) new.toList 0 w cs e0 fr hb0 (.inl huf) hfit hone
    have hrun := vh (w' := w') ty A hl1 (hfc w rfl) hc (fun a ha => by
      cases ha
      rw [x5, Nat.zero_add]; exact hw1) (fun h => by cases h)
    obtain ⟨k1, k2⟩ := jx sto ho hnew hw2
    exact ⟨_, _, hrun, _, _, M, h1 hc, .s _, k1, k2⟩
  · have hc : cap < n + rows.length := by omega
    obtain ⟨old, hold1, hold2, hold3⟩ := zho (P := P) (cap := cap) (sto.obj b _ ho).1 hnn
    obtain ⟨newCap, rest, g1, g0, g2, g3⟩ := jv ty A hl1 (hfc w.drew rfl) (hold3 w.drew rfl) hc hroom
    have gd : Grow w w.drew := Grow.drew w
    have sto1 := sto.grow gd
    obtain ⟨f1, f2, f3⟩ := qy sto1 (old ++ new ++ rest) e (l := l.take (n * ie.size) ++ rows.flatten ++ List.replicate rest.size .any) (by
      rw [Array.toList_append, Array.toList_append]
      refine ((hold1.append hnew).append ⟨by simp, fun i x y hx hy => ?_⟩).keep (gd.keeps _)
      rw [List.getElem?_replicate] at hx
      split at hx
      · cases hx; exact .any _
      · cases hx)
    have e1 : w.drew.heap.size = w.heap.size := rfl
    rw [g2] at f2
    exact ⟨_, _, g3, _, _, _, h2 hc _ newCap f1 g1 g0, .s _, f2, (gd.chg M).trans f3⟩
/-- An append to no slice, that makes an object. -/
theorem zkx {e : TypeId} {ie : TI} (hie : c.I e = some ie) {x : AV} {rows : List (List AV)} (hx : qf ie.size (.av x) = some rows) (hroom : room rows.length ie.bytes) (hne : 0 < rows.length) {K : AV -> Store -> Prop}
    (h2 : ∀ b' cap', Fresh st b' -> rows.length <= cap' -> cap' <= 9223372036854775807 -> K (.s (.slice (some ⟨b', 0, none⟩) rows.length cap')) (st.setObj b' (.cells (rows.flatten ++ List.replicate ((cap' - rows.length) * ie.size) .any)))) :
    AppX P c st e (.s (.slice none 0 0)) x K := by
  refine ⟨⟨ie, hie⟩, fun ie' hie' Oth M w sv xv argTypes ty args t sto hs hxv hat ht1 hu hti h0 h1' => ?_⟩
  rw [hie] at hie'
  cases hie'
  have hs := VRel.eq_s hs
  subst hs
  have A : AppArgs P c argTypes args t e ie none 0 0 xv := ⟨hat, ht1, hu, hti, h0, h1'⟩
  obtain ⟨hl1, hl2, new, hnew, hone, hnsz, hfc⟩ := ks (P := P) (β := fun _ => 0) (k := ie.size) (x := .av x) hxv hx
  obtain ⟨newCap, rest, g1, g0, g2, g3⟩ := jv (old := #[]) ty A hl1 (hfc w.drew rfl) (by simp [Builtin.firstCells]) (by omega) (by simpa using hroom)
  have gd : Grow w w.drew := Grow.drew w
  have sto1 := sto.grow gd
  obtain ⟨f1, f2, f3⟩ := qy sto1 (#[] ++ new ++ rest) e (l := rows.flatten ++ List.replicate rest.size .any) (by
    rw [Array.toList_append, Array.toList_append]
    refine ((show Reads w _ rows.flatten ([] ++ new.toList) from hnew).append ⟨by simp, fun i x y hx hy => ?_⟩).keep (gd.keeps _)
    rw [List.getElem?_replicate] at hx
    split at hx
    · cases hx; exact .any _
    · cases hx)
  rw [g2] at f2
  simp only [Nat.zero_add] at g1 g3 f2
  exact ⟨_, _, g3, _, _, _, h2 _ newCap f1 g1 g0, .s _, f2, (gd.chg M).trans f3⟩
/-- A slice of ints over an object: its numbers, and how much room. -/
def Ints (st : Store) (v : AV) (ns : List Int) : Prop :=
  (v = .s (.slice none 0 0) /\ ns = []) \/ ∃ b cap L, v = .s (.slice (some ⟨b, 0, none⟩) ns.length cap) /\ st.obj b = some (.cells (ns.map (fun n => AV.s (.int .i64 n)) ++ L)) /\ ns.length <= cap /\ cap <= ns.length + L.length /\ cap <= 9223372036854775807
end
end Go.V
namespace Go.V
section
variable {P : Program} {c : Cfg} {w : World} {st : Store}
/-- 'make([]T, n)', of elements of one cell. -/
theorem qa {o : Oper} {t e : TypeId} {x y : Operand} (ho : o.op = .makeSlice t x y) {it ie : TI} (hit : c.I t = some it) (hty : it.ty = .slice e) (hie : c.I e = some ie) (hag : jd ie.ty = false) {z : Value} (hz : ie.zero = [z])
    {k k' : IntKind} {n : Nat} (hb : ie.bytes * n <= 281474976710656) (hn : n <= 9223372036854775807) {R : AV -> Store -> Prop}
    (h : ∀ b, Fresh st b -> R (.s (.slice (some ⟨b, 0, none⟩) n n)) (st.setObj b (.cells (List.replicate n (.s z))))) : AEff P c o [.s (.int k (n : Int)), .s (.int k' (n : Int))] st R := by
  refine ⟨fun Oth M w ρ hI sto hr => ?_⟩
  rw [ho] at hr
  have hr : Reads w (fun b o => M b o \/ Oth b o) [.s (.int k (n : Int)), .s (.int k' (n : Int))] [ρ x, ρ y] := by simpa [Op.operands] using hr
  obtain ⟨u, v, he, h1, h2⟩ := zgf hr
  simp only [List.cons.injEq, and_true] at he
  rw [<- he.1] at h1
  rw [<- he.2] at h2
  have h1 := VRel.eq_s h1
  have h2 := VRel.eq_s h2
  have ht := yb (hI _ _ hit) hty
  have hie := hI _ _ hie
  obtain ⟨inf, i1, i2, i3, z0, i4, i5⟩ := hie.info
  rcases hie.zag inf z0 i1 i4 with ⟨q, _⟩ | ⟨_, q⟩
  · rw [hag] at q; cases q
  rw [hz] at q
  simp only [List.cons.injEq, and_true] at q
  subst q
  have hs1 : inf.size = 1 := by rw [i2, <- hie.zsz, hz]; rfl
  have hzc : z.cells = #[z] := by
    rw [hz] at i5
    exact Array.toList_inj.1 i5
  have hrun : (execOp ρ o).run P w = .ok (.value (.slice (some ⟨w.heap.size, 0, none⟩) n n)) (w.alloc (.cells (madeCells z.cells (n * 1)) e)) := by
    have := run_make (P := P) w t e inf z ht i1 i4 k k' (n : Int) (n : Int) (by omega) (by omega) (by rw [i3]; have h9 := Int.ofNat_le.2 hb; rw [Int.natCast_mul] at h9; exact h9) (by omega)
    rw [hs1, Int.toNat_natCast] at this
    unfold execOp
    rw [ho]
    dsimp only
    rw [h1, h2]
    simp only [Sem.run_bind, this, Result.andThen_ok, Sem.run_pure]
  rw [hrun, hzc, Nat.mul_one]
  obtain ⟨h3, h4, h5⟩ := qy sto (madeCells #[z] n) e (l := List.replicate n (.s z)) (by
    rw [toList_madeCells_one]
    have := Reads.map_s (w := w) (T := fun b o => M b o \/ Oth b o) (List.replicate n z)
    rwa [List.map_replicate] at this)
  exact ⟨_, _, _, h _ h3, .s _, h4, h5⟩
end
end Go.V
namespace Go.V
open Go.Proofs Go.Shelf Go.Sort Go.RowKit
section
variable {P : Program} {ρ : Ren} {w : World} {st : Store} {Oth M : Nat -> Nat -> Prop}
def vI (n : Int) : Value := .int .i64 n
def aI (n : Int) : AV := .s (.int .i64 n)
theorem qp (T : Nat -> Nat -> Prop) (ns : List Int) : Reads w T (ns.map aI) (ns.map vI) := by
  have := Reads.map_s (w := w) (T := T) (ns.map vI)
  rwa [List.map_map] at this
/-- A row that is put is a row that is stored. -/
theorem zk1 {w : World} {b q : Nat} {c : Array Value} {e : TypeId} {fr : Nat × Nat} (hb : w.heap[b]? = some (.cells c e fr)) (ns : List Int) (hl : ns.length <= c.size) :
    Wrote w b 0 (ns.map vI) (putRow (Value.int .i64) (Sort.ahead w q) b 0 ns.toArray) where
  size := by simp [putRow, mapBlock, Sort.ahead]
  other b' hne := by
    simp only [putRow, mapBlock, Sort.ahead, Array.getElem?_modify]
    rw [if_neg (Ne.symm hne)]
  blk c' e' fr' h := by
    rw [hb] at h
    cases h
    refine ⟨putCells (Value.int .i64) 0 ns.toArray c, ?_, ?_, by simp [putCells]⟩
    · simp only [putRow, mapBlock, Sort.ahead, Array.getElem?_modify, if_true, hb, Option.map_some, onCells]
    · apply List.ext_getElem?
      intro i
      simp only [putCells, Array.getElem?_toList, List.take_zero, List.nil_append, Nat.zero_add, List.length_map, Array.getElem?_mapIdx]
      by_cases hi : i < ns.length
      · rw [List.getElem?_append_left (by simpa using hi), List.getElem?_map, List.getElem?_eq_getElem hi]
        rw [Array.getElem?_eq_getElem (by omega)]
        simp [hi, vI]
      · rw [List.getElem?_append_right (by simpa using (by omega : ns.length <= i)), List.length_map, List.getElem?_drop, Array.getElem?_toList, show ns.length + (i - ns.length) = i by omega]
        cases c[i]? with
        | none => rfl
        | some v => simp [hi]
  tape := rfl
  os := rfl
  output := rfl
theorem zsr (w : World) (os : Array Obj) : Grow w (Sort.grow w os) where
  size := by simp [Sort.grow]
  blk b hb := by simp [Sort.grow, Array.getElem?_append_left hb]
  tape := rfl
  os := rfl
  output := rfl
/-- The numbers that an object holds in front. -/
theorem km {T : Nat -> Nat -> Prop} {b : Nat} {ns : List Int} {L : List AV} (h : CellsRel w T (ns.map aI ++ L) b) :
    ∃ c e fr, w.heap[b]? = some (.cells c e fr) /\ fr.2 = fr.1 /\ ns.length + L.length = c.size /\ ∀ j, j < ns.length -> c[j]? = some (vI (ns.getD j 0)) := by
  obtain ⟨c, e, fr, h1, h2, h3, h4⟩ := h
  refine ⟨c, e, fr, h1, h2, by simpa using h3, fun j hj => ?_⟩
  have hlt : j < c.size := by rw [<- h3]; simp; omega
  have h5 := h4 j (aI ns[j]) c[j] (by rw [List.getElem?_append_left (by simpa using hj)]; simp [hj]) (by simp [hlt])
  rw [Array.getElem?_eq_getElem hlt, VRel.eq_s h5]
  simp [hj, vI]
theorem zis {T : Nat -> Nat -> Prop} {b : Nat} {ns : List Int} {L : List AV} (h : CellsRel w T (ns.map aI ++ L) b) : Holds (Value.int .i64) w b 0 ns.toArray := by
  obtain ⟨c, e, fr, h1, h2, h3, h4⟩ := km h
  intro j hj
  have hj : j < ns.length := by simpa using hj
  constructor
  · rw [Nat.zero_add]
    simp only [World.cell?, h1]
    have := h4 j hj
    simp only [Option.isSome_none, Bool.false_eq_true, if_false, this, vI]
    simp [hj]
  · simp only [World.frozen?, h1]
    obtain ⟨lo, hi⟩ := fr
    simp only at h2
    subst h2
    simp
theorem zeh {xs l L : List AV} (h : xs.length = l.length) : zo (l ++ L) 0 xs = xs ++ L := by
  unfold zo
  rw [List.take_zero, List.nil_append, Nat.zero_add, h, List.drop_left]
theorem ku {A B xs : List AV} {o : Nat} (h : A.length = o) : zo (A ++ B) o xs = A ++ xs ++ B.drop xs.length := by
  subst h
  unfold zo
  rw [List.take_left, List.drop_append]
  simp
theorem yp3 {x : AV} {vs : Array Value} {T : Nat -> Nat -> Prop} (h : Reads w T [x] vs.toList) : ∃ v, vs = #[v] /\ VRel w T x v := by
  obtain ⟨u, h1, h2⟩ := zlx h
  exact ⟨u, by apply Array.ext'; rw [h1], h2⟩
theorem yqm {x y : AV} {vs : Array Value} {T : Nat -> Nat -> Prop} (h : Reads w T [x, y] vs.toList) : ∃ u v, vs = #[u, v] /\ VRel w T x u /\ VRel w T y v := by
  obtain ⟨u, v, h1, h2⟩ := zgf h
  exact ⟨u, v, by apply Array.ext'; rw [h1], h2⟩
theorem yom {x y z : AV} {vs : Array Value} {T : Nat -> Nat -> Prop} (h : Reads w T [x, y, z] vs.toList) : ∃ u v t, vs = #[u, v, t] /\ VRel w T x u /\ VRel w T y v /\ VRel w T z t := by
  obtain ⟨u, v, t, h1, h2⟩ := yjo h
  exact ⟨u, v, t, by apply Array.ext'; rw [h1], h2⟩
theorem k8 {v : AV} {ns : List Int} (h : Ints st v ns) : (v = .s (.slice none 0 0) /\ ns = []) \/ ∃ b cap L, v = .s (.slice (some ⟨b, 0, none⟩) ns.length cap) /\ st.obj b = some (.cells (ns.map aI ++ L)) /\ ns.length <= cap /\ cap <= ns.length + L.length /\ cap <= 9223372036854775807 := h
/-- slices.Sort. -/
theorem yfx (Ly : Lays.n189 P ρ) {fn : Func} {code : Code} (hf : P.funcs[ρ.f 189]? = some fn) (hb : fn.body = some code) (hname : (fn.name == "runtime.NumGoroutine") = false) {b cap : Nat} {ns : List Int} {L : List AV} (ho : st.obj b = some (.cells (ns.map aI ++ L)))
    (hlen : ns.length < 4611686018427387904) {R : AV -> Store -> Prop} (h : R (.tup []) (st.setObj b (.cells ((ns.mergeSort fun x y => decide (x <= y)).map aI ++ L)))) :
    ACalls P (ρ.f 189) [.s (.slice (some ⟨b, 0, none⟩) ns.length cap)] st R := by
  refine ACalls.of_calls hf hb hname fun Oth M w vs sto hr => ?_
  obtain ⟨v, rfl, hv⟩ := yp3 hr
  cases hv
  have hobj := (sto.obj b _ ho).1
  obtain ⟨c, e, fr, h1, h2, h3, h4⟩ := km hobj
  refine Calls.mono (Any.slices_Sort_int Ly b 0 cap ns w (zis hobj) (z6 h1) hlen) fun e' w' ⟨he, n, os, hw'⟩ => ⟨_, he, ?_⟩
  subst hw'
  have hsl : (ns.mergeSort fun x y => decide (x <= y)).length = ns.length := List.length_mergeSort ns
  have hw := zk1 (q := n) h1 (ns.mergeSort fun x y => decide (x <= y)) (by omega)
  obtain ⟨k1, k2⟩ := jx sto ho (qp _ _) hw
  have hg := zsr (putRow (Value.int .i64) (Sort.ahead w n) b 0 (ns.mergeSort fun x y => decide (x <= y)).toArray) os
  refine ⟨.tup [], _, M, h, yq Reads.nil, ?_, k2.trans (hg.chg M)⟩
  rw [zeh (by simp)] at k1
  exact k1.grow hg
theorem zlo (Ly : Lays.n189 P ρ) {fn : Func} {code : Code} (hf : P.funcs[ρ.f 189]? = some fn) (hb : fn.body = some code) (hname : (fn.name == "runtime.NumGoroutine") = false) {R : AV -> Store -> Prop} (h : R (.tup []) st) :
    ACalls P (ρ.f 189) [.s (.slice none 0 0)] st R := by
  refine ACalls.of_calls hf hb hname fun Oth M w vs sto hr => ?_
  obtain ⟨v, rfl, hv⟩ := yp3 hr
  cases hv
  refine Calls.mono (Any.slices_Sort_int_none Ly none 0 w) fun e' w' ⟨he, hw'⟩ => ⟨_, he, ?_⟩
  subst hw'
  exact ⟨.tup [], st, M, h, yq Reads.nil, sto, Chg.refl _ _⟩
/-- slices.BinarySearch. -/
theorem zrn (Ly : Lays2.n25 P ρ) {fn : Func} {code : Code} (hf : P.funcs[ρ.f 25]? = some fn) (hb : fn.body = some code) (hname : (fn.name == "runtime.NumGoroutine") = false) {v : AV} {ns : List Int} (hv : Ints st v ns) (x : Int)
    (hlen : ns.length < 4611686018427387904) (hs : ns.Pairwise (· <= ·)) {R : AV -> Store -> Prop} (h : R (.tup [aI (ns.countP (· < x) : Nat), .s (.bool (ns.contains x))]) st) :
    ACalls P (ρ.f 25) [v, aI x] st R := by
  refine ACalls.of_calls hf hb hname fun Oth M w vs sto hr => ?_
  obtain ⟨u, t, rfl, hu, ht⟩ := yqm hr
  cases ht
  rcases k8 hv with ⟨rfl, rfl⟩ | ⟨b, cap, L, rfl, ho, hc1, hc2⟩
  · cases hu
    refine Calls.mono (Any.slices_BinarySearch_int_empty Ly none 0 x w) fun e' w' ⟨he, hw'⟩ => ⟨_, he, ?_⟩
    subst hw'
    refine ⟨_, st, M, h, yq (Reads.cons (.s _) (Reads.cons (.s _) Reads.nil)), sto, Chg.refl _ _⟩
  · cases hu
    have hobj := (sto.obj b _ ho).1
    obtain ⟨c, e, fr, h1, h2, h3, h4⟩ := km hobj
    refine Calls.mono (Any.slices_BinarySearch_int Ly b 0 ns.length cap ns x w (Nat.le_refl _) hlen (fun j hj => ?_) (by rw [List.take_length]; exact hs)) fun e' w' ⟨he, q, hw'⟩ => ⟨_, he, ?_⟩
    · rw [Nat.zero_add]
      simp only [World.cell?, h1]
      exact h4 j hj
    · subst hw'
      rw [List.take_length]
      have hg : Grow w (w.drewN q) := ⟨Nat.le_refl _, fun _ _ => rfl, rfl, rfl, rfl⟩
      exact ⟨_, st, M, h, yq (Reads.cons (.s _) (Reads.cons (.s _) Reads.nil)), sto.grow hg, hg.chg M⟩
/-- slices.Delete. -/
theorem ztc (Ly : Lays2.n23 P ρ) {fn : Func} {code : Code} (hf : P.funcs[ρ.f 23]? = some fn) (hb : fn.body = some code) (hname : (fn.name == "runtime.NumGoroutine") = false) {b cap i j : Nat} {ns : List Int} {L : List AV} (ho : st.obj b = some (.cells (ns.map aI ++ L)))
    (hc1 : ns.length <= cap) (hc2 : cap <= 9223372036854775807) (hij : i <= j) (hj : j <= ns.length) {R : AV -> Store -> Prop}
    (h : R (.s (.slice (some ⟨b, 0, none⟩) (ns.take i ++ ns.drop j).length cap)) (st.setObj b (.cells ((ns.take i ++ ns.drop j).map aI ++ (List.replicate (j - i) (aI 0) ++ L))))) :
    ACalls P (ρ.f 23) [.s (.slice (some ⟨b, 0, none⟩) ns.length cap), aI i, aI j] st R := by
  refine ACalls.of_calls hf hb hname fun Oth M w vs sto hr => ?_
  obtain ⟨u, v, t, rfl, hu, hv, ht⟩ := yom hr
  cases hu; cases hv; cases ht
  have hobj := (sto.obj b _ ho).1
  obtain ⟨c, e, fr, h1, h2, h3, h4⟩ := km hobj
  have hl2 : (ns.take i ++ ns.drop j ++ List.replicate (j - i) 0).length = ns.length := by simp; omega
  have hl1 : (ns.take i ++ ns.drop j).length = ns.length - (j - i) := by simp; omega
  refine Calls.mono (Any.slices_Delete_int Ly b 0 cap i j ns w (zis hobj) hc1 hc2 hij hj) fun e' w' ⟨he, q, hw'⟩ => ⟨_, he, ?_⟩
  subst hw'
  have hw := zk1 (q := q) h1 (ns.take i ++ ns.drop j ++ List.replicate (j - i) 0) (by omega)
  obtain ⟨k1, k2⟩ := jx sto ho (qp _ _) hw
  rw [<- hl1]
  refine ⟨_, _, M, h, .s _, ?_, k2⟩
  rw [zeh (by simpa using hl2), List.map_append, List.map_replicate, List.append_assoc] at k1
  exact k1
/-- math/bits.Add64. -/
theorem zyi (Ly : Lays7.n25 P ρ) (x y c : Nat) (hc : c <= 1) {R : AV -> Store -> Prop}
    (h : R (.tup [.s (.int .u64 ((x + y + c) % 18446744073709551616 : Nat)), .s (.int .u64 ((x + y + c) / 18446744073709551616 : Nat))]) st) :
    ACalls P (ρ.f 25) [.s (.int .u64 x), .s (.int .u64 y), .s (.int .u64 c)] st R := by
  refine ACalls.of_value fun Oth M w vs sto hr => ?_
  obtain ⟨u, v, t, rfl, hu, hv, ht⟩ := yom hr
  cases hu; cases hv; cases ht
  exact ⟨_, w, Any7.bits_Add64 Ly x y c hc w, _, st, M, h, yq (Reads.cons (.s _) (Reads.cons (.s _) Reads.nil)), sto, Chg.refl _ _⟩
theorem xi {b : Nat} : ∀ (vs : List Value) (o : Nat) (w : World) (c : Array Value) (e : TypeId) (fr : Nat × Nat), w.heap[b]? = some (.cells c e fr) -> o + vs.length <= c.size -> Wrote w b o vs (w.setCells b o vs) := by
  intro vs
  induction vs with
  | nil => intro o w c e fr h _; exact ⟨rfl, fun _ _ => rfl, fun c e fr h => ⟨c, h, by simp, rfl⟩, rfl, rfl, rfl⟩
  | cons v vs ih =>
    intro o w c e fr h hl
    simp only [List.length_cons] at hl
    have h1 : (w.setCell ⟨b, o, none⟩ v).heap[b]? = some (.cells (c.setIfInBounds o v) e fr) := by
      rw [vr, if_pos rfl, h]; rfl
    have k := ih (o + 1) (w.setCell ⟨b, o, none⟩ v) _ e fr h1 (by simp; omega)
    refine ⟨by rw [World.setCells, k.size]; simp, fun b' hb => by rw [World.setCells, k.other b' hb, vr, if_neg hb], fun c1 e1 fr1 hc1 => ?_, by rw [World.setCells, k.tape]; rfl, by rw [World.setCells, k.os]; rfl, by rw [World.setCells, k.output]; rfl⟩
    rw [h] at hc1
    cases hc1
    obtain ⟨c', g1, g2, g3⟩ := k.blk _ _ _ h1
    refine ⟨c', g1, ?_, by simpa using g3⟩
    rw [g2, Array.toList_setIfInBounds]
    have hlt : o < c.toList.length := by simp; omega
    have hA : (c.toList.take o).length = o := by simp; omega
    rw [List.set_eq_take_append_cons_drop, if_pos hlt]
    have t1 : (c.toList.take o ++ v :: c.toList.drop (o + 1)).take (o + 1) = c.toList.take o ++ [v] := by
      rw [List.take_append, hA, show o + 1 - o = 1 by omega, List.take_of_length_le (by omega)]
      rfl
    have t2 : (c.toList.take o ++ v :: c.toList.drop (o + 1)).drop (o + 1 + vs.length) = c.toList.drop (o + (vs.length + 1)) := by
      rw [List.drop_append, hA, show o + 1 + vs.length - o = vs.length + 1 by omega, List.drop_of_length_le (by omega), List.nil_append, List.drop_succ_cons, List.drop_drop]
      congr 1; omega
    rw [t1, t2]
    simp
/-- slices.Insert of one number. -/
theorem zsm (Ly : Lays2.n21 P ρ) {fn : Func} {code : Code} (hf : P.funcs[ρ.f 21]? = some fn) (hb : fn.body = some code) (hname : (fn.name == "runtime.NumGoroutine") = false) {v : AV} {ns : List Int} (hv : Ints st v ns) {vb : Nat} (x : Int) (i : Nat) (hi : i <= ns.length)
    (hvb : st.obj vb = some (.cells [aI x])) (hne : ∀ b cap, v = .s (.slice (some ⟨b, 0, none⟩) ns.length cap) -> b ≠ vb) (hlen : (ns.length + 1) * 8 <= 140737488355328) {R : AV -> Store -> Prop}
    (h : ∀ b cap L, (Fresh st b \/ ∃ c0, v = .s (.slice (some ⟨b, 0, none⟩) ns.length c0)) -> (ns.take i ++ x :: ns.drop i).length <= cap -> cap <= (ns.take i ++ x :: ns.drop i).length + L.length -> cap <= 9223372036854775807 ->
      R (.s (.slice (some ⟨b, 0, none⟩) (ns.take i ++ x :: ns.drop i).length cap)) (st.setObj b (.cells ((ns.take i ++ x :: ns.drop i).map aI ++ L)))) :
    ACalls P (ρ.f 21) [v, aI i, .s (.slice (some ⟨vb, 0, none⟩) 1 1)] st R := by
  refine ACalls.of_calls hf hb hname fun Oth M w vs sto hr => ?_
  obtain ⟨u, t, s, rfl, hu, ht, hs⟩ := yom hr
  cases ht; cases hs
  have hvo := (sto.obj vb _ hvb).1
  obtain ⟨cv, ev, frv, v1, v2, v3, v4⟩ := km (ns := [x]) (L := []) (show CellsRel w _ ([x].map aI ++ []) vb from hvo)
  have hvs : ∀ j v, ([vI x] : List Value)[j]? = some v -> w.cell? ⟨vb, 0 + j, none⟩ = some v := by
    intro j v hj
    cases j with
    | zero =>
      simp at hj
      subst hj
      have := v4 0 (by simp)
      simp only [World.cell?, v1]
      simpa using this
    | succ j => simp at hj
  have h1v : ∀ v ∈ ([vI x] : List Value), v.oneCell' = true := by intro v hv; simp at hv; subst hv; rfl
  have hl' : (ns.take i ++ x :: ns.drop i).length = ns.length + 1 := by simp; omega
  have hcut : ∀ (w : World) (need old : Nat) (e : TypeId), need <= 140737488355328 -> need <= grownCap w need old e /\ grownCap w need old e <= 9223372036854775807 := by
    intro w need old e hn
    unfold grownCap
    simp only [Question.cut]
    have := Nat.mod_lt (w.tape w.drawn (.appendCap need old e)) (show 0 < 2 ^ 63 - need by omega)
    omega
  rcases k8 hv with ⟨rfl, rfl⟩ | ⟨b, cap, L, rfl, ho, hc1, hc2, hc3⟩
  · cases hu
    simp only [List.length_nil, Nat.le_zero] at hi
    subst hi
    refine Calls.mono (Any2.slices_Insert_int_end_grow Ly none 0 0 vb 0 1 1 [] [vI x] w (by omega) (Nat.le_refl _) (by omega) (by omega) rfl rfl (fun _ => rfl) (fun a ha => by cases ha) hvs h1v) fun e' w' ⟨he, hw'⟩ => ⟨_, he, ?_⟩
    obtain ⟨g1, g2⟩ := hcut w (0 + 1) 0 (ρ.t 3) (by omega)
    generalize grownCap w (0 + 1) 0 (ρ.t 3) = gc at *
    subst hw'
    have gd : Grow w w.drew := Grow.drew w
    obtain ⟨f1, f2, f3⟩ := qy (sto.grow gd) ((([] : List Value) ++ [vI x]).toArray ++ Builtin.zeroCells (Value.int .i64 0).cells (gc - (0 + 1))) (ρ.t 3) (l := [x].map aI ++ List.replicate (gc - (0 + 1)) .any) (by
      rw [Array.toList_append]
      refine Reads.append (qp _ [x]) ⟨by simp [Builtin.zeroCells, Value.cells], fun i x y hx hy => ?_⟩
      rw [List.getElem?_replicate] at hx
      split at hx
      · cases hx; exact .any _
      · cases hx)
    have := h w.heap.size gc (List.replicate (gc - (0 + 1)) .any) (.inl f1) (by simpa using g1) (by simp; omega) g2
    exact ⟨_, _, _, this, .s _, f2, (gd.chg M).trans f3⟩
  · cases hu
    have hbv : b ≠ vb := hne b cap rfl
    have hobj := (sto.obj b _ ho).1
    obtain ⟨c, e, fr, h1, h2, h3, h4⟩ := km hobj
    have cell : ∀ j, j < c.size -> w.cell? ⟨b, 0 + j, none⟩ = c[j]? := fun j hj => by rw [Nat.zero_add]; simp only [World.cell?, h1]; rfl
    have froz : ∀ o, w.frozen? ⟨b, o, none⟩ = false := fun o => by
      simp only [World.frozen?, h1]
      obtain ⟨lo, hi⟩ := fr
      simp only at h2
      subst h2
      simp
    have hcs : ∀ j v, (ns.map vI)[j]? = some v -> w.cell? ⟨b, 0 + j, none⟩ = some v := by
      intro j v hj
      have hlt : j < ns.length := by have := (List.getElem?_eq_some_iff.1 hj).1; simpa using this
      rw [cell j (by omega), h4 j hlt]
      rw [List.getElem?_map, List.getElem?_eq_getElem hlt] at hj
      simp at hj
      simp [hlt, hj]
    have h1c : ∀ v ∈ ns.map vI, v.oneCell' = true := by intro v hv; obtain ⟨n, _, rfl⟩ := List.mem_map.1 hv; rfl
    by_cases hroom : ns.length + 1 <= cap
    · obtain ⟨L0, hL⟩ : ∃ L0, L = L0 := ⟨_, rfl⟩
      by_cases hin : i = ns.length
      · subst hin
        refine Calls.mono (Any2.slices_Insert_int_end_room Ly b 0 ns.length cap vb 0 1 1 [vI x] w (by omega) hroom hc3 rfl (fun j hj => ?_) (fun j hj => froz _) hvs h1v) fun e' w' ⟨he, hw'⟩ => ⟨_, he, ?_⟩
        · rw [Nat.zero_add, show ns.length + j = 0 + (ns.length + j) by omega, cell _ (by omega)]
          simp; omega
        · subst hw'
          rw [Nat.zero_add]
          have hw := xi [vI x] ns.length w c e fr h1 (by simp; omega)
          obtain ⟨k1, k2⟩ := jx sto ho (qp _ [x]) hw
          rw [ku (by simp)] at k1
          have e2 : (ns.take ns.length ++ x :: ns.drop ns.length).map aI = ns.map aI ++ [x].map aI := by simp
          have := h b cap (L.drop 1) (.inr ⟨cap, rfl⟩) (by omega) (by rw [hl']; simp; omega) hc3
          rw [hl', e2] at this
          exact ⟨_, _, M, this, .s _, k1, k2⟩
      · have hsz : ∀ j, j < ns.length + 1 -> (w.cell? ⟨b, 0 + j, none⟩).isSome = true := fun j hj => by
          rw [cell j (by omega)]; simp; omega
        refine Calls.mono (Any2.slices_Insert_int_shift Ly b 0 ns.length cap i vb 0 1 1 (ns.map vI) [vI x] w (by omega) (by omega) hroom hc3 (Ne.symm hbv) (by simp) rfl hcs hsz (fun j _ => froz _) hvs h1c h1v ev e cv.size c.size
          (by simp [World.shape?, v1]) (by simp [World.shape?, h1]) (by omega) ?_ ?_) fun e' w' ⟨he, hw'⟩ => ⟨_, he, ?_⟩
        · simp only [World.frozen?, v1]
          obtain ⟨lo, hi⟩ := frv
          simp only at v2
          subst v2
          simp
        · simp only [World.frozen?, v1]
          obtain ⟨lo, hi⟩ := frv
          simp only at v2
          subst v2
          simp
        · subst hw'
          rw [Nat.zero_add, Nat.zero_add, <- List.map_drop]
          have gd : Grow w w.drew := Grow.drew w
          have hw1 := xi ((ns.drop i).map vI) (i + 1) w.drew c e fr h1 (by simp; omega)
          obtain ⟨k1, k2⟩ := jx (sto.grow gd) ho (qp _ _) hw1
          obtain ⟨c', m1, _, m2⟩ := hw1.blk c e fr h1
          have hw2 := xi [vI x] i _ c' e fr m1 (by simp; omega)
          obtain ⟨k3, k4⟩ := jx k1 (zb _ _ _) (qp _ [x]) hw2
          rw [zg] at k3
          have e1 : zo (zo (ns.map aI ++ L) (i + 1) ((ns.drop i).map aI)) i ([x].map aI) = (ns.take i ++ x :: ns.drop i).map aI ++ L.drop 1 := by
            have hL1 : 1 <= L.length := by omega
            cases L with
            | nil => simp at hL1
            | cons y L =>
              have q1 : ns.map aI ++ y :: L = (ns.map aI ++ [y]).take (i + 1) ++ ((ns.map aI ++ [y]).drop (i + 1) ++ L) := by
                rw [<- List.append_assoc, List.take_append_drop, List.append_assoc]; rfl
              have q2 : ((ns.map aI ++ [y]).take (i + 1)).length = i + 1 := by simp; omega
              rw [q1, ku q2]
              have q3 : ((ns.map aI ++ [y]).drop (i + 1) ++ L).drop ((ns.drop i).map aI).length = L := by
                have : ((ns.map aI ++ [y]).drop (i + 1)).length = ((ns.drop i).map aI).length := by simp
                rw [<- this, List.drop_left]
              rw [q3]
              have q4 : (ns.map aI ++ [y]).take (i + 1) = (ns.take i).map aI ++ [aI (ns[i]'(by omega))] := by
                rw [List.take_append_of_le_length (by simp; omega), <- List.map_take, List.take_succ_eq_append_getElem (by omega), List.map_append]; rfl
              rw [q4, List.append_assoc, List.append_assoc, ku (by simp; omega)]
              simp
          rw [e1] at k3
          have := h b cap (L.drop 1) (.inr ⟨cap, rfl⟩) (by omega) (by rw [hl']; simp; omega) hc3
          rw [hl'] at this
          exact ⟨_, _, M, this, .s _, k3, ((gd.chg M).trans k2).trans k4⟩
    · obtain ⟨g1, g2⟩ := hcut w (ns.length + 1) cap (ρ.t 3) (by omega)
      by_cases hin : i = ns.length
      · subst hin
        refine Calls.mono (Any2.slices_Insert_int_end_grow Ly (some ⟨b, 0, none⟩) ns.length cap vb 0 1 1 (ns.map vI) [vI x] w (by omega) hc1 (by omega) hlen (by simp) rfl (fun hh => by cases hh) (fun a ha j v hj => ?_) hvs h1v) fun e' w' ⟨he, hw'⟩ => ⟨_, he, ?_⟩
        · cases ha; rw [x5]; exact hcs j v hj
        · generalize grownCap w (ns.length + 1) cap (ρ.t 3) = gc at *
          subst hw'
          have gd : Grow w w.drew := Grow.drew w
          obtain ⟨f1, f2, f3⟩ := qy (sto.grow gd) ((ns.map vI ++ [vI x]).toArray ++ Builtin.zeroCells (Value.int .i64 0).cells (gc - (ns.length + 1))) (ρ.t 3) (l := (ns ++ [x]).map aI ++ List.replicate (gc - (ns.length + 1)) .any) (by
            rw [Array.toList_append]
            refine Reads.append ?_ ⟨by simp [Builtin.zeroCells, Value.cells], fun i x y hx hy => ?_⟩
            · have := qp (w := w.drew) (fun b o => M b o \/ Oth b o) (ns ++ [x])
              rw [List.map_append (f := vI)] at this
              exact this
            · rw [List.getElem?_replicate] at hx
              split at hx
              · cases hx; exact .any _
              · cases hx)
          have e2 : ns.take ns.length ++ x :: ns.drop ns.length = ns ++ [x] := by simp
          rw [e2] at h
          have := h w.heap.size gc (List.replicate (gc - (ns.length + 1)) .any) (.inl f1) (by simpa using g1) (by simp; omega) g2
          rw [List.length_append] at this
          exact ⟨_, _, _, this, .s _, f2, (gd.chg M).trans f3⟩
      · refine Calls.mono (Any2.slices_Insert_int_grow Ly b 0 ns.length cap i vb 0 1 1 (ns.map vI) [vI x] w (by omega) (by omega) hc1 (by omega) hlen (by simp) rfl hcs hvs h1c h1v) fun e' w' ⟨he, hw'⟩ => ⟨_, he, ?_⟩
        generalize grownCap w (ns.length + 1) cap (ρ.t 3) = gc at *
        subst hw'
        rw [<- List.map_take, <- List.map_drop]
        obtain ⟨f1, f2, f3⟩ := qy sto (((ns.take i).map vI).toArray ++ Builtin.zeroCells (Value.int .i64 0).cells (ns.length + 1 - i) ++ Builtin.zeroCells (Value.int .i64 0).cells (gc - (ns.length + 1))) (ρ.t 3) (l := (ns.take i).map aI ++ List.replicate (ns.length + 1 - i + (gc - (ns.length + 1))) .any) (by
          rw [Array.append_assoc, Array.toList_append]
          refine Reads.append (qp _ _) ⟨by simp [Builtin.zeroCells, Value.cells], fun i x y hx hy => ?_⟩
          rw [List.getElem?_replicate] at hx
          split at hx
          · cases hx; exact .any _
          · cases hx)
        generalize hArr : (((ns.take i).map vI).toArray ++ Builtin.zeroCells (Value.int .i64 0).cells (ns.length + 1 - i) ++ Builtin.zeroCells (Value.int .i64 0).cells (gc - (ns.length + 1))) = Arr at *
        have hAs : Arr.size = gc := by rw [<- hArr]; simp [Builtin.zeroCells, Value.cells]; omega
        have hb1 : (w.alloc (.cells Arr (ρ.t 3))).drew.heap[w.heap.size]? = some (.cells Arr (ρ.t 3) (0, 0)) := qq w _
        have gd1 : Grow (w.alloc (.cells Arr (ρ.t 3))) (w.alloc (.cells Arr (ρ.t 3))).drew := Grow.drew _
        have hw1 := xi [vI x] i _ _ _ _ hb1 (by simp; omega)
        obtain ⟨k1, k2⟩ := jx (f2.grow gd1) (zb _ _ _) (qp _ [x]) hw1
        obtain ⟨c', m1, _, m2⟩ := hw1.blk _ _ _ hb1
        have gd2 : Grow ((w.alloc (.cells Arr (ρ.t 3))).drew.setCells w.heap.size i [vI x]) ((w.alloc (.cells Arr (ρ.t 3))).drew.setCells w.heap.size i [vI x]).drew := Grow.drew _
        have hw2 := xi ((ns.drop i).map vI) (i + 1) ((w.alloc (.cells Arr (ρ.t 3))).drew.setCells w.heap.size i [vI x]).drew c' _ _ m1 (by simp; omega)
        obtain ⟨k3, k4⟩ := jx (k1.grow gd2) (zb _ _ _) (qp _ _) hw2
        rw [zg, zg] at k3
        have e1 : zo (zo ((ns.take i).map aI ++ List.replicate (ns.length + 1 - i + (gc - (ns.length + 1))) .any) i ([x].map aI)) (i + 1) ((ns.drop i).map aI) = (ns.take i ++ x :: ns.drop i).map aI ++ List.replicate (gc - (ns.length + 1)) .any := by
          rw [ku (by simp; omega), ku (by simp; omega), List.drop_replicate, List.drop_replicate]
          have q : ns.length + 1 - i + (gc - (ns.length + 1)) - ([x].map aI).length - ((ns.drop i).map aI).length = gc - (ns.length + 1) := by simp; omega
          rw [q]
          simp
        rw [e1] at k3
        have := h w.heap.size gc (List.replicate (gc - (ns.length + 1)) .any) (.inl f1) (by omega) (by rw [hl']; simp; omega) g2
        rw [hl'] at this
        exact ⟨_, _, _, this, .s _, k3, ((((f3.trans (gd1.chg _)).trans k2).trans (gd2.chg _)).trans k4)⟩
end
end Go.V
