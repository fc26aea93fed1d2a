/- Ground of laws of thronglaw24: contracts and plain lemmas; no condition beyond the row's own. -/
import Derived.Tactics
import Derived.RangeFuncLeaves
import Derived.Test.YtieceacpbjcddaaGreatKB
set_option linter.unusedSimpArgs false
set_option linter.unusedVariables false
set_option linter.defProp false
namespace Go.V
section
variable {P : Program} {c : Cfg} {K : Fr -> Store -> Prop} {A : Fr} {st : Store}
theorem zni (n : Nat) (w : World) : (askRoom n).run P w = .ok () w := by simp
theorem znh (need old e : Nat) (w : World) : ∃ n, need <= n /\ (need <= 140737488355328 -> n <= 9223372036854775807) /\ (choose (.appendCap need old e)).run P w = .ok n w.drew := by
  refine ⟨need + w.tape w.drawn (.appendCap need old e) % (2 ^ 63 - need), Nat.le_add_right _ _, fun h => ?_, rfl⟩
  have := Nat.mod_lt (w.tape w.drawn (.appendCap need old e)) (show 0 < 2 ^ 63 - need by omega)
  omega
structure AppArgs (P : Program) (c : Cfg) (argTypes : Array TypeId) (args : Array Value) (t e : TypeId) (ie : TI) (base : Option Addr) (sLen sCap : Nat) (xv : Value) : Prop where
  ht : argTypes[0]? = some t
  ht1 : ∃ t1 e1, argTypes[1]? = some t1 /\ P.underlying t1 = some (.slice e1)
  hty : P.underlying t = some (.slice e)
  hie : TIok P e ie
  h0 : args[0]? = some (.slice base sLen sCap)
  h1 : args[1]? = some xv
theorem G5 {argTypes : Array TypeId} {args : Array Value} {t e : TypeId} {ie : TI} {base : Option Addr} {sLen sCap n : Nat} {xv : Value} (ty : TypeId) (h : AppArgs P c argTypes args t e ie base sLen sCap xv) {w : World} {old new : Array Value}
    (hlen : (Builtin.lenOf xv).run P w = .ok n w) (hnew : (Builtin.firstCells ie.size n xv).run P w.drew = .ok new w.drew) (hold : (Builtin.firstCells ie.size sLen (.slice base sLen sCap)).run P w.drew = .ok old w.drew)
    (hneed : sCap < sLen + n) (hroom : room (sLen + n) ie.bytes) :
    ∃ newCap rest, sLen + n <= newCap /\ newCap <= 9223372036854775807 /\ rest.size = (newCap - (sLen + n)) * ie.size ∧
      (Builtin.append_ argTypes ty args).run P w = .ok (.slice (some ⟨w.heap.size, 0, none⟩) (sLen + n) newCap) (w.drew.alloc (.cells (old ++ new ++ rest) e)) := by
  obtain ⟨newCap, hcap, hcap2, hch⟩ := znh (P := P) (sLen + n) sCap e w
  obtain ⟨z, hz1, hz2⟩ := Hj h.hie w.drew
  obtain ⟨t1, e1, ht1, hu1⟩ := h.ht1
  obtain ⟨inf, hinf, hsz, hby, _⟩ := h.hie.info
  have hzs : z.cells.size = ie.size := by rw [<- h.hie.zsz, <- hz2]; simp
  refine ⟨newCap, Builtin.zeroCells z.cells (newCap - (sLen + n)), hcap, hcap2 hroom.2, by simp [Builtin.zeroCells, hzs], ?_⟩
  obtain ⟨hr1, hr2⟩ := hroom
  have hc1 : ¬ (sLen + n <= sCap) := by omega
  have hc2 : ¬ (((sLen + n : Nat) : Int) > IntKind.i64.max) := by grind[IntKind.max,IntKind.bits]
  have hc3 : ¬ (Builtin.nextslicecap (sLen + n) sCap * ie.bytes > 2 ^ 48) := by
    have h1 := nextslicecap_le hneed
    have h2 : Builtin.nextslicecap (sLen + n) sCap * ie.bytes <= 2 * (sLen + n) * ie.bytes := Nat.mul_le_mul_right _ h1
    grind
  have hti : ∀ w : World, (typeInfo e).run P w = .ok inf w := fun w => by simp [typeInfo, hinf]
  simp only [Builtin.append_, h.ht, h.h0, h.h1, Sem.run_bind, ya h.hty, Result.andThen_ok, xl h.hie, ht1, ya hu1, Sem.run_pure]
  simp only [Bool.false_eq_true, if_false, hlen, Result.andThen_ok, hc1, hc2, false_and, Sem.run_bind, hti, hby, hc3, hch, zni, hold, hnew, Bool.not_false, if_true, hz1]
  rfl
theorem Ik {argTypes : Array TypeId} {args : Array Value} {t e : TypeId} {ie : TI} {base : Option Addr} {sLen sCap n : Nat} {xv : Value} (ty : TypeId) (h : AppArgs P c argTypes args t e ie base sLen sCap xv) {w w' : World} {new : Array Value}
    (hlen : (Builtin.lenOf xv).run P w = .ok n w) (hnew : (Builtin.firstCells ie.size n xv).run P w = .ok new w)
    (hneed : sLen + n <= sCap) (hst : ∀ a, base = some a -> (storeCells (a.add (sLen * ie.size)) new.toList).run P w = .ok () w') (hno : base = none -> w' = w) :
    (Builtin.append_ argTypes ty args).run P w = .ok (.slice base (sLen + n) sCap) w' := by
  obtain ⟨t1, e1, ht1, hu1⟩ := h.ht1
  simp only [Builtin.append_, h.ht, h.h0, h.h1, Sem.run_bind, ya h.hty, Result.andThen_ok, xl h.hie, ht1, ya hu1, Sem.run_pure]
  simp only [Bool.false_eq_true, if_false, hlen, Result.andThen_ok, hneed, if_true, Bool.not_false, Sem.run_bind, hnew]
  cases base with
  | none => simp_all
  | some a => simp_all
theorem Lf {α : Type} {k : Nat} : ∀ {rows : List (List α)} (_ : ∀ row ∈ rows, row.length = k) {p : Nat} {x : α}, rows.flatten[p]? = some x -> ∃ (i j : Nat) (row : List α), p = i * k + j /\ rows[i]? = some row /\ row[j]? = some x := by
  intro rows
  induction rows with
  | nil => simp
  | cons r rows ih =>
    intro hk p x h
    have hr : r.length = k := hk r (by simp)
    simp only [List.flatten_cons] at h
    by_cases hp : p < r.length
    · rw [List.getElem?_append_left hp] at h
      exact ⟨0, p, r, by omega, rfl, h⟩
    · rw [List.getElem?_append_right (by omega)] at h
      obtain ⟨i, j, row, h1, h2, h3⟩ := ih (fun row h => hk row (by simp [h])) h
      exact ⟨i + 1, j, row, by grind, by grind, h3⟩
theorem K5 {w w' : World} (h : w'.heap = w.heap) (a : Addr) : w'.cell? a = w.cell? a := by simp only [World.cell?, h]
/-- The source of an append. -/
theorem Dn {w : World} {T : Nat -> Nat -> Prop} {β : Nat -> Nat} {k : Nat} {x : LV} {xv : Value} {rows : List (List AV)} (hx : LRel w T β x xv) (h : jc k x = some rows) :
    (Builtin.lenOf xv).run P w = .ok rows.length w /\ (∀ row ∈ rows, row.length = k) ∧
      ∃ new : Array Value, Reads w T rows.flatten new.toList /\ (∀ v ∈ new.toList, qg v = true) /\ new.size = rows.length * k /\ ∀ w', w'.heap = w.heap -> (Builtin.firstCells k rows.length xv).run P w' = .ok new w' := by
  unfold jc at h
  split at h
  · rename_i k' rows' tok
    cases hb : Nat.beq k' k with
    | false => grind
    | true =>
      rw [hb] at h
      simp only [cond_true, Option.some.injEq] at h
      subst h
      obtain rfl := (xc _ _).1 hb
      rcases Ha hx with ⟨ad, cap, hv, h2, _, rfl⟩ | ⟨b, off, cap, hv, hcap, hk, f, hf⟩
      · subst h2
        exact ⟨by simp [hv, Builtin.lenOf], by simp, #[], Reads.nil, by simp, by simp, fun w' _ => by cases ad <;> simp [hv, Builtin.firstCells, loadCells, loadCellsFrom]⟩
      · have hk' : ∀ row ∈ rows', row.length = k' := fun row hr => by grind[List.mem_iff_getElem?]
        refine ⟨by simp [hv, Builtin.lenOf], hk', ((List.range' 0 (rows'.length * k')).map f).toArray, ⟨?_, ?_⟩, fun v hv => ?_, by simp, fun w' hw => ?_⟩
        · rw [wg hk']; simp
        · intro p x y hp hy
          obtain ⟨i, j, row, h1, h2, h3⟩ := Lf hk' hp
          grind
        · simp only [List.mem_map] at hv
          obtain ⟨p, hp, rfl⟩ := hv
          have hlt : p < rows'.flatten.length := by rw [wg hk']; grind
          obtain ⟨i, j, row, h1, h2, h3⟩ := Lf hk' (List.getElem?_eq_getElem hlt)
          grind
        · have := Dq (P := P) ⟨b, off, none⟩ w' f (rows'.length * k') 0 #[] (fun p _ hp => by
            rw [x8, K5 hw]
            have hlt : p < rows'.flatten.length := by rw [wg hk']; omega
            obtain ⟨i, j, row, h1, h2, h3⟩ := Lf hk' (List.getElem?_eq_getElem hlt)
            grind)
          grind[Builtin.firstCells,loadCells]
  · simp at h
    subst h
    have hv : xv = .slice none 0 _ := VRel.eq_s hx
    exact ⟨by simp [hv, Builtin.lenOf], by simp, #[], Reads.nil, by simp, by simp, fun w' _ => by simp [hv, Builtin.firstCells]⟩
  · simp at h
    subst h
    have hv : ∃ a, xv = .slice a 0 0 := by
      cases hx with
      | emp a h => simp
    obtain ⟨a, hv⟩ := hv
    refine ⟨by simp [hv, Builtin.lenOf], by simp, #[], Reads.nil, by simp, by simp, fun w' _ => ?_⟩
    cases a with
    | none => simp [hv, Builtin.firstCells]
    | some a => simp [hv, Builtin.firstCells, loadCells, loadCellsFrom]
  · cases h
theorem Owned.nil (k : Nat) (st : Store) : Owned k st .emp [] st := .inl ⟨rfl, rfl, rfl⟩
/-- An append that makes a new block. -/
theorem SimB.appendNew {n : SN} {Oth M : Nat -> Nat -> Prop} {β : Nat -> Nat} {a : Act} {w : World} (sim : SimB n Oth β A st M a w) {rows : List (List AV)} {k : Nat} (hk : ∀ row ∈ rows, row.length = k) (hne : rows ≠ [])
    {cs : Array Value} {e : TypeId} {cap : Nat} (hr : ∀ (i : Nat) (x : AV), rows.flatten[i]? = some x -> ∃ v, cs[i]? = some v /\ VRel w (fun b o => M b o \/ Oth b o) x v /\ qg v = true) (hcap : rows.length <= cap) (hsz : cap * k <= cs.size) :
    ∃ st' M', Owned k st (.lst k rows (some w.heap.size)) rows st' /\ SimB n Oth β A st' M' a (w.drew.alloc (.cells cs e)) /\ Chg M w M' (w.drew.alloc (.cells cs e)) ∧
      VRel (w.drew.alloc (.cells cs e)) (fun b o => M' b o \/ Oth b o) (.lst k rows (some w.heap.size)) (.slice (some ⟨w.heap.size, 0, none⟩) rows.length cap) := by
  have hle : rows.length * k <= cap * k := Nat.mul_le_mul_right k hcap
  refine ⟨_, _, .inr ⟨hne, w.heap.size, sim.sto.fresh (Nat.le_refl _), rfl, rfl⟩, (sim.grow (Grow.drew w)).newTok cs e (rows.length * k) (by omega), ((Grow.drew w).chg M).trans (gb w.drew _ M _), ?_⟩
  refine Ms (w := w.drew) (M := M) (Oth := Oth) hk (fun i x hx => ?_) hcap _ (ct w.drew _ _ _ _) (fun o ho hh => ?_) (fun t ht => ?_)
  · obtain ⟨v, h1, h2, h3⟩ := hr i x hx
    exact ⟨v, h1, h2.keep ((Grow.drew w).keeps _), h3⟩
  · rcases hh with (h | h) | h
    · have := sim.sto.mlt _ _ h; simp_all
    · omega
    · have := sim.sto.olt _ _ h; simp_all
  simp_all
theorem getElem?_append3 {old new rest : Array Value} {i : Nat} {v : Value} (h : (old.toList ++ new.toList)[i]? = some v) : (old ++ new ++ rest)[i]? = some v := by grind
theorem mj {w : World} {T : Nat -> Nat -> Prop} {k : Nat} {rows : List (List AV)} {b : Nat} {base : Option Addr} {sLen sCap : Nat} (h : VRel w T (.lst k rows (some b)) (.slice base sLen sCap)) :
    base = some ⟨b, 0, none⟩ /\ sLen = rows.length /\ rows.length <= sCap /\ rows ≠ [] /\ (∀ row ∈ rows, row.length = k) /\ (∃ c e fr, w.heap[b]? = some (.cells c e fr) /\ sCap * k <= c.size) /\ ∃ f : Nat -> Value,
      (∀ (i : Nat) (row : List AV) (j : Nat) (x : AV), rows[i]? = some row -> row[j]? = some x -> w.cell? ⟨b, i * k + j, none⟩ = some (f (i * k + j)) /\ ¬ T b (i * k + j) /\ VRel w T x (f (i * k + j)) /\ qg (f (i * k + j)) = true) := by
  cases h with
  | lst _ _ b' off cap _ f hcap hk htok hc h0 hx =>
    obtain ⟨rfl, rfl, h1, h2⟩ := htok b rfl
    refine ⟨rfl, rfl, hcap, h1, fun row hr => ?_, h2, f, fun i row j x h3 h4 => ?_⟩
    · grind[List.mem_iff_getElem?]
    grind
/-- The whole of an append: to what is empty, or to a slice that nobody else may append to. -/
theorem Rk {n : SN} {Oth M : Nat -> Nat -> Prop} {β : Nat -> Nat} {a : Act} {w : World} (sim : SimB n Oth β A st M a w) {argTypes : Array TypeId} {args : Array Value} {t e : TypeId} {ie : TI} {base : Option Addr} {sLen sCap : Nat} {xv : Value} (ty : TypeId)
    (h : AppArgs P c argTypes args t e ie base sLen sCap xv) {x : LV} (hx : LRel w (fun b o => M b o \/ Oth b o) β x xv) {rows' : List (List AV)} (hs : jc ie.size x = some rows') :
    ((sLen = 0 /\ sCap = 0 /\ ∀ x, base = some x -> x.spot = none) -> room rows'.length ie.bytes -> ∃ v w' r st' M', (Builtin.append_ argTypes ty args).run P w = .ok v w' /\ Owned ie.size st r rows' st' /\ SimB n Oth β A st' M' a w' /\ Chg M w M' w' /\ VRel w' (fun b o => M' b o \/ Oth b o) r v) ∧
    (∀ rows b, 0 < ie.size -> VRel w (fun b o => M b o \/ Oth b o) (.lst ie.size rows (some b)) (.slice base sLen sCap) -> st.tok b = some (rows.length * ie.size) -> room (rows ++ rows').length ie.bytes ->
      ∃ v w' r st' M', (Builtin.append_ argTypes ty args).run P w = .ok v w' /\ Owned ie.size (st.setTok b none) r (rows ++ rows') st' /\ SimB n Oth β A st' M' a w' /\ Chg M w M' w' /\ VRel w' (fun b o => M' b o \/ Oth b o) r v) := by
  obtain ⟨hlen, hk', new, hnr, hone, hns, hnew⟩ := Dn (P := P) hx hs
  constructor
  · rintro ⟨rfl, rfl, hspot⟩ hroom
    by_cases hn : rows' = []
    · subst hn
      refine ⟨_, w, .emp, st, M, Ik ty h (w' := w) hlen (hnew w rfl) (by simp) (fun a ha => ?_) (fun _ => rfl), Owned.nil _ _, sim, Chg.refl M w, VRel.emp _ hspot⟩
      simp_all[storeCells]
    · have hpos : 0 < rows'.length := List.length_pos_iff.2 hn
      obtain ⟨newCap, rest, h1, _, h2, h3⟩ := G5 ty h (old := #[]) hlen (hnew w.drew rfl) (by cases base <;> simp [Builtin.firstCells, loadCells, loadCellsFrom]) (by omega) (by simpa using hroom)
      simp only [Nat.zero_add] at h1 h2 h3
      obtain ⟨st', M', ho, hsim, hchg, hv⟩ := sim.appendNew (cs := #[] ++ new ++ rest) (e := e) (cap := newCap) hk' hn (fun i x hx => by
        obtain ⟨v, hv, hvr⟩ := hnr.getElem? hx
        grind) h1 (by grind[Nat.sub_mul])
      grind
  · intro rows b hpos hsv htb hroom
    obtain ⟨rfl, rfl, hcap, hne, hk, ⟨c0, e0, fr0, hblk, hcsz⟩, f, hf⟩ := mj hsv
    have hkk : ∀ row ∈ rows ++ rows', row.length = ie.size := fun row hr => by grind
    obtain ⟨c1, e1, fr1, hb1, hunf, htop, hMtop⟩ := sim.sto.tok b _ htb
    rw [hblk] at hb1
    cases hb1
    -- the first cell
    have hfirst : ¬ M b 0 := by
      cases rows with
      | nil => grind
      | cons r rs =>
        have hr : r.length = ie.size := hk r (by simp)
        cases r with
        | nil => grind
        | cons y ys =>
          have := (hf 0 (y :: ys) 0 y rfl rfl).2.1
          grind
    have hold : ∀ p, p < rows.length * ie.size -> w.cell? ⟨b, p, none⟩ = some (f p) /\ ¬ (M b p \/ Oth b p) /\ qg (f p) = true /\ ∀ x, rows.flatten[p]? = some x -> VRel w (fun b o => M b o \/ Oth b o) x (f p) := fun p hp => by
      have hlt : p < rows.flatten.length := by rw [wg hk]; omega
      obtain ⟨i, j, row, h1, h2, h3⟩ := Lf hk (List.getElem?_eq_getElem hlt)
      grind
    have holdR : Reads w (fun b o => M b o \/ Oth b o) rows.flatten ((List.range' 0 (rows.length * ie.size)).map f) := by
      refine ⟨by rw [wg hk]; simp, fun p x y hp hy => ?_⟩
      grind
    by_cases hstay : rows.length + rows'.length <= sCap
    · have hle : (rows.length + rows'.length) * ie.size <= sCap * ie.size := Nat.mul_le_mul_right _ hstay
      have hdist : (rows.length + rows'.length) * ie.size = rows.length * ie.size + rows'.length * ie.size := Nat.add_mul _ _ _
      have h9 : new.toList.length = rows'.length * ie.size := by omega
      have h10 : rows.length * ie.size + 0 + new.toList.length <= c0.size := by omega
      obtain ⟨w', hrun, hw⟩ := F0 (P := P) w b (rows.length * ie.size) new.toList 0 w c0 e0 fr0 hblk hunf h10 hone
      simp only [Nat.add_zero] at hw
      have happ := Ik (P := P) ty h (w' := w') hlen (hnew w rfl) hstay (fun a ha => by cases ha; rw [x8]; grind) (fun hh => by cases hh)
      let M' : Nat -> Nat -> Prop := fun b' o => M b' o /\ ¬ (b' = b /\ o < (rows.length + rows'.length) * ie.size)
      obtain ⟨c', hblk', hl', hs'⟩ := hw.blk _ _ _ hblk
      have hcellb : ∀ o, o < rows.length * ie.size -> w'.cell? ⟨b, o, none⟩ = w.cell? ⟨b, o, none⟩ := fun o ho => by
        simp only [World.cell?, hblk', hblk]
        rw [<- Array.getElem?_toList, hl', List.append_assoc, List.getElem?_append_left (by grind), List.getElem?_take]
        simp [ho]
      have hcelln : ∀ j v, new[j]? = some v -> w'.cell? ⟨b, rows.length * ie.size + j, none⟩ = some v := fun j v hv => by
        have hj := (Array.getElem?_eq_some_iff.1 hv).1
        simp only [World.cell?, hblk']
        have hm : min (rows.length * ie.size) c0.size = rows.length * ie.size := by omega
        have : c'.toList[rows.length * ie.size + j]? = some v := by grind
        grind
      have hkeep : Keeps w (fun b o => M b o \/ Oth b o) w' (fun b o => M' b o \/ Oth b o) :=
        { cell := fun b' o' v hv hT => by
            by_cases he : b' = b
            · grind
            · rw [Be (hw.other b' he)]
              exact hv
          out := fun b' o' v hv hT hT' => hT (hT'.imp (fun h => h.1) id)
          shp := fun b' c e fr hc => by
            by_cases he : b' = b
            · grind
            · exact ⟨c, fr, by rw [hw.other b' he]; exact hc, rfl⟩ }
      have hobjb : st.obj b = none := by
        cases ho : st.obj b with
        | none => rfl
        | some x => exact absurd ((sim.sto.obj b x ho).2 0) hfirst
      have hbxb : ∀ k l, A.bx k = some l -> β k ≠ b := fun k l hl => sim.sep k b (by grind) (.inr (by grind))
      have hsim : SimB n Oth β A ((st.setTok b none).setTok b (some ((rows ++ rows').length * ie.size))) M' a w' :=
        { tsz := sim.tsz
          dfr := sim.dfr.step fun D _ _ h2 => ⟨hw.other D fun e => (h2 _).1 (e ▸ hMtop _ (Nat.le_refl _)), fun o hm => (h2 o).1 hm.1⟩
          tm := fun i => (sim.tm i).keep hkeep
          bx := fun k l hl => ⟨(sim.bx k l hl).1.same hkeep (hw.other _ (hbxb k l hl)), fun o => ⟨(sim.bx k l hl).2 o, fun hh => hbxb k l hl hh.1⟩⟩
          inj := sim.inj
          sep := fun k b' hk hb => by
            refine sim.sep k b' hk ?_
            by_cases he : b' = b
            · grind
            simp_all[Store.setTok,yz]
          sto :=
            { obj := fun b' x hx => by
                have hx' : st.obj b' = some x := hx
                have he : b' ≠ b := fun e => by grind
                exact ⟨ObjRel.same (sim.sto.obj b' x hx').1 hkeep (hw.other b' he), fun o => ⟨(sim.sto.obj b' x hx').2 o, fun hh => he hh.1⟩⟩
              tok := fun b' top ht => by
                by_cases he : b' = b
                · subst he
                  simp only [Store.setTok, Nat.beq_refl, cond_true, Option.some.injEq] at ht
                  grind
                · simp only [Store.setTok, yz he, cond_false] at ht
                  obtain ⟨c, e, fr, h1, h2, h3, h4⟩ := sim.sto.tok b' top ht
                  exact ⟨c, e, fr, by rw [hw.other b' he]; exact h1, h2, h3, fun o ho => ⟨h4 o ho, fun hh => he hh.1⟩⟩
              mlt := fun b' o hm => by rw [hw.size]; exact sim.sto.mlt b' o hm.1
              olt := fun b' o hm => by rw [hw.size]; exact sim.sto.olt b' o hm
              dis := fun b' o hO hM => sim.sto.dis b' o hO hM.1 } }
      have hchg : Chg M w M' w' :=
        { size := by rw [hw.size]; simp
          keep := fun b' o hb hm => by
            by_cases he : b' = b
            · grind
            · exact Be (hw.other b' he) o
          blk := fun b' hb hm => hw.other b' fun e => hm (rows.length * ie.size) (by grind)
          shp := hkeep.shp
          sub := fun b' o hm _ => hm.1
          tape := hw.tape
          os := hw.os
          output := hw.output }
      refine ⟨_, w', .lst ie.size (rows ++ rows') (some b), _, M', happ, .inr ⟨by simp [hne], b, ⟨hobjb, by simp [Store.setTok]⟩, rfl, rfl⟩, hsim, hchg, ?_⟩
      rw [<- List.length_append]
      have hget : ∀ p x, (rows ++ rows').flatten[p]? = some x -> ∃ v, w'.cell? ⟨b, p, none⟩ = some v /\ ¬ (M' b p \/ Oth b p) /\ qg v = true /\ VRel w' (fun b o => M' b o \/ Oth b o) x v := fun p x hp => by
        rw [List.flatten_append] at hp
        by_cases hlt : p < rows.length * ie.size
        · rw [List.getElem?_append_left (by rw [wg hk]; exact hlt)] at hp
          obtain ⟨h1, h2, h4, h3⟩ := hold p hlt
          exact ⟨f p, by grind, fun hh => h2 (hh.imp (fun h => h.1) id), h4, (h3 x hp).keep hkeep⟩
        · rw [List.getElem?_append_right (by rw [wg hk]; omega), wg hk] at hp
          obtain ⟨v, hv, hvr⟩ := hnr.getElem? hp
          have hpl := (List.getElem?_eq_some_iff.1 hp).1
          rw [wg hk'] at hpl
          have := hcelln _ v (by simpa using hv)
          have e : rows.length * ie.size + (p - rows.length * ie.size) = p := by omega
          rw [e] at this
          refine ⟨v, this, fun hh => ?_, hone v (List.mem_of_getElem? hv), hvr.keep hkeep⟩
          rcases hh with hh | hh
          · exact hh.2 ⟨rfl, by omega⟩
          · exact sim.sto.dis b p hh (hMtop p (by omega))
      have hlt2 : ∀ (i : Nat) (row : List AV) (j : Nat) (x : AV), (rows ++ rows')[i]? = some row -> row[j]? = some x -> (rows ++ rows').flatten[i * ie.size + j]? = some x := fun i row j x h1 h2 => D7 hkk h1 h2
      refine VRel.lst _ _ b 0 sCap ie.size (fun j => (w'.cell? ⟨b, j, none⟩).getD undef) (by rw [List.length_append]; exact hstay) (fun i row hr => hkk row (List.mem_of_getElem? hr)) (fun t ht => ?_) (fun i row j x h1 h2 => ?_) (fun i row j x h1 h2 => ?_) (fun i row j x h1 h2 => ?_)
      · cases ht; exact ⟨rfl, rfl, by simp [hne], c', e0, fr0, hblk', by rw [hs']; exact hcsz⟩
      · obtain ⟨v, h3, h4, h6, h5⟩ := hget _ x (hlt2 i row j x h1 h2)
        simp only [Nat.zero_add, h3, Option.getD_some]
        exact ⟨Tv, h4⟩
      · obtain ⟨v, h3, h4, h6, h5⟩ := hget _ x (hlt2 i row j x h1 h2)
        simp only [h3, Option.getD_some]
        exact h6
      grind
    · have hold2 : (Builtin.firstCells ie.size rows.length (.slice (some ⟨b, 0, none⟩) rows.length sCap)).run P w.drew = .ok (((List.range' 0 (rows.length * ie.size)).map f).toArray) w.drew := by
        have := Dq (P := P) ⟨b, 0, none⟩ w.drew f (rows.length * ie.size) 0 #[] (fun p _ hp => by
          rw [x8, Nat.zero_add]
          exact (hold p (by omega)).1)
        simp only [Builtin.firstCells, loadCells]
        simpa using this
      obtain ⟨newCap, rest, h1, _, h2, h3⟩ := G5 ty h hlen (hnew w.drew rfl) hold2 (by omega) (by simpa using hroom)
      have htokless : SimB n Oth β A (st.setTok b none) M a w :=
        { sim with
          sep := fun k b' hk hb => sim.sep k b' hk (hb.imp id fun h => by
            by_cases he : b' = b
            · subst he; rw [htb]; simp
            · simpa [Store.setTok, yz he] using h)
          sto := sim.sto.weaken ⟨fun _ _ h => h, fun b' x hx => by
            by_cases he : b' = b
            · subst he; simp [Store.setTok] at hx
            · simpa [Store.setTok, yz he] using hx⟩ }
      obtain ⟨st', M', ho, hsim, hchg, hv⟩ := htokless.appendNew (cs := ((List.range' 0 (rows.length * ie.size)).map f).toArray ++ new ++ rest) (e := e) (cap := newCap) hkk (by simp [hne]) (fun i x hx => by
        rw [List.flatten_append] at hx
        obtain ⟨v, hv, hvr⟩ := (holdR.append hnr).getElem? hx
        refine ⟨v, getElem?_append3 (by simpa using hv), hvr, ?_⟩
        rcases List.mem_append.1 (List.mem_of_getElem? hv) with hm | hm
        · simp only [List.mem_map] at hm
          obtain ⟨p, hp, rfl⟩ := hm
          exact (hold p (by simpa using hp)).2.2.1
        · exact hone v hm) (by rw [List.length_append]; exact h1) (by
          simp only [Array.size_append, hns, h2, List.size_toArray, List.length_map, List.length_range']
          have := Nat.mul_le_mul_right ie.size h1
          rw [Nat.sub_mul, <- Nat.add_mul]
          omega)
      rw [List.length_append] at hv
      exact ⟨_, _, _, st', M', h3, ho, hsim, hchg, hv⟩
end
section
variable {P : Program} {c : Cfg} {K : Fr -> Store -> Prop} {A : Fr} {st : Store} {Oth M : Nat -> Nat -> Prop}
theorem Bt {w : World} {b : Nat} {cs : Array Value} {e : TypeId} {fr : Nat × Nat} (h : w.heap[b]? = some (.cells cs e fr)) (hf : wj fr cs.size) :
    ∃ fr', wj fr' cs.size /\ (w.freeze ⟨b, cs.size, none⟩ 1).heap[b]? = some (.cells cs e fr') /\ ∀ i, i ≠ b -> (w.freeze ⟨b, cs.size, none⟩ 1).heap[i]? = w.heap[i]? := by
  obtain ⟨lo, hi⟩ := fr
  refine ⟨if lo == hi then (cs.size, cs.size + 1) else (min lo cs.size, max hi (cs.size + 1)), ?_, ?_, fun i hi => ?_⟩
  · grind[wj]
  · simp_all[World.freeze,Array.getElem?_modify]
  simp_all[World.freeze,Array.getElem?_modify,Ne.symm]
theorem dt {w : World} {b : Nat} {cs : Array Value} {e : TypeId} {fr : Nat × Nat} (h : w.heap[b]? = some (.cells cs e fr)) (hf : wj fr cs.size) (b' o : Nat) :
    (w.freeze ⟨b, cs.size, none⟩ 1).cell? ⟨b', o, none⟩ = w.cell? ⟨b', o, none⟩ := by grind[Bt,World.cell?]
theorem Pj (w : World) (a : Addr) (n : Nat) : (w.freeze a n).heap.size = w.heap.size := by grind[World.freeze]
theorem Gl {w : World} {b : Nat} {cs : Array Value} {e : TypeId} {fr : Nat × Nat} (h : w.heap[b]? = some (.cells cs e fr)) (hf : wj fr cs.size) (T : Nat -> Nat -> Prop) :
    Keeps w T (w.freeze ⟨b, cs.size, none⟩ 1) T where
  cell b' o x hc _ := by rw [dt h hf]; exact hc
  out _ _ _ _ hT := hT
  shp b' c' e' f' hw := by
    obtain ⟨fr', _, h2, h3⟩ := Bt h hf
    grind
theorem dr {w : World} {b : Nat} {cs : Array Value} {e : TypeId} {fr : Nat × Nat} (h : w.heap[b]? = some (.cells cs e fr)) (hf : wj fr cs.size) {T : Nat -> Nat -> Prop} {l : List AV} {b' : Nat} (hb : b' ≠ b) (hr : CellsRel w T l b') :
    CellsRel (w.freeze ⟨b, cs.size, none⟩ 1) T l b' := by
  obtain ⟨fr', h1, h2, h3⟩ := Bt h hf
  obtain ⟨c', e', f', h4, h5, h6, h7⟩ := hr
  exact ⟨c', e', f', by grind, h5, h6, fun i x y hx hy => (h7 i x y hx hy).keep (Gl h hf T)⟩
theorem SimB.freeze {n : SN} {β : Nat -> Nat} {a : Act} {w : World} (s : SimB n Oth β A st M a w) {b : Nat} {cs : Array Value} {e : TypeId} {fr : Nat × Nat} (h : w.heap[b]? = some (.cells cs e fr)) (hf : wj fr cs.size) (hno : ∃ o, ¬ M b o) :
    SimB n Oth β A st M a (w.freeze ⟨b, cs.size, none⟩ 1) where
  tsz := s.tsz
  dfr := s.dfr.step fun D hD _ h2 => by grind[Bt]
  tm i := (s.tm i).keep (Gl h hf _)
  bx k l hk := ⟨dr h hf (fun e => by obtain ⟨o, ho⟩ := hno; exact ho (e ▸ (s.bx k l hk).2 o)) (s.bx k l hk).1, (s.bx k l hk).2⟩
  inj := s.inj
  sep := s.sep
  sto :=
    { obj := fun b' x hx => by
        refine ⟨?_, (s.sto.obj b' x hx).2⟩
        have hr := (s.sto.obj b' x hx).1
        cases x with
        | cells l => exact dr h hf (fun e => by obtain ⟨o, ho⟩ := hno; exact ho (e ▸ (s.sto.obj b' _ hx).2 o)) hr
        | ghost o gh =>
          obtain ⟨⟨h1, hc⟩, h2⟩ := hr
          have hb : b' ≠ b := fun hh => by subst hh; rw [h] at h1; cases h1; cases hc
          obtain ⟨fr', _, _, h6⟩ := Bt h hf
          exact ⟨⟨by grind, hc⟩, fun p hp => (h2 p hp).keep (Gl h hf _)⟩
        | iter m since seen last =>
          have h1 : w.heap[b']? = _ := hr
          have hb : b' ≠ b := fun hh => by grind
          obtain ⟨fr', _, _, h6⟩ := Bt h hf
          show _ = _
          grind
        | map es bs clock =>
          obtain ⟨ms, h1, h2, h3, h4⟩ := hr
          have hb : b' ≠ b := fun hh => by grind
          obtain ⟨fr', _, _, h6⟩ := Bt h hf
          exact ⟨ms, by grind, h2, fun i x y hx hy => ⟨(h3 i x y hx hy).1.keep (Gl h hf _), (h3 i x y hx hy).2.keep (Gl h hf _)⟩, h4⟩
      tok := fun b' top ht => by
        obtain ⟨c', e', f', h1, h2, h3⟩ := s.sto.tok b' top ht
        grind[Bt]
      mlt := fun b' o hm => by rw [Pj]; exact s.sto.mlt b' o hm
      olt := fun b' o hm => by rw [Pj]; exact s.sto.olt b' o hm
      dis := s.sto.dis }
theorem zv9 {w : World} {b : Nat} {cs : Array Value} {e : TypeId} {fr : Nat × Nat} (h : w.heap[b]? = some (.cells cs e fr)) (hf : wj fr cs.size) (hM : ∃ o, M b o) : Chg M w M (w.freeze ⟨b, cs.size, none⟩ 1) where
  size := by rw [Pj]; simp
  keep b' o _ _ := dt h hf b' o
  blk b' _ hno := by grind[Bt]
  shp b' c' e' f' hw := (Gl h hf (fun _ _ => False)).shp b' c' e' f' hw
  sub _ _ h _ := h
  tape := by rfl
  os := by rfl
  output := by rfl
theorem zxh {o : Oper} {s t : TypeId} {x : Operand} (ho : o.op = .convert s t x) (hI : yk P c.I) (h : Lv P c o s t x K A st) : AOp P c.N o K A st := by
  unfold Lv at h
  split at h
  · rename_i k rows b hx
    cases hb : Nat.beq s t with
    | false => grind
    | true =>
    rw [hb] at h
    simp only [cond_true] at h
    obtain rfl := (xc _ _).1 hb
    obtain ⟨i, hi, h⟩ := zj h
    split at h
    · rename_i e hty
      obtain ⟨ie, hie, h⟩ := zj h
      cases hu8 : (Pb ie.ty && Nat.beq k 1) with
      | false => grind
      | true =>
      rw [hu8] at h
      simp only [cond_true] at h
      obtain ⟨top, htop, h⟩ := zj h
      obtain ⟨hu8, hk1⟩ := Bool.and_eq_true_iff.1 hu8
      have hk1 := (xc _ _).1 hk1
      have hiety : ie.ty = .int .u8 := by grind[Pb]
      rintro Oth M a w ⟨β, sim⟩
      obtain ⟨cs, e', fr, h1, h2, h3, h4⟩ := sim.sto.tok b top htop
      have hv : ∃ n cap, a.eval x = .slice (some ⟨b, 0, none⟩) n cap /\ ∃ o, ¬ M b o := by
        have hr := yv sim.env hx
        generalize a.eval x = v at hr
        cases hr with
        | lst _ _ b' off cap _ f hcap hk htok hc h0 hx' =>
          obtain ⟨rfl, rfl, hne, _⟩ := htok b rfl
          refine ⟨_, _, rfl, ?_⟩
          cases rows with
          | nil => grind
          | cons r rs =>
            have hr1 := hk 0 r rfl
            cases r with
            | nil => grind
            | cons y ys => exact ⟨_, fun hm => (hc 0 _ 0 y rfl rfl).2 (.inl hm)⟩
      obtain ⟨n, cap, hv, hnoM⟩ := hv
      have hsh : w.shape? b = some (e', cs.size) := by simp [World.shape?, h1]
      have hrun : (execOp a.eval o).run P w = .ok (.value (a.eval x)) (w.freeze ⟨b, cs.size, none⟩ 1) := by
        simp [execOp, ho, hv, convert, ya (qy (hI _ _ hi) hty), ya (Fm (hI _ _ hie) hiety), markStringish, hsh]
      have sim' := sim.freeze h1 h2 hnoM
      unfold Oper.wp
      rw [hrun, Oper.upon_value]
      have hvr : LRel (w.freeze ⟨b, cs.size, none⟩ 1) (fun b o => M b o \/ Oth b o) β (.av (.lst k rows (some b))) (a.eval x) := by
        have := sim'.ev x
        grind
      have hchg : Chg M w M (w.freeze ⟨b, cs.size, none⟩ 1) := zv9 h1 h2 ⟨top, h4 top (Nat.le_refl _)⟩
      unfold yy at h
      cases hd : o.dst with
      | none => rw [hd] at h; exact ⟨A, st, M, h, ⟨β, sim'⟩, hchg⟩
      | some d =>
        rw [hd] at h
        obtain ⟨hlt, h⟩ := jv h
        exact ⟨_, st, M, h, ⟨β, sim'.put hlt hvr⟩, hchg⟩
    grind
  · exact Mf hI h
  · exact Mf hI h
  grind[Il]
end
section
variable {P : Program} {c : Cfg} {K : Fr -> Store -> Prop} {A : Fr} {st : Store}
theorem zxl {o : Oper} {cl : Call} (ho : o.op = .call cl) (hcl : cl.callee = .builtin .append) (hI : yk P c.I)
    (h : optK cl.argTypes[0]? fun t => optK (c.I t) fun i => optK cl.args[0]? fun s => optK cl.args[1]? fun x => match i.ty with
      | .slice e => bif (cl.argTypes[1]?.bind c.I).any Hh then
          appendK P c st e (A.ev s) (A.ev x) fun r st' => yy A c.n o.dst (.av r) fun A' => K A' st' else vcX P c o K A st
      | _ => False) : AOp P c.N o K A st := by
  obtain ⟨t, ht, h⟩ := zj h
  obtain ⟨i, hi, h⟩ := zj h
  obtain ⟨s, hs, h⟩ := zj h
  obtain ⟨x, hx, h⟩ := zj h
  split at h
  · rename_i e hty
    cases hb : (cl.argTypes[1]?.bind c.I).any Hh with
    | false => rw [hb] at h; exact Mf hI h
    | true =>
    rw [hb] at h
    simp only [cond_true] at h
    replace h := h.out
    rintro Oth M a w ⟨β, sim⟩
    have ht1 : ∃ t1 e1, cl.argTypes[1]? = some t1 /\ P.underlying t1 = some (.slice e1) := by
      cases h1 : cl.argTypes[1]? with
      | none => grind
      | some t1 =>
        rw [h1] at hb
        simp only [Option.bind_some] at hb
        cases h2 : c.I t1 with
        | none => grind
        | some j =>
          rw [h2] at hb
          simp only [Option.any_some] at hb
          unfold Hh at hb
          split at hb
          · rename_i e1 h3; exact ⟨t1, e1, rfl, qy (hI _ _ h2) h3⟩
          grind
    have hrun : (execOp a.eval o).run P w = ((Builtin.append_ cl.argTypes o.type (cl.args.map a.eval)).run P w).andThen fun v w' => .ok (.value v) w' := by simp_all[execOp,resolve,invoke,builtin]
    have fin : ∀ v w', (∃ r st' M', (yy A c.n o.dst (.av r) fun A' => K A' st') /\ VRel w' (fun b o => M' b o \/ Oth b o) r v /\ SimB c.N Oth β A st' M' a w' /\ Chg M w M' w') ->
        ∃ A' st' M', K A' st' /\ Sim c.N Oth A' st' M' (a.put o.dst v) w' /\ Chg M w M' w' := by
      rintro v w' ⟨r, st', M', hk, hv, hs, hchg⟩
      unfold yy at hk
      cases hd : o.dst with
      | none => rw [hd] at hk; exact ⟨A, st', M', hk, ⟨β, hs⟩, hchg⟩
      | some d =>
        rw [hd] at hk
        obtain ⟨hlt, hk⟩ := jv hk
        exact ⟨_, st', M', hk, ⟨β, hs.put hlt hv⟩, hchg⟩
    have h1 : (cl.args.map a.eval)[1]? = some (a.eval x) := by grind
    unfold Oper.wp
    rw [hrun]
    rcases h with h | ⟨s', x', hes, hex, h⟩
    rotate_left
    · have hvs := yv sim.env hes
      have hvx := yv sim.env hex
      have h0 : (cl.args.map a.eval)[0]? = some (a.eval s) := by grind
      obtain ⟨ie, hie⟩ := h.has
      obtain ⟨v, w', hr, hp⟩ := h.out ie hie _ _ w _ _ _ o.type _ t sim.inner (hvs.mono Cx) (hvx.mono Cx) ht ht1 (qy (hI _ _ hi) hty) (hI _ _ hie) h0 h1
      rw [hr]
      exact fin v w' (sim.post v w' hp)
    unfold Rl at h
    obtain ⟨ie, hie, h⟩ := zj h
    split at h
    · rename_i hev
      obtain ⟨rows, hrows, hroom, h⟩ := zj h
      have hsv : a.eval s = .slice none 0 0 := VRel.eq_s (yv sim.env hev)
      have h0 : (cl.args.map a.eval)[0]? = some (.slice none 0 0) := by grind
      obtain ⟨v, w', r, st', M', hr, hown, hsim, hchg, hv⟩ := (Rk (c := c) sim o.type ⟨ht, ht1, qy (hI _ _ hi) hty, hI _ _ hie, h0, h1⟩ (sim.ev x) hrows).1 ⟨rfl, rfl, fun x h => by cases h⟩ hroom
      rw [hr]
      exact fin v w' ⟨r, st', M', h r st' hown, hv, hsim, hchg⟩
    · rename_i hev
      obtain ⟨rows, hrows, hroom, h⟩ := zj h
      have hsv : ∃ ad, a.eval s = .slice ad 0 0 /\ ∀ x, ad = some x -> x.spot = none := by
        have := yv sim.env hev
        generalize a.eval s = v at this
        cases this with
        | emp ad h => grind
      obtain ⟨ad, hsv, hspot⟩ := hsv
      have h0 : (cl.args.map a.eval)[0]? = some (.slice ad 0 0) := by grind
      obtain ⟨v, w', r, st', M', hr, hown, hsim, hchg, hv⟩ := (Rk (c := c) sim o.type ⟨ht, ht1, qy (hI _ _ hi) hty, hI _ _ hie, h0, h1⟩ (sim.ev x) hrows).1 ⟨rfl, rfl, hspot⟩ hroom
      rw [hr]
      exact fin v w' ⟨r, st', M', h r st' hown, hv, hsim, hchg⟩
    · rename_i k rows b hev
      cases hkb : (Nat.beq k ie.size && Nat.blt 0 ie.size) with
      | false => grind
      | true =>
      rw [hkb] at h
      simp only [cond_true] at h
      rw [Bool.and_eq_true] at hkb
      have hpos : 0 < ie.size := Nat.le_of_ble_eq_true hkb.2
      obtain rfl := (xc _ _).1 hkb.1
      obtain ⟨rows', hrows, htok, hroom, h⟩ := zj h
      have hvr := yv sim.env hev
      obtain ⟨base, sLen, sCap, hsv⟩ : ∃ base sLen sCap, a.eval s = .slice base sLen sCap := by
        generalize a.eval s = v at hvr
        cases hvr <;> simp
      rw [hsv] at hvr
      have h0 : (cl.args.map a.eval)[0]? = some (.slice base sLen sCap) := by grind
      obtain ⟨v, w', r, st', M', hr, hown, hsim, hchg, hv⟩ := (Rk (c := c) sim o.type ⟨ht, ht1, qy (hI _ _ hi) hty, hI _ _ hie, h0, h1⟩ (sim.ev x) hrows).2 rows b hpos hvr htok hroom
      rw [hr]
      exact fin v w' ⟨r, st', M', h r st' hown, hv, hsim, hchg⟩
    grind
  grind
theorem Wo {o : Oper} {x : LV} {v : Value} {a : Act} {w : World} {Oth M : Nat -> Nat -> Prop} {β : Nat -> Nat} (sim : SimB c.N Oth β A st M a w) (hv : LRel w (fun b o => M b o \/ Oth b o) β x v)
    (h : yy A c.n o.dst x fun A' => K A' st) : ∃ A' st' M', K A' st' /\ Sim c.N Oth A' st' M' (a.put o.dst v) w /\ Chg M w M' w := by
  unfold yy at h
  cases hd : o.dst with
  | none => rw [hd] at h; exact ⟨A, st, M, h, ⟨β, sim⟩, Chg.refl _ _⟩
  | some d =>
    rw [hd] at h
    obtain ⟨hlt, h⟩ := jv h
    exact ⟨_, st, M, h, ⟨β, sim.put hlt hv⟩, Chg.refl _ _⟩
set_option maxHeartbeats 1000000 in
theorem zne (w : World) {t e : TypeId} (hu : P.underlying t = some (.slice e)) (ad : Option Addr) (n cap d : Nat) : (Op.equalIn (d + 1) t (.slice ad n cap) (.slice none 0 0)).run P w = .ok ad.isNone w := by
  cases ad <;> simp [Op.equalIn, ya hu]
theorem V1 (w : World) {t e : TypeId} (hu : P.underlying t = some (.slice e)) (ad : Option Addr) (n cap : Nat) :
    (binOp .eql t (.slice ad n cap) (.slice none 0 0)).run P w = .ok (.bool ad.isNone) w /\ (binOp .neq t (.slice ad n cap) (.slice none 0 0)).run P w = .ok (.bool !ad.isNone) w := by grind[zne,binOp,Op.equal,Op.maxDepth,Sem.run_bind,Result.andThen_ok,Sem.run_pure]
theorem zxk {o : Oper} {op : BinOp} {t yt : TypeId} {x y : Operand} (ho : o.op = .binOp op t x y yt) (hI : yk P c.I)
    (h : L8 c o op t x y yt K A st) : AOp P c.N o K A st := by
  unfold L8 at h
  split at h
  · rename_i k rows tok hx hy
    obtain ⟨i, hi, h⟩ := zj h
    rintro Oth M a w ⟨β, sim⟩
    have hyv : a.eval y = .slice none 0 0 := VRel.eq_s (yv sim.env hy)
    have hxv : ∃ ad n cap, a.eval x = .slice ad n cap /\ (ad.isNone = true -> rows = []) := by
      rcases Ha (yv sim.env hx) with ⟨_, cap, hv, h2, _⟩ | ⟨b, off, cap, hv, _⟩
      · grind
      grind
    obtain ⟨ad, n, cap, hxv, hnil⟩ := hxv
    cases hty : i.ty with
    | slice e =>
      rw [hty] at h
      have hu := qy (hI _ _ hi) hty
      cases op with
      | eql =>
        have hrun : (execOp a.eval o).run P w = .ok (.value (.bool ad.isNone)) w := by simp_all[execOp,eqGuard,V1]
        unfold Oper.wp
        rw [hrun, Oper.upon_value]
        exact Wo sim (x := qx ad.isNone) (VRel.s _) (h _ hnil)
      | neq =>
        have hrun : (execOp a.eval o).run P w = .ok (.value (.bool !ad.isNone)) w := by simp_all[execOp,eqGuard,V1]
        unfold Oper.wp
        rw [hrun, Oper.upon_value]
        exact Wo sim (x := qx !ad.isNone) (VRel.s _) (h _ hnil)
      | _ => grind
    | _ => grind
  grind[Il]
theorem iy (hI : yk P c.I) {o : Oper} (h : vo P c o K A st) : AOp P c.N o K A st := by
  unfold vo at h
  cases hx : isX o.op with
  | true => rw [hx] at h; exact Mf hI h
  | false =>
  rw [hx] at h
  replace h : Ak P c o K A st := h
  unfold Ak at h
  cases ho : o.op with
  | alloc t => grind[Ba,zxm]
  | box t x => grind[zxj]
  | buildSlice t n ps => simp only [ho] at h; exact iz ho hI h
  | store t p x =>
    simp only [ho] at h
    cases hd : o.dst with
    | some d => grind
    | none => rw [hd] at h; exact zxe ho hd hI h
  | binOp op t x y yt => grind[zxk]
  | convert s t x => grind[zxh]
  | call cl =>
    simp only [ho] at h
    grind[zxi,zxg,zxl,Il]
  | _ => grind[Il]
theorem Cfg.noDepth (c : Cfg) : c.F.depth.isSome = true -> 1 <= 0 := fun h => by cases h
theorem zwf {c : Cfg} {f : FuncId} {args : Array Value} {w : World} {R : Ending -> World -> Prop} (h : Calls P f args w R) : CallsIn c.F 0 P f args w R :=
  (callsIn_wide (n := 0)).2 h
theorem znp {c : Cfg} {row : String} {args : Array Value} {w : World} {R : Value -> World -> Prop} (h : Rows P row args w R) : RowsIn c.F 0 P row args w R :=
  fun x cs _ => let ⟨v, w', r, s⟩ := h x cs; ⟨v, w', r, stepsIn_wide.2 s⟩
theorem Oper.wpIn_F {o : Oper} (hd : ∀ cl, o.op ≠ .defer cl) {a : Act} {w : World} {K : Act -> World -> Prop} {Q : Exit -> Act -> World -> Prop} (h : o.wp P a w K Q) : o.wpIn c.F 0 P a w K Q := by
  refine ⟨fun _ _ => Tv, ?_⟩
  rw [Oper.semAt_eq _ _ _ hd]
  unfold Oper.wp at h
  generalize (execOp a.eval o).run P w = r at *
  cases r with
  | ok x w' =>
    cases x <;> simp only [Oper.upon, Oper.uponIn] at h ⊢ <;>
      first
        | exact h
        | exact ⟨c.noDepth, zwf h⟩
        | exact ⟨c.noDepth, znp h⟩
        | exact h.elim
  | halt x w' => cases x <;> trivial <;> exact h
theorem zqj {o : Oper} (h : vo P c o K A st) (cl : Call) : o.op ≠ .defer cl := by
  intro e
  unfold vo at h
  rw [e] at h
  have h : Ak P c o K A st := h
  unfold Ak at h
  simp only [e] at h
  obtain ⟨d, _, h⟩ := zj h
  obtain ⟨_, h⟩ := jv h
  exact h.elim
theorem la {o : Oper} {l : Nat} (h : Mk A o.op = some l) : ∃ cl f fv cap, o.op = .call cl /\ cl.callee = .value f /\ A.ev f = .av (.s (.func (.yield l) fv cap)) /\ fv = #[] /\ cap = #[] := by
  unfold Mk at h
  split at h
  · rename_i cl hop
    split at h
    · rename_i f hcl
      split at h
      · rename_i l' fv cap hev
        cases hb : (Nat.beq fv.size 0 && Nat.beq cap.size 0) with
        | false => grind
        | true =>
          simp_all
      · cases h
    · cases h
  · cases h
theorem znq {l : Nat} {f : FuncId} {tmps : Array Value} {assign body : Code} {w : World} {R : Ending -> World -> Prop} (h : RoundIn Fence.wide 0 P l f tmps assign body w R) : RoundIn c.F 0 P l f tmps assign body w R := h
theorem zxn (hI : yk P c.I) {o : Oper} (h : Fi P c o K A st) : zx1 P c o K A st := by
  unfold Fi at h
  split at h
  rotate_left
  · exact fun Oth M a w sim => Oper.wpIn_F (zqj h) (iy hI h Oth M a w sim)
  · rename_i l hl
    obtain ⟨cl, f, fv, cap, ho, hcl, hf, rfl, rfl⟩ := la hl
    rintro Oth M a w ⟨β, sim⟩
    obtain ⟨vs, hvs, h⟩ := zj h
    unfold Rq at hvs
    rw [ho] at hvs
    have hfv : a.eval f = .func (.yield l) #[] #[] := VRel.eq_s (yv sim.env hf)
    obtain ⟨hm1, hm2⟩ := Ge hvs
    have hr1 : Reads w (fun b o => M b o \/ Oth b o) vs (cl.args.map a.eval).toList := by
      refine ⟨by simp [hm1], fun i x y hx hy => ?_⟩
      obtain ⟨z, hz, hzz⟩ := hm2 i x hx
      have hz' : cl.args[i]? = some z := by grind
      rw [Array.toList_map, List.getElem?_map, hz] at hy
      simp at hy
      subst hy
      exact yv sim.env (Hd hzz)
    have hrun : (execOp a.eval o).run P w = (Instr.yield l (cl.args.map a.eval)).run P w := by grind[execOp,resolve,Deferred.ofValue,invoke]
    obtain ⟨fn, tmps, assign, body, hy, hround⟩ := h.out _ _ w (cl.args.map a.eval) sim.inner ⟨hr1.1, fun i x y hx hy => (hr1.2 i x y hx hy).mono Cx⟩
    refine ⟨fun _ _ => Tv, ?_⟩
    rw [Oper.semAt_eq _ _ _ (by grind), hrun, hy, Oper.uponIn_round]
    refine ⟨c.noDepth, znq (hround.mono ?_)⟩
    rintro e w' ⟨v, rfl, hp⟩
    obtain ⟨r, st', M', hk, hv, hs, hchg⟩ := sim.post v w' hp
    show ∃ A' st' M', _
    unfold yy at hk
    cases hd : o.dst with
    | none => rw [hd] at hk; exact ⟨A, st', M', hk, ⟨β, hs⟩, hchg⟩
    | some d =>
      rw [hd] at hk
      obtain ⟨hlt, hk⟩ := jv hk
      exact ⟨_, st', M', hk, ⟨β, hs.put hlt hv⟩, hchg⟩
end
def Hi (c : Cfg) (o : Oper) (A : Fr) (K : Fr -> Prop) : Prop := yy A c.n o.dst .und K
/-- The operations of a region, one behind the other. -/
def vn (P : Program) (c : Cfg) (ops : Array Oper) (K : Fr -> Store -> Prop) : List Oper -> Fr -> Store -> Prop
  | [], A, st => K A st
  | o :: rest, A, st =>
    match o.guard with
    | none => Fi P c o (vn P c ops K rest) A st
    | some (j, want) => optK ((ops[j]?).bind (·.dst)) fun t =>
      match A.t t with
      | .av (.s (.bool b)) => vl b
          (bif want then Fi P c o (vn P c ops K rest) (A.put t (qx true)) st else Hi c o (A.put t (qx true)) fun A' => vn P c ops K rest A' st)
          (bif want then Hi c o (A.put t (qx false)) fun A' => vn P c ops K rest A' st else Fi P c o (vn P c ops K rest) (A.put t (qx false)) st)
      | .und => Hi c o A fun A' => vn P c ops K rest A' st
      | _ => False
/-- A piece of code, in words of worlds. -/
structure AWp (P : Program) (c : Cfg) (code : Code) (Q : Exit -> Fr -> Store -> Prop) (A : Fr) (st : Store) : Prop where
  out : ∀ Oth M a w, Sim c.N Oth A st M a w -> code.wpIn c.F 0 P (fun e a' w' => ∃ A' st' M', Q e A' st' /\ Sim c.N Oth A' st' M' a' w' /\ Chg M w M' w') a w
/-- A region whose order is drawn. -/
structure ADraw (P : Program) (c : Cfg) (ops : Array Oper) (K : Fr -> Store -> Prop) (A : Fr) (st : Store) : Prop where
  out : ∀ id, AWp P c (.region id ops true) (fun e A' st' => match e with | .normal => K A' st' | _ => False) A st
def I3 (next : Fr -> Store -> Prop) (Q : Exit -> Fr -> Store -> Prop) : Exit -> Fr -> Store -> Prop
  | .normal => next
  | e => Q e
def Ky (id : Nat) (Q : Exit -> Fr -> Store -> Prop) : Exit -> Fr -> Store -> Prop
  | .exit id' => bif Nat.beq id' id then Q .normal else Q (.exit id')
  | e => Q e
def bc (Q : Exit -> Fr -> Store -> Prop) : Exit -> Fr -> Store -> Prop
  | .goto _ => fun _ _ => False
  | e => Q e
def vc (P : Program) (c : Cfg) : Code -> (Exit -> Fr -> Store -> Prop) -> Fr -> Store -> Prop
  | .skip, Q, A, st => Q .normal A st
  | .region _ ops draw, Q, A, st => match draw with
    | false => vn P c ops (Q .normal) ops.toList A st
    | true => ADraw P c ops (Q .normal) A st
  | .seq a b, Q, A, st => vc P c a (I3 (vc P c b Q) Q) A st
  | .cond x a b, Q, A, st => match A.ev x with
    | .av (.s (.bool t)) => vl t (vc P c a Q A st) (vc P c b Q A st)
    | _ => False
  | .block id b, Q, A, st => vc P c b (Ky id Q) A st
  | .loop b, Q, A, st => AWp P c (.loop b) Q A st
  | .exit id, Q, A, st => Q (.exit id) A st
  | .scope b, Q, A, st => vc P c b (bc Q) A st
  | .label _, Q, A, st => Q .normal A st
  | .ret, Q, A, st => Q .ret A st
  | _, _, _, _ => False
section
variable {P : Program} {c : Cfg}
theorem Fr.put_self {A : Fr} {d : Nat} {x : LV} (h : A.t d = x) : A.put d x = A := by
  unfold Fr.put
  congr
  grind[yz]
theorem dl {ops : Array Oper} {tmps : Array Value} {j t : Nat} {b : Bool} (hd : (ops[j]?).bind (·.dst) = some t) (h : tmps.getD t undef = .bool b) : yielded ops tmps j = some b := by
  unfold yielded
  rw [hd]
  simp only [Option.bind_some]
  rw [Array.getD_eq_getD_getElem?] at h
  grind[undef]
theorem dk {ops : Array Oper} {tmps : Array Value} {j t : Nat} (hd : (ops[j]?).bind (·.dst) = some t) (h : tmps.getD t undef = undef) : yielded ops tmps j = none := by
  unfold yielded
  rw [hd]
  simp only [Option.bind_some]
  rw [Array.getD_eq_getD_getElem?] at h
  cases ht : tmps[t]? with
  | none => rfl
  | some v => rw [ht] at h; simp at h; subst h; rfl
theorem Ml {o : Oper} {a : Act} {w : World} {K K' : Act -> World -> Prop} {Q Q' : Exit -> Act -> World -> Prop} (hk : ∀ a w, K a w -> K' a w) (hn : ∀ e a w, e ≠ .normal -> ¬ Q e a w) (h : o.wpIn c.F 0 P a w K Q) : o.wpIn c.F 0 P a w K' Q' := by
  refine ⟨h.1, ?_⟩
  have h := h.2
  generalize (o.semAt c.F.round a.eval).run P w = r at *
  have nq : ∀ (e : Exit) (a : Act) (w : World) {p : Prop}, e ≠ .normal -> Q e a w -> p := fun e a w p hne h => (hn e a w hne h).elim
  cases r with
  | ok x w' =>
    cases x <;> simp only [Oper.uponIn] at h ⊢ <;>
      first
        | exact hk _ _ h
        | exact ⟨h.1, CallsIn.mono h.2 (fun e w'' he => by
            cases e with
            | returned v => exact hk _ _ he
            | panicked ch => exact nq _ _ _ (by simp) he
            | outgrown => obtain ⟨a2, w2, h2⟩ := he; exact nq _ _ _ (by simp) h2)⟩
        | exact ⟨h.1, RowsIn.mono h.2 (fun _ _ he => hk _ _ he)⟩
        | exact ⟨h.1, RoundIn.mono h.2 (fun e w'' he => by
            cases e with
            | returned v => exact hk _ _ he
            | panicked ch => exact nq _ _ _ (by simp) he
            | outgrown => obtain ⟨a2, w2, h2⟩ := he; exact nq _ _ _ (by simp) h2)⟩
        | exact h
  | halt x w' => cases x <;> simp only [Oper.uponIn] at h ⊢ <;> grind
theorem mq (hI : yk P c.I) (ops : Array Oper) (K : Fr -> Store -> Prop) : ∀ (l : List Oper) (A : Fr) (st : Store), vn P c ops K l A st ->
    ∀ Oth M a w, Sim c.N Oth A st M a w -> wpListIn c.F 0 P ops (fun e a' w' => e = .normal /\ ∃ A' st' M', K A' st' /\ Sim c.N Oth A' st' M' a' w' /\ Chg M w M' w') l a w := by
  intro l
  induction l with
  | nil => intro A st h Oth M a w sim; exact ⟨rfl, A, st, M, h, sim, Chg.refl M w⟩
  | cons o rest ih =>
    intro A st h Oth M a w sim
    have mono : ∀ (M' : Nat -> Nat -> Prop) (w' : World) (a' : Act) (A' : Fr) (st' : Store), vn P c ops K rest A' st' -> Sim c.N Oth A' st' M' a' w' -> Chg M w M' w' ->
        wpListIn c.F 0 P ops (fun e a' w' => e = .normal /\ ∃ A' st' M', K A' st' /\ Sim c.N Oth A' st' M' a' w' /\ Chg M w M' w') rest a' w' := by
      intro M' w' a' A' st' h1 h2 h3
      have := ih A' st' h1 Oth M' a' w' h2
      clear h h1
      -- weaken the post
      have wm : ∀ (l : List Oper) (a w0) (Q Q' : Exit -> Act -> World -> Prop), (∀ e a w, Q e a w -> Q' e a w) -> (∀ e a w, e ≠ .normal -> ¬ Q e a w) -> wpListIn c.F 0 P ops Q l a w0 -> wpListIn c.F 0 P ops Q' l a w0 := by
        intro l
        induction l with
        | nil => intro a w0 Q Q' hq _ h; exact hq _ _ _ h
        | cons o l ihl =>
          intro a w0 Q Q' hq hn h
          unfold wpListIn at h ⊢
          split
          · rename_i hw
            rw [if_pos hw] at h
            grind[Ml]
          grind
      refine wm rest a' w' _ _ ?_ ?_ this
      · rintro e a w ⟨he, A', st', M'', h4, h5, h6⟩
        exact ⟨he, A', st', M'', h4, h5, h3.trans h6⟩
      grind
    -- an operation that is carried out
    have go : ∀ A1, Fi P c o (vn P c ops K rest) A1 st -> Sim c.N Oth A1 st M a w -> Region.wanted o (yielded ops a.tmps) = true ->
        wpListIn c.F 0 P ops (fun e a' w' => e = .normal /\ ∃ A' st' M', K A' st' /\ Sim c.N Oth A' st' M' a' w' /\ Chg M w M' w') (o :: rest) a w := by
      intro A1 h1 sim1 hw
      unfold wpListIn
      rw [if_pos hw]
      exact Ml (fun a' w' ⟨A', st', M', h3, h4, h5⟩ => mono M' w' a' A' st' h3 h4 h5) (fun _ _ _ _ h => h) (zxn hI h1 Oth M a w sim1)
    have skip : ∀ A1, (Hi c o A1 fun A' => vn P c ops K rest A' st) -> Sim c.N Oth A1 st M a w -> Region.wanted o (yielded ops a.tmps) = false ->
        wpListIn c.F 0 P ops (fun e a' w' => e = .normal /\ ∃ A' st' M', K A' st' /\ Sim c.N Oth A' st' M' a' w' /\ Chg M w M' w') (o :: rest) a w := by
      intro A1 h1 sim1 hw
      unfold wpListIn
      rw [if_neg (by grind)]
      refine ⟨fun _ _ => Tv, ?_⟩
      obtain ⟨β, sim1⟩ := sim1
      unfold Hi yy at h1
      cases hd : o.dst with
      | none => rw [hd] at h1; exact mono M w _ A1 st h1 ⟨β, sim1⟩ (Chg.refl _ _)
      | some d =>
        rw [hd] at h1
        obtain ⟨hlt, h1⟩ := jv h1
        exact mono M w _ _ st h1 ⟨β, sim1.put hlt (x := .und) rfl⟩ (Chg.refl _ _)
    unfold vn at h
    cases hg : o.guard with
    | none =>
      grind[Region.wanted]
    | some jw =>
      obtain ⟨j, want⟩ := jw
      rw [hg] at h
      obtain ⟨t, ht, h⟩ := zj h
      have hwant : ∀ y, yielded ops a.tmps j = y -> Region.wanted o (yielded ops a.tmps) = (y == some want) := fun y hy => by simp [Region.wanted, hg, hy]
      split at h
      · rename_i b hb
        have htv : a.tmps.getD t undef = .bool b := by
          obtain ⟨β, s⟩ := sim
          have := s.tm t
          rw [hb] at this
          exact VRel.eq_s this
        have hw := hwant _ (dl ht htv)
        cases b with
        | true =>
          rw [Fr.put_self (A := A) (x := qx true) hb] at h
          cases want with
          | true => exact go A h sim (by grind)
          | false => exact skip A h sim (by grind)
        | false =>
          rw [Fr.put_self (A := A) (x := qx false) hb] at h
          cases want with
          | true => exact skip A h sim (by grind)
          | false => exact go A h sim (by grind)
      · rename_i hb
        have htv : a.tmps.getD t undef = undef := by
          obtain ⟨β, s⟩ := sim
          have := s.tm t
          rw [hb] at this
          exact this
        grind[dk]
      grind
end
section
variable {P : Program} {c : Cfg}
theorem Code.wpF_mono {F : Fence} {code : Code} {Q Q' : Exit -> Act -> World -> Prop} {a : Act} {w : World} (hq : ∀ e a w, Q e a w -> Q' e a w) (h : code.wpIn F 0 P Q a w) : code.wpIn F 0 P Q' a w := wpIn_mono h hq
theorem Rs {F : Fence} {n : Nat} {code : Code} {Q : Exit -> Act -> World -> Prop} {a : Act} {w : World} (h : code.wpIn F n P (Exit.noGoto Q) a w) : (Code.scope code).wpIn F n P Q a w := by
  intro b k cs hro hb hr
  have s1 : step P (lone (b.atR a (.code (.scope code) :: k)) cs w) = .next (lone (b.atR a (.code code :: .inScope code :: k)) cs w) := step_lone_go (by rfl)
  have h0 : (lone (b.atR a (.code (.scope code) :: k)) cs w).fenced P F := fenced_calm hb hr rfl
  obtain ⟨e, a₁, w₁, hq, harr⟩ := h b (.inScope code :: k) cs hro hb hr
  cases e with
  | normal =>
    have s2 : step P (lone (b.atR a₁ (.inScope code :: k)) cs w₁) = .next (lone (b.atR a₁ k) cs w₁) := step_lone_go (by rfl)
    exact ⟨.normal, a₁, w₁, hq, .head h0 s1 (StepsIn.trans harr (.one (fenced_calm hb hr rfl) s2))⟩
  | exit id =>
    have hx : exitTo id (.inScope code :: k) = exitTo id k := by rfl
    exact ⟨.exit id, a₁, w₁, hq, fun k' hk => .head h0 s1 (harr.1 k' (by grind)), fun hr' hk => let ⟨k₁, h1, h2⟩ := harr.2 hr' (by grind); ⟨k₁, h1, .head h0 s1 h2⟩⟩
  | goto l => trivial
  | ret => exact ⟨_, a₁, w₁, hq, .of_steps (.one h0 s1) harr⟩
  | panic ch => exact ⟨_, a₁, w₁, hq, .of_steps (.one h0 s1) harr⟩
  | outgrown => exact ⟨_, a₁, w₁, hq, .of_steps (.one h0 s1) harr⟩
theorem AWp.mono {code : Code} {Q Q' : Exit -> Fr -> Store -> Prop} {A : Fr} {st : Store} (h : AWp P c code Q A st) (hq : ∀ e A st, Q e A st -> Q' e A st) : AWp P c code Q' A st :=
  ⟨fun Oth M a w sim => Code.wpF_mono (fun e a' w' ⟨A', st', M', h1, h2, h3⟩ => ⟨A', st', M', hq _ _ _ h1, h2, h3⟩) (h.out Oth M a w sim)⟩
theorem ld {F : Fence} {ops : Array Oper} {id : Nat} {Q : Exit -> Act -> World -> Prop} {R : Act -> World -> Prop} {a : Act} {w : World} (h : wpListIn F 0 P ops (fun e a' w' => e = .normal /\ R a' w') ops.toList a w) (hq : ∀ a w, R a w -> Q .normal a w) : (Code.region id ops false).wpIn F 0 P Q a w :=
  Code.wpF_mono (fun e a' w' ⟨he, hr⟩ => by grind) (wpIn_region_list h)
theorem Mt (hI : yk P c.I) : ∀ (code : Code) (Q : Exit -> Fr -> Store -> Prop) (A : Fr) (st : Store), vc P c code Q A st -> AWp P c code Q A st := by
  intro code
  induction code with
  | skip => intro Q A st h; exact ⟨fun Oth M a w sim => wpIn_skip ⟨A, st, M, h, sim, Chg.refl _ _⟩⟩
  | region id ops draw =>
    intro Q A st h
    cases draw with
    | false => exact ⟨fun Oth M a w sim => ld (mq hI ops (Q .normal) ops.toList A st h Oth M a w sim) fun _ _ h => h⟩
    | true => exact (ADraw.out h id).mono fun e A' st' h' => by grind
  | seq x y ihx ihy =>
    intro Q A st h
    refine ⟨fun Oth M a w sim => wpIn_seq ?_⟩
    refine Code.wpF_mono ?_ ((ihx _ A st h).out Oth M a w sim)
    rintro e a' w' ⟨A', st', M', h1, h2, h3⟩
    cases e with
    | normal =>
      refine Code.wpF_mono ?_ ((ihy _ A' st' h1).out Oth M' a' w' h2)
      rintro e a'' w'' ⟨A'', st'', M'', h4, h5, h6⟩
      exact ⟨A'', st'', M'', h4, h5, h3.trans h6⟩
    | _ => exact ⟨A', st', M', h1, h2, h3⟩
  | cond x p q ihp ihq =>
    intro Q A st h
    simp only [vc] at h
    split at h
    · rename_i t ht
      refine ⟨fun Oth M a w sim => ?_⟩
      have hv : a.eval x = .bool t := by
        obtain ⟨β, s⟩ := sim
        exact VRel.eq_s (yv s.env ht)
      refine wpIn_cond hv ?_
      cases t with
      | true => exact (ihp Q A st h).out Oth M a w sim
      | false => exact (ihq Q A st h).out Oth M a w sim
    grind
  | block id b ih =>
    intro Q A st h
    refine ⟨fun Oth M a w sim => wpIn_block ?_⟩
    refine Code.wpF_mono ?_ ((ih _ A st h).out Oth M a w sim)
    rintro e a' w' ⟨A', st', M', h1, h2, h3⟩
    cases e with
    | exit id' =>
      simp only [Ky] at h1
      simp only [Exit.inBlock]
      by_cases he : id' = id
      · subst he
        simp only [Nat.beq_refl, cond_true] at h1
        grind
      · simp only [yz he, cond_false] at h1
        grind
    | _ => exact ⟨A', st', M', h1, h2, h3⟩
  | loop b ih => intro Q A st h; exact h
  | rangeFunc f ps x y ihx ihy => intro Q A st h; exact h.elim
  | exit id => intro Q A st h; exact ⟨fun Oth M a w sim => wpIn_exit ⟨A, st, M, h, sim, Chg.refl _ _⟩⟩
  | scope b ih =>
    intro Q A st h
    refine ⟨fun Oth M a w sim => Rs ?_⟩
    refine Code.wpF_mono ?_ ((ih _ A st h).out Oth M a w sim)
    rintro e a' w' ⟨A', st', M', h1, h2, h3⟩
    cases e with
    | goto l => trivial
    | _ => exact ⟨A', st', M', h1, h2, h3⟩
  | label l => intro Q A st h; exact ⟨fun Oth M a w sim => wpIn_label ⟨A, st, M, h, sim, Chg.refl _ _⟩⟩
  | goto l => intro Q A st h; exact h.elim
  | ret => intro Q A st h; exact ⟨fun Oth M a w sim => wpIn_ret ⟨A, st, M, h, sim, Chg.refl _ _⟩⟩
  | refuse s => intro Q A st h; exact h.elim
/-- What the result variables hold. -/
def F5 (c : Cfg) (A : Fr) (st : Store) : List ResultVar -> (List AV -> Prop) -> Prop
  | [], K => K []
  | .tmp t :: rest, K => match A.t t with
    | .av x => F5 c A st rest fun l => K (x :: l)
    | _ => False
  | .cell p t :: rest, K => optK (c.I t) fun i => Ih A.bx st (A.t p) fun l => optK (vr i l) fun x => F5 c A st rest fun l => K (x :: l)
def We : List AV -> AV
  | [x] => x
  | l => .tup l
def N5 (c : Cfg) (rs : List ResultVar) (R : AV -> Store -> Prop) (A : Fr) (st : Store) : Prop :=
  F5 c A st rs fun l => ∃ r st', AV.le (We l) r /\ st.Has st' /\ R r st'
def Wd (c : Cfg) (rs : List ResultVar) (R : AV -> Store -> Prop) : Exit -> Fr -> Store -> Prop
  | .normal => N5 c rs R
  | .ret => N5 c rs R
  | _ => fun _ _ => False
def Md (args : List AV) (i : Nat) : LV :=
  match args, i with
  | [], _ => .und
  | x :: _, 0 => .av x
  | _ :: l, i + 1 => Md l i
def La (args : List AV) : Fr := ⟨Md args, fun _ => none⟩
theorem zw7 (args : List AV) (i : Nat) : Md args i = match args[i]? with | some x => .av x | none => .und := by
  induction args generalizing i with
  | nil => rfl
  | cons x l ih =>
    cases i with
    | zero => rfl
    | succ i => simp [Md, ih]
theorem zoj (hI : yk P c.I) {w : World} {T : Nat -> Nat -> Prop} {β : Nat -> Nat} {A : Fr} {st : Store} {a : Act} (he : Env w T β A.ev A.bx st a.eval) : ∀ (rs : List ResultVar) (K : List AV -> Prop), F5 c A st rs K ->
    ∃ l vs, K l /\ (rs.mapM (m := Sem) fun | .tmp t => pure (a.tmps.getD t undef) | .cell p t => do loadVar t (<- asAddr (a.tmps.getD p undef))).run P w = .ok vs w /\ Reads w T l vs := by
  intro rs
  induction rs with
  | nil => intro K h; exact ⟨[], [], h, by simp, Reads.nil⟩
  | cons r rs ih =>
    intro K h
    cases r with
    | tmp t =>
      simp only [F5] at h
      split at h
      · rename_i x hx
        obtain ⟨l, vs, h1, h2, h3⟩ := ih _ h
        refine ⟨x :: l, a.tmps.getD t undef :: vs, h1, by simp_all, Reads.cons ?_ h3⟩
        have := he.ev (.tmp t)
        simp only [Fr.ev, hx] at this
        exact this
      grind
    | cell p t =>
      simp only [F5] at h
      obtain ⟨i, hi, h⟩ := zj h
      obtain ⟨cl, hcl, _, hs⟩ := gm (ev := A.ev) h
      obtain ⟨x, hx, hcl⟩ := zj hcl
      obtain ⟨b, off, hv, hav⟩ := hs w T β a.eval he _ (he.ev (.tmp p))
      obtain ⟨v, hr, hvr⟩ := cm (P := P) (hI _ _ hi) hav hx
      obtain ⟨l, vs, h1, h2, h3⟩ := ih _ hcl
      have hv' : a.tmps.getD p undef = .pointer (some ⟨b, off, none⟩) := hv
      refine ⟨x :: l, v :: vs, h1, ?_, Reads.cons hvr h3⟩
      grind[asAddr,Sem.run_bind,Sem.run_pure,Result.andThen_ok]
theorem zon {w : World} {T : Nat -> Nat -> Prop} {l : List AV} {vs : List Value} (h : Reads w T l vs) : VRel w T (We l) (if h : vs.toArray.size = 1 then vs.toArray[0] else .tuple vs.toArray) := by
  obtain ⟨hl, hr⟩ := h
  match l, vs, hl with
  | [x], [v], _ => exact hr 0 x v rfl rfl
  | [], [], _ => exact k9 ⟨rfl, hr⟩
  | x :: y :: l, u :: v :: vs, hl =>
    have : ¬ (u :: v :: vs).toArray.size = 1 := by simp
    rw [dif_neg this]
    exact k9 ⟨by omega, by omega⟩
/-- A block of the heap is another object. -/
def Bj (w : World) (b : Nat) (o : Obj) : World := { w with heap := w.heap.setIfInBounds b o }
theorem zph {w : World} {b : Nat} {o : Obj} (h : b < w.heap.size) : (Bj w b o).heap[b]? = some o := by simp [Bj, h]
theorem Od {w : World} {b k : Nat} {o : Obj} (h : k ≠ b) : (Bj w b o).heap[k]? = w.heap[k]? := by simp_all[Bj,Ne.symm]
theorem zpg {w : World} {b : Nat} {o : Obj} : (Bj w b o).heap.size = w.heap.size := by simp [Bj]
theorem znd {w : World} {b : Nat} (h : w.heap[b]? = some (.deferred (some []))) : (Instr.takeDeferred b).run P w = .ok [] (Bj w b (.deferred none)) := by simp_all[Instr.takeDeferred,getObj,setObj,Sem.run,Bj]
/-- Some blocks of deferred calls are shut, nothing else. -/
structure Shut (Oth M : Nat -> Nat -> Prop) (w w' : World) : Prop where
  size : w'.heap.size = w.heap.size
  blk : ∀ b, w'.heap[b]? = w.heap[b]? \/ (w.heap[b]? = some (.deferred (some [])) /\ w'.heap[b]? = some (.deferred none) /\ ∀ o, ¬ M b o /\ ¬ Oth b o)
  tape : w'.tape = w.tape
  os : w'.os = w.os
  output : w'.output = w.output
theorem Shut.keeps {Oth M : Nat -> Nat -> Prop} {w w' : World} (h : Shut Oth M w w') (T : Nat -> Nat -> Prop) : Keeps w T w' T where
  cell b o c hc _ := by
    rcases h.blk b with e | ⟨e, _, _⟩
    · rw [Be e]; exact hc
    · simp [World.cell?, e] at hc
  out _ _ _ _ hT := hT
  shp b c e fr hw := by
    rcases h.blk b with e' | ⟨e', _, _⟩
    · grind
    grind
theorem Shut.sto {Oth M : Nat -> Nat -> Prop} {w w' : World} {st : Store} (h : Shut Oth M w w') (s : StoreOK st Oth M w) : StoreOK st Oth M w' where
  obj b x hx := by
    have h1 := s.obj b x hx
    refine ⟨ObjRel.same h1.1 (h.keeps _) ?_, h1.2⟩
    rcases h.blk b with e | ⟨_, _, e⟩
    · exact e
    simp_all
  tok b top ht := by
    obtain ⟨c, e, fr, h1, h2, h3, h4⟩ := s.tok b top ht
    refine ⟨c, e, fr, ?_, h2, h3, h4⟩
    rcases h.blk b with e' | ⟨e', _, _⟩
    · grind
    grind
  mlt b o hm := by rw [h.size]; exact s.mlt b o hm
  olt b o hm := by rw [h.size]; exact s.olt b o hm
  dis := s.dis
/-- On the way out: mark by mark. -/
theorem zro {Oth M : Nat -> Nat -> Prop} {fn : Func} {tmps : Array Value} {R : Ending -> World -> Prop} : ∀ (ds : List Deferred) (w : World), Marks Oth M w ds ->
    (∀ w', Shut Oth M w w' -> ∃ v, (results fn tmps).run P w' = .ok v w' /\ R (.returned v) w') -> LeavesInM Fence.wide 0 P fn tmps R ds .returning w := by
  intro ds
  induction ds with
  | nil => intro w _ h; exact h w ⟨rfl, fun _ => .inl rfl, rfl, rfl, rfl⟩
  | cons d ds ih =>
    intro w hm h
    obtain ⟨D, rfl, h1, h2⟩ := hm.all d (List.mem_cons_self)
    have hnd := List.pairwise_cons.1 hm.nd
    have hne : ∀ d' ∈ ds, ∀ D', d' = { target := .collected D', args := #[] } -> D' ≠ D := fun d' hd' D' e e2 => hnd.1 d' hd' (by rw [e, e2])
    refine ⟨by simp, .inl ⟨D, Bj w D (.deferred none), rfl, znd h1, ih _ ⟨hnd.2, fun d' hd' => ?_⟩ fun w' hs => h w' ?_⟩⟩
    · obtain ⟨D', e, h3, h4⟩ := hm.all d' (List.mem_cons_of_mem _ hd')
      grind[Od]
    · refine ⟨hs.size.trans zpg, fun b => ?_, hs.tape, hs.os, hs.output⟩
      by_cases hb : b = D
      · subst hb
        refine .inr ⟨h1, ?_, h2⟩
        rcases hs.blk b with e | ⟨e, _, _⟩
        · rw [e]; exact zph (Dx h1)
        omega
      · rcases hs.blk b with e | ⟨e, e2, e3⟩
        · exact .inl (e.trans (Od hb))
        grind[Od]
/-- What may not be written of a block that is there: also what lies behind its cells. -/
def Ao (Oth M : Nat -> Nat -> Prop) (w : World) : Nat -> Nat -> Prop := fun b o => Oth b o \/ (b < w.heap.size /\ ¬ M b o /\ ∀ c e fr, w.heap[b]? = some (.cells c e fr) -> c.size <= o)
theorem Wx {Oth M : Nat -> Nat -> Prop} (w : World) : Keeps w (fun b o => M b o \/ Oth b o) w (fun b o => M b o \/ Ao Oth M w b o) where
  cell _ _ _ h _ := h
  out b o v hc hT := by
    rintro (h | h | ⟨_, _, h⟩)
    · grind
    · grind
    grind[World.cell?]
  shp b c e fr h := ⟨c, fr, h, rfl⟩
theorem zpx {Oth M : Nat -> Nat -> Prop} {w : World} {st : Store} (s : StoreOK st Oth M w) : StoreOK st (Ao Oth M w) M w where
  obj b x hx := ⟨ObjRel.same (s.obj b x hx).1 (Wx w) rfl, (s.obj b x hx).2⟩
  tok := s.tok
  mlt := s.mlt
  olt b o h := h.elim (s.olt b o) fun h => h.1
  dis b o h := h.elim (s.dis b o) fun h => h.2.1
theorem zpy {Oth M : Nat -> Nat -> Prop} {w : World} {st : Store} {R : AV -> Store -> Prop} {r : AV} {v : Value} {st' : Store} {M' : Nat -> Nat -> Prop} {w' w'' : World} (s : StoreOK st Oth M w) (hR : R r st') (hr : VRel w'' (fun b o => M' b o \/ Ao Oth M w b o) r v)
    (sto : StoreOK st' (Ao Oth M w) M' w') (hc : Chg M w M' w') (hs : Shut (Ao Oth M w) M' w' w'') : qe st R Oth M w v w'' := by
  have hT : ∀ b o, (M' b o \/ Oth b o) -> (M' b o \/ Ao Oth M w b o) := fun b o h => h.imp id .inl
  have sto' := hs.sto sto
  refine ⟨r, st', M', hR, hr.mono hT, ⟨fun b x hx => ⟨(sto'.obj b x hx).1.mono hT, (sto'.obj b x hx).2⟩, sto'.tok, sto'.mlt, fun b o h => sto'.olt b o (.inl h), fun b o h => sto'.dis b o (.inl h)⟩, ?_⟩
  refine { size := by rw [hs.size]; exact hc.size, keep := fun b o hb hm => ?_, blk := fun b hb hm => ?_, shp := fun b c e fr hw => ?_, sub := hc.sub, tape := hs.tape.trans hc.tape, os := hs.os.trans hc.os, output := hs.output.trans hc.output }
  · rw [<- hc.keep b o hb hm]
    rcases hs.blk b with e | ⟨e, e2, _⟩
    · exact Be e o
    · simp [World.cell?, e, e2]
  · rcases hs.blk b with e | ⟨_, _, e⟩
    · exact e.trans (hc.blk b hb hm)
    · exfalso
      cases hx : w.heap[b]? with
      | none =>
        grind
      | some x =>
        cases x with
        | cells c e1 fr => exact (e c.size).2 (.inr ⟨hb, hm _, fun c' e' fr' h => by grind⟩)
        | _ => exact (e 0).2 (.inr ⟨hb, hm _, fun c' e' fr' h => by grind⟩)
  · obtain ⟨c', fr', h1, h2⟩ := hc.shp b c e fr hw
    refine ⟨c', fr', ?_, h2⟩
    rcases hs.blk b with e' | ⟨e', _, _⟩
    · grind
    grind
theorem ACalls.of_awp (hI : yk P c.I) {g : FuncId} {fn : Func} {code : Code} {args : List AV} {st : Store} {R : AV -> Store -> Prop} (hf : P.funcs[g]? = some fn) (hb : fn.body = some code) (hname : (fn.name == "runtime.NumGoroutine") = false)
    (hn : fn.ntmps = c.n) (hlen : Nat.ble args.length c.n = true) (h : AWp P c code (Wd c fn.results.toList R) (La args) st) (hround : c.round = none := by rfl) (hD : c.D0 = [] := by rfl) : ACalls P g args st R := by
  refine ⟨fun Oth M w vs sto hr => ?_⟩
  have hrun : (callFunc g vs).run P w = .ok (.enter g vs) w := by simp_all[callFunc]
  rw [hrun]
  simp only [Mi]
  have hF : c.F = Fence.wide := by unfold Cfg.F; rw [hround]; rfl
  refine (callsIn_wide (n := 0)).1 (callsIn_of_wp_marks hf hb trivial ?_)
  have hle : args.length <= c.n := Nat.le_of_ble_eq_true hlen
  have hsz : vs.size = args.length := by simpa using hr.1.symm
  let a : Act := { tmps := vs ++ Array.replicate (fn.ntmps - vs.size) undef, defers := [] }
  have sim : SimB c.N (Ao Oth M w) (fun _ => 0) (La args) st M a w :=
    { tsz := by show Array.size _ = c.n; grind
      dfr := MarksD.nil hD
      tm := fun i => by
        simp only [La, zw7, a]
        rw [Array.getD_eq_getD_getElem?]
        by_cases hi : i < vs.size
        · rw [Array.getElem?_append_left hi, Array.getElem?_eq_getElem hi, List.getElem?_eq_getElem (by omega)]
          exact (hr.2 i _ _ (List.getElem?_eq_getElem (by omega)) (by simp [hi])).keep (Wx w)
        grind[LRel]
      bx := fun k l hk => by trivial
      inj := fun k k' hk => by trivial
      sep := fun k b hk => by trivial
      sto := zpx sto }
  have h2 := h.out (Ao Oth M w) M a w ⟨_, sim⟩
  rw [hF] at h2
  refine Code.wpF_mono ?_ h2
  have fin : ∀ a' w' A' st' M', N5 c fn.results.toList R A' st' -> Sim c.N (Ao Oth M w) A' st' M' a' w' -> Chg M w M' w' ->
      LeavesInM Fence.wide 0 P fn a'.tmps (fun e w' => ∃ v, e = .returned v /\ qe st R Oth M w v w') a'.defers .returning w' := by
    rintro a' w' A' st' M' hret ⟨β, s⟩ hchg
    refine zro a'.defers w' (s.dfr.out hD) fun w'' hs => ?_
    have hblk : ∀ b o, M' b o -> w''.heap[b]? = w'.heap[b]? := fun b o hm => by
      rcases hs.blk b with e | ⟨_, _, e⟩
      · exact e
      grind
    have he : Env w'' (fun b o => M' b o \/ Ao Oth M w b o) β A'.ev A'.bx st' a'.eval :=
      ⟨fun x => (s.ev x).keep (hs.keeps _), fun k l hk => (s.bx k l hk).1.same (hs.keeps _) (hblk _ 0 ((s.bx k l hk).2 0)), fun b x hx => ((hs.sto s.sto).obj b x hx).1⟩
    obtain ⟨l, vs, ⟨r, st'', h1, h2, h3⟩, h4, h5⟩ := zoj hI he _ _ hret
    refine ⟨_, ?_, _, rfl, zpy sto h3 (h1 _ _ _ (zon h5)) (s.sto.weaken h2) hchg hs⟩
    unfold results
    rw [Sem.run_bind, Array.mapM_eq_mapM_toList, Sem.run_map]
    exact congrArg (fun r => (Result.andThen (Result.andThen r fun l w => .ok l.toArray w) fun (vs : Array Value) w' => .ok (if h : vs.size = 1 then vs[0] else .tuple vs) w')) h4
  rintro e a' w' ⟨A', st', M', h1, h2, h3⟩
  cases e with
  | normal => exact fin a' w' A' st' M' h1 h2 h3
  | ret => exact fin a' w' A' st' M' h1 h2 h3
  | _ => trivial
/-- **A function's contract, out of its text.** -/
theorem ACalls.of_body (hI : yk P c.I) {g : FuncId} {fn : Func} {code : Code} {args : List AV} {st : Store} {R : AV -> Store -> Prop} (hf : P.funcs[g]? = some fn) (hb : fn.body = some code) (hname : (fn.name == "runtime.NumGoroutine") = false)
    (hn : fn.ntmps = c.n) (hlen : Nat.ble args.length c.n = true) (h : vc P c code (Wd c fn.results.toList R) (La args) st) (hround : c.round = none := by rfl) (hD : c.D0 = [] := by rfl) : ACalls P g args st R :=
  ACalls.of_awp hI hf hb hname hn hlen (Mt hI code _ _ st h) hround hD
/-- Slots and boxes as they are listed. -/
def Kt (l : List (Nat × LV)) (i : Nat) : LV :=
  match l with
  | [] => .any
  | (j, x) :: l => bif Nat.beq i j then x else Kt l i
def Dy (l : List (Nat × List AV)) (i : Nat) : Option (List AV) :=
  match l with
  | [] => none
  | (j, x) :: l => bif Nat.beq i j then some x else Dy l i
def Cr (l : List (Nat × LV)) (b : List (Nat × List AV)) : Fr := ⟨Kt l, Dy b⟩
def Gp (A : Fr) : List (Nat × LV) -> Prop
  | [] => True
  | (j, x) :: l => LV.le (A.t j) x /\ Gp A l
def Gq (A : Fr) : List (Nat × List AV) -> Prop
  | [] => True
  | (j, x) :: l => A.bx j = some x /\ Gq A l
theorem zua {A : Fr} : ∀ {l : List (Nat × LV)}, Gp A l -> ∀ i, LV.le (A.t i) (Kt l i) := by
  intro l
  induction l with
  | nil => intro _ i; exact LV.le_any _
  | cons p l ih =>
    obtain ⟨j, x⟩ := p
    intro h i
    simp only [Kt]
    by_cases hi : i = j
    · subst hi; simp only [Nat.beq_refl, cond_true]; exact h.1
    · simp only [yz hi, cond_false]; exact ih h.2 i
theorem zub {A : Fr} : ∀ {l : List (Nat × List AV)}, Gq A l -> ∀ i x, Dy l i = some x -> A.bx i = some x := by
  intro l
  induction l with
  | nil => intro _ i x h; trivial
  | cons p l ih =>
    obtain ⟨j, y⟩ := p
    intro h i x hx
    simp only [Dy] at hx
    by_cases hi : i = j
    · subst hi; simp only [Nat.beq_refl, cond_true] at hx; rw [<- hx]; exact h.1
    · simp only [yz hi, cond_false] at hx; exact ih h.2 i x hx
theorem Sim.fits {n : SN} {Oth M : Nat -> Nat -> Prop} {A : Fr} {st st' : Store} {a : Act} {w : World} (h : Sim n Oth A st M a w) {l : List (Nat × LV)} {b : List (Nat × List AV)} (ht : Gp A l) (hb : Gq A b) (hs : st.Has st') : Sim n Oth (Cr l b) st' M a w := by
  obtain ⟨β, s⟩ := h
  have hbx : ∀ k x, Dy b k = some x -> A.bx k = some x := zub hb
  have hne : ∀ k, Dy b k ≠ none -> A.bx k ≠ none := fun k hk => by
    cases hl : Dy b k with
    | none => grind
    | some x => grind
  exact ⟨β,
    { tsz := s.tsz
      dfr := s.dfr
      tm := fun i => zua ht i _ _ _ _ (s.tm i)
      bx := fun k x hk => s.bx k x (hbx k x hk)
      inj := fun k k' h1 h2 => s.inj k k' (hne k h1) (hne k' h2)
      sep := fun k b hk hb => s.sep k b (hne k hk) (by
        rcases hb with hb | hb
        · cases ho : st'.obj b with
          | none => grind
          | some x => exact .inl (by rw [hs.obj b x ho]; simp)
        · cases ho : st'.tok b with
          | none => grind
          | some x => exact .inr (by rw [hs.tok b x ho]; simp))
      sto := s.sto.weaken hs }⟩
theorem AWp.weaken {code : Code} {Q : Exit -> Fr -> Store -> Prop} {A : Fr} {st st' : Store} {l : List (Nat × LV)} {b : List (Nat × List AV)} (h : AWp P c code Q (Cr l b) st') (ht : Gp A l) (hb : Gq A b) (hs : st.Has st') : AWp P c code Q A st :=
  ⟨fun Oth M a w sim => h.out Oth M a w (sim.fits ht hb hs)⟩
/-- What a loop's head knows: for each 's' the slots, the boxes, and what is said of the store. -/
structure LoopHead (σ : Type) where
  t : σ -> List (Nat × LV)
  bx : σ -> List (Nat × List AV)
  inv : σ -> Store -> Prop
  μ : σ -> Nat
def LoopHead.at {σ : Type} (H : LoopHead σ) (A : Fr) (st : Store) (p : σ -> Prop) : Prop :=
  ∃ s, p s /\ H.inv s st /\ Gp A (H.t s) /\ Gq A (H.bx s)
def V7 {σ : Type} (H : LoopHead σ) (s : σ) (Q : Exit -> Fr -> Store -> Prop) : Exit -> Fr -> Store -> Prop
  | .normal => fun A st => H.at A st fun s' => H.μ s' < H.μ s
  | e => Q e
theorem AWp.loop {σ : Type} (H : LoopHead σ) {b : Code} {Q : Exit -> Fr -> Store -> Prop} {A : Fr} {st : Store} (hI : yk P c.I) (h0 : H.at A st fun _ => True)
    (round : ∀ s st, H.inv s st -> vc P c b (V7 H s Q) (Cr (H.t s) (H.bx s)) st) : AWp P c (.loop b) Q A st := by
  obtain ⟨s0, _, hi0, ht0, hb0⟩ := h0
  refine ⟨fun Oth M a w sim => ?_⟩
  refine wpIn_loop_ghost (fun n a' w' => ∃ s st' M', H.μ s = n /\ H.inv s st' /\ Sim c.N Oth (Cr (H.t s) (H.bx s)) st' M' a' w' /\ Chg M w M' w') (H.μ s0)
    ⟨s0, st, M, rfl, hi0, sim.fits ht0 hb0 (Store.Has.refl st), Chg.refl M w⟩ ?_
  rintro n a' w' ⟨s, st', M', rfl, hi, hsim, hchg⟩
  refine Code.wpF_mono ?_ ((Mt hI b _ _ st' (round s st' hi)).out Oth M' a' w' hsim)
  rintro e a'' w'' ⟨A'', st'', M'', h1, h2, h3⟩
  cases e with
  | normal =>
    obtain ⟨s', hlt, hi', ht', hb'⟩ := h1
    exact ⟨H.μ s', hlt, s', st'', M'', rfl, hi', h2.fits ht' hb' (Store.Has.refl st''), hchg.trans h3⟩
  | _ => exact ⟨A'', st'', M'', h1, h2, hchg.trans h3⟩
end
section
variable {P : Program} {c : Cfg}
theorem AWp.of_vc (hI : yk P c.I) {code : Code} {Q : Exit -> Fr -> Store -> Prop} {A : Fr} {st : Store} (h : vc P c code Q A st) : AWp P c code Q A st := Mt hI code Q A st h
/-- One piece behind the other: the second one may be cut off. -/
theorem AWp.seq {x y : Code} {Q : Exit -> Fr -> Store -> Prop} {A : Fr} {st : Store} (h : AWp P c x (I3 (AWp P c y Q) Q) A st) : AWp P c (.seq x y) Q A st := by
  refine ⟨fun Oth M a w sim => wpIn_seq ?_⟩
  refine Code.wpF_mono ?_ (h.out Oth M a w sim)
  rintro e a' w' ⟨A', st', M', h1, h2, h3⟩
  cases e with
  | normal =>
    refine Code.wpF_mono ?_ ((AWp.out h1) Oth M' a' w' h2)
    rintro e a'' w'' ⟨A'', st'', M'', h4, h5, h6⟩
    exact ⟨A'', st'', M'', h4, h5, h3.trans h6⟩
  | _ => exact ⟨A', st', M', h1, h2, h3⟩
theorem AWp.block {id : Nat} {b : Code} {Q : Exit -> Fr -> Store -> Prop} {A : Fr} {st : Store} (h : AWp P c b (Ky id Q) A st) : AWp P c (.block id b) Q A st := by
  refine ⟨fun Oth M a w sim => wpIn_block ?_⟩
  refine Code.wpF_mono ?_ (h.out Oth M a w sim)
  rintro e a' w' ⟨A', st', M', h1, h2, h3⟩
  cases e with
  | exit id' =>
    simp only [Ky] at h1
    simp only [Exit.inBlock]
    by_cases he : id' = id
    · subst he
      simp only [Nat.beq_refl, cond_true] at h1
      grind
    · simp only [yz he, cond_false] at h1
      grind
  | _ => exact ⟨A', st', M', h1, h2, h3⟩
theorem AWp.scope {b : Code} {Q : Exit -> Fr -> Store -> Prop} {A : Fr} {st : Store} (h : AWp P c b (bc Q) A st) : AWp P c (.scope b) Q A st := by
  refine ⟨fun Oth M a w sim => Rs ?_⟩
  refine Code.wpF_mono ?_ (h.out Oth M a w sim)
  rintro e a' w' ⟨A', st', M', h1, h2, h3⟩
  cases e with
  | goto l => trivial
  | _ => exact ⟨A', st', M', h1, h2, h3⟩
/-- A place where the ways meet: for each 's' the slots and the boxes that what follows needs. -/
structure Meet (σ : Type) where
  t : σ -> List (Nat × LV)
  bx : σ -> List (Nat × List AV)
  inv : σ -> Store -> Prop
def Meet.at {σ : Type} (H : Meet σ) (A : Fr) (st : Store) : Prop := ∃ s, H.inv s st /\ Gp A (H.t s) /\ Gq A (H.bx s)
/-- Once for all ways: 'x' comes to the place, 'y' goes on from it. -/
theorem AWp.meet {σ : Type} (H : Meet σ) (hI : yk P c.I) {x y : Code} {Q : Exit -> Fr -> Store -> Prop} {A : Fr} {st : Store} (hx : vc P c x (I3 H.at Q) A st)
    (hy : ∀ s st', H.inv s st' -> AWp P c y Q (Cr (H.t s) (H.bx s)) st') : AWp P c (.seq x y) Q A st := by
  refine AWp.seq ((AWp.of_vc hI hx).mono fun e A' st' h => ?_)
  cases e with
  | normal =>
    obtain ⟨s, h1, h2, h3⟩ := h
    exact AWp.weaken (hy s st' h1) h2 h3 (Store.Has.refl st')
  | _ => exact h
end
/-- Types of which values are held against one another part by part. -/
def Pu (P : Program) (t : TypeId) : Bool :=
  !P.stoodInHeld t && !P.eqGuardType P.depth t && (match P.underlying t with | some (.struct fs) => fs.toList.all fun f => f.name != "_" | _ => true)
def Mj (z : Value) (d : Ty) : Bool := match z with | .agg _ => k6 d | _ => !k6 d
/-- What the tables say of a type. -/
def infoOf (P : Program) (t : TypeId) (eq : Bool) : Option TI :=
  match P.info? t, P.underlying t with
  | some inf, some d => match inf.zero with
    | some z => bif Nat.beq z.cells.toList.length inf.size && (!eq || Pu P t) && Mj z (kx d) then some { ty := kx d, size := inf.size, bytes := inf.bytes, zero := z.cells.toList, eq := eq } else none
    | none => none
  | _, _ => none
theorem zr6 {P : Program} {t : TypeId} {eq : Bool} {i : TI} (h : infoOf P t eq = some i) : TIok P t i := by
  unfold infoOf at h
  split at h
  · rename_i inf d hinf hd
    split at h
    · rename_i z hz
      cases hb : (Nat.beq z.cells.toList.length inf.size && (!eq || Pu P t) && Mj z (kx d)) with
      | false => grind
      | true =>
        rw [hb] at h
        simp only [cond_true, Option.some.injEq] at h
        subst h
        simp only [Bool.and_eq_true] at hb
        obtain ⟨⟨h2, h3⟩, h4⟩ := hb
        refine ⟨⟨inf, hinf, rfl, rfl, z, hz, rfl⟩, ⟨d, hd, rfl⟩, (xc _ _).1 h2, fun inf' z' hi' hz' => ?_, fun he => ?_⟩
        · rw [hinf] at hi'
          cases hi'
          rw [hz] at hz'
          cases hz'
          cases z with
          | agg cs => exact .inl ⟨h4, cs, rfl⟩
          | _ => exact .inr ⟨by simpa [Mj] using h4, rfl⟩
        simp only at he
        subst he
        simp only [Bool.not_true, Bool.false_or, Pu, Bool.and_eq_true, Bool.not_eq_true'] at h3
        grind
    · cases h
  · cases h
inductive Tr where
  | nil
  | node (k : Nat) (l : Tr) (x : TI) (r : Tr)
def Tr.get : Tr -> Nat -> Option TI
  | .nil, _ => none
  | .node k l x r, t => bif Nat.beq t k then some x else bif Nat.blt t k then l.get t else r.get t
def Tr.all (P : Program) : Tr -> Prop
  | .nil => True
  | .node k l x r => infoOf P k x.eq = some x /\ l.all P /\ r.all P
theorem Tr.ok {P : Program} : ∀ (tr : Tr), tr.all P -> yk P tr.get := by
  intro tr
  induction tr with
  | nil => intro _ t i h; cases h
  | node k l x r ihl ihr =>
    rintro ⟨h1, h2, h3⟩ t i h
    simp only [Tr.get] at h
    by_cases ht : t = k
    · subst ht
      simp only [Nat.beq_refl, cond_true, Option.some.injEq] at h
      subst h
      exact zr6 h1
    · simp only [yz ht, cond_false] at h
      cases hb : Nat.blt t k with
      | true => rw [hb] at h; exact ihl h2 t i h
      | false => rw [hb] at h; exact ihr h3 t i h
/-- A slice that grows by appends: nil at first. -/
def App (k : Nat) (st : Store) (v : AV) (rows : List (List AV)) (st' : Store) : Prop :=
  (v = .s (.slice none 0 0) /\ rows = [] /\ st' = st) \/ Owned k st v rows st'
theorem App.start (k : Nat) (st : Store) : App k st (.s (.slice none 0 0)) [] st := .inl ⟨rfl, rfl, rfl⟩
theorem zky {st : Store} {b : Nat} {x : Option Nat} (h : st.tok b = none) : (st.setTok b x).setTok b none = st := by
  unfold Store.setTok
  congr
  grind[yz]
theorem App.has {k : Nat} {st st' : Store} {v : AV} {rows : List (List AV)} (h : App k st v rows st') : st'.Has st := by
  rcases h with ⟨_, _, rfl⟩ | ⟨_, _, rfl⟩ | ⟨_, b, hb, _, rfl⟩
  · exact Store.Has.refl _
  · exact Store.Has.refl _
  · refine ⟨fun _ _ h => h, fun i x h => ?_⟩
    have : i ≠ b := fun e => by rw [e, hb.2] at h; cases h
    simpa [Store.setTok, yz this] using h
theorem App.le {k : Nat} {st st' : Store} {v : AV} {rows : List (List AV)} (h : App k st v rows st') : AV.le v (.lst k rows none) := by
  rcases h with ⟨rfl, rfl, _⟩ | ⟨rfl, rfl, _⟩ | ⟨_, b, hb, rfl, _⟩
  · exact AV.le_nil k
  · intro w T v h
    cases h with
    | emp a h =>
      cases a with
      | none => exact .nil k none
      | some a =>
        obtain ⟨b, off, spot⟩ := a
        simp_all[VRel.empty]
  · exact AV.le_tok _ _ _
theorem By {c : Cfg} {st st' : Store} {e : TypeId} {ie : TI} {v : AV} {x : LV} {K : AV -> Store -> Prop} {rows rows' : List (List AV)} (h : App ie.size st v rows st') (hie : c.I e = some ie) (hx : jc ie.size x = some rows')
    (hroom : room (rows.length + rows'.length) ie.bytes) (hK : ∀ v2 st2, App ie.size st v2 (rows ++ rows') st2 -> K v2 st2) {P : Program} (hp : Nat.blt 0 ie.size = true := by rfl) : appendK P c st' e (.av v) x K := by
  refine ⟨.inl (za ie hie ?_)⟩
  rcases h with ⟨rfl, rfl, rfl⟩ | ⟨rfl, rfl, rfl⟩ | ⟨hne, b, hb, rfl, rfl⟩
  · exact za rows' hx ⟨by grind, fun v st2 ho => hK v st2 (.inr (by grind))⟩
  · exact za rows' hx ⟨by grind, fun v st2 ho => hK v st2 (.inr (by grind))⟩
  · show (bif Nat.beq ie.size ie.size && Nat.blt 0 ie.size then _ else False)
    rw [Nat.beq_refl, hp, Bool.and_self, cond_true]
    refine za rows' hx ⟨by simp [Store.setTok], by grind, fun v st2 ho => hK v st2 (.inr ?_)⟩
    rwa [zky hb.2] at ho
section
variable {P : Program} {c : Cfg}
theorem Ks {ev ev' : Operand -> LV} {l : List Operand} (h : ∀ x ∈ l, ev' x = ev x) :
    (l.mapM fun x => (ev' x).toAV) = (l.mapM fun x => (ev x).toAV) := by
  induction l with
  | nil => rfl
  | cons a l ih =>
    grind
theorem zp2 {ev ev' : Operand -> LV} {x : Option Operand} (h : ∀ y ∈ x.toArray, ev' y = ev y) : Ap ev' x = Ap ev x := by
  cases x with
  | none => rfl
  | some y => simp only [Ap]; grind
theorem R8 {ev : Operand -> LV} {bx : Nat -> Option (List AV)} {st : Store} {d : Nat} {op : Op} {K K' : LV -> Prop} (hI : yk P c.I) (hK : ∀ x, K x -> K' x) (h : vcV c ev bx st d op K) : vcV c ev bx st d op K' := by
  obtain ⟨x, hx, hx', _⟩ := Mv hI op h
  grind
theorem R9 {ev ev' : Operand -> LV} {bx : Nat -> Option (List AV)} {st : Store} {d : Nat} {op : Op} {K : LV -> Prop} (h : ∀ x ∈ op.operands, ev' x = ev x) (hv : vcV c ev bx st d op K) : vcV c ev' bx st d op K := by
  cases op <;> simp only [Op.operands] at h <;> first | exact hv | skip
  case move x => simp_all[vcV]
  case assign x => simp_all[vcV]
  case pick a b e => simp_all[vcV]
  case load t x => simp_all[vcV]
  case nilCheck x => simp_all[vcV]
  case binOp op t x y yt => simp_all[vcV]
  case unOp op t x => simp_all[vcV]
  case convert s t x => simp_all[vcV]
  case fieldAddr s x f => simp_all[vcV]
  case field s x f => simp_all[vcV]
  case indexAddr t x i => simp_all[vcV]
  case index t x i => simp_all[vcV]
  case extract x i => simp_all[vcV]
  case slice t x lo hi mx =>
    simp_all[vcV,zp2]
  case build t ps =>
    simp only [vcV] at hv ⊢
    have e : (ps.toList.map fun p => (p.1, ev' p.2)) = (ps.toList.map fun p => (p.1, ev p.2)) := List.map_congr_left fun p hp => by grind
    rwa [e]
  case makeFunc f first cap =>
    cases f <;> simp only [vcV] at hv ⊢ <;> try exact hv
    have e : first.toList.mapM (fun x => (ev' x).toV) = first.toList.mapM fun x => (ev x).toV := by
      have : ∀ l : List Operand, (∀ x ∈ l, ev' x = ev x) -> l.mapM (fun x => (ev' x).toV) = l.mapM fun x => (ev x).toV := fun l => by
        induction l with
        | nil => intro _; rfl
        | cons a l ih => intro hl; rw [List.mapM_cons, List.mapM_cons, hl a (by simp), ih fun x hx => hl x (by simp [hx])]
      exact this _ fun x hx => h x (by simp; exact .inl (by simpa using hx))
    rwa [Ks (ev := ev) (ev' := ev') fun x hx => h x (by simp; exact .inr (by simpa using hx)), e]
  case call cl =>
    obtain ⟨callee, args, argTypes⟩ := cl
    simp only [vcV, Cc] at hv ⊢
    cases callee with
    | value f => exact hv
    | invoke r m => exact hv
    | builtin b =>
      have ha : ∀ x ∈ args, ev' x = ev x := fun x hx => h x (by simp [Call.operands, hx])
      cases b <;> simp only at hv ⊢ <;> try exact hv
      case len =>
        obtain ⟨t, ht, hv⟩ := zj hv
        obtain ⟨i, hi, hv⟩ := zj hv
        obtain ⟨x, hx, hv⟩ := zj hv
        refine za t ht (za i hi (za x hx ?_))
        rwa [ha x (Array.mem_of_getElem? hx)]
      case cap =>
        obtain ⟨t, ht, hv⟩ := zj hv
        obtain ⟨i, hi, hv⟩ := zj hv
        obtain ⟨x, hx, hv⟩ := zj hv
        refine za t ht (za i hi (za x hx ?_))
        rwa [ha x (Array.mem_of_getElem? hx)]
      case min => rwa [show args.toList.map ev' = args.toList.map ev from List.map_congr_left fun x hx => ha x (by simpa using hx)]
      case max => rwa [show args.toList.map ev' = args.toList.map ev from List.map_congr_left fun x hx => ha x (by simpa using hx)]
/-- The operations whose value hangs on nothing but their operands. -/
def F9 : Op -> Bool
  | .load .. => false
  | .call cl => match cl.callee with | .builtin .min => true | .builtin .max => true | _ => false
  | _ => true
theorem R7 {ev : Operand -> LV} {bx bx' : Nat -> Option (List AV)} {st st' : Store} {d : Nat} {op : Op} {K : LV -> Prop} (hn : F9 op = true) (hv : vcV c ev bx st d op K) : vcV c ev bx' st' d op K := by
  cases op <;> first | exact hv | skip
  case load t x => simp [F9] at hn
  case call cl =>
    obtain ⟨callee, args, argTypes⟩ := cl
    simp only [vcV, Cc] at hv ⊢
    cases callee with
    | value f => exact hv
    | invoke r m => exact hv
    | builtin b => cases b <;> simp [F9] at hn <;> exact hv
/-- A slice literal, as a value. -/
def bsK (c : Cfg) (ev : Operand -> LV) (t : TypeId) (n : Nat) (parts : Array (Nat × Operand)) (K : LV -> Prop) : Prop :=
  optK (c.I t) fun i => match i.ty with
    | .slice e => optK (c.I e) fun ie => optK (Cu ie.size n (List.replicate n (km ie)) (parts.toList.map fun p => (p.1, ev p.2))) fun rows =>
      bif rows.flatten.all AV.one then n * ie.size <= 16777216 /\ (match rows with
        | [] => K (.av .emp)
        | _ :: _ => K (.av (.lst ie.size rows none))) else False
    | _ => False
/-- The operations that may be carried out at any time. -/
def vcW (c : Cfg) (ev : Operand -> LV) (bx : Nat -> Option (List AV)) (st : Store) (d : Nat) (op : Op) (K : LV -> Prop) : Prop :=
  match op with
  | .buildSlice t n parts => bsK c ev t n parts K
  | op => vcV c ev bx st d op K
theorem gy {ev : Operand -> LV} {t : TypeId} {n : Nat} {parts : Array (Nat × Operand)} {K : LV -> Prop} (h : bsK c ev t n parts K) :
    ∃ (i ie : TI) (e : TypeId) (rows : List (List AV)) (x : LV), c.I t = some i /\ i.ty = .slice e /\ c.I e = some ie /\ Cu ie.size n (List.replicate n (km ie)) (parts.toList.map fun p => (p.1, ev p.2)) = some rows /\ rows.flatten.all AV.one = true ∧
      n * ie.size <= 16777216 /\ x = (match rows with | [] => .av .emp | _ :: _ => .av (.lst ie.size rows none)) /\ K x /\ ∀ K' : LV -> Prop, K' x -> bsK c ev t n parts K' := by
  unfold bsK at h
  obtain ⟨i, hi, h⟩ := zj h
  split at h
  · rename_i e hty
    obtain ⟨ie, hie, h⟩ := zj h
    obtain ⟨rows, hrows, h⟩ := zj h
    cases hone : rows.flatten.all AV.one with
    | false => rw [hone] at h; exact h.elim
    | true =>
      rw [hone] at h
      simp only [cond_true] at h
      obtain ⟨hroom, h⟩ := h
      refine ⟨i, ie, e, rows, _, hi, hty, hie, hrows, hone, hroom, rfl, by cases rows <;> exact h, fun K' h' => ?_⟩
      refine za i hi ?_
      simp only [hty]
      refine za ie hie (za rows hrows ?_)
      rw [hone]
      exact ⟨hroom, by cases rows <;> exact h'⟩
  · exact h.elim
theorem Mu {ev ev' : Operand -> LV} {bx : Nat -> Option (List AV)} {st : Store} {d : Nat} {op : Op} {K : LV -> Prop} (h : ∀ x ∈ op.operands, ev' x = ev x) (hv : vcW c ev bx st d op K) : vcW c ev' bx st d op K := by
  cases op <;> first | exact R9 (bx := bx) (st := st) (d := d) (K := K) h (show vcV c ev bx st d _ K from hv) | skip
  case buildSlice t n parts =>
    have e : (parts.toList.map fun p => (p.1, ev' p.2)) = (parts.toList.map fun p => (p.1, ev p.2)) := List.map_congr_left fun p hp => by
      rw [h p.2 (by simp [Op.operands]; exact ⟨p.1, by simpa using hp⟩)]
    simp only [vcW] at hv ⊢
    unfold bsK at hv ⊢
    rwa [e]
theorem mp {ev : Operand -> LV} {bx bx' : Nat -> Option (List AV)} {st st' : Store} {d : Nat} {op : Op} {K : LV -> Prop} (hn : F9 op = true) (hv : vcW c ev bx st d op K) : vcW c ev bx' st' d op K := by
  cases op <;> first | exact R7 (bx := bx) (st := st) (d := d) (K := K) hn (show vcV c ev bx st d _ K from hv) | exact hv | skip
  case call cl => exact R7 (bx := bx) (bx' := bx') (st := st) (st' := st') (d := d) (op := .call cl) hn hv
end
/-- In what order a region is carried out: values at once, then the effects that may come next, each with what follows; 'chk': the operations whose values must stand behind the effect. -/
inductive Sched where
  | done
  | v (i : Nat) (r : Sched)
  | e (i : Nat) (chk : List Nat) (r alt : Sched)
  | stop
def sv : List Nat -> Sched -> Sched
  | [], s => s
  | i :: l, s => .v i (sv l s)
/-- May the operation float? -/
def isV (c : Cfg) (o : Oper) : Bool :=
  match o.op with
  | .alloc _ => false
  | .box _ _ => false
  | .store _ _ _ => false
  | .assign _ => false
  | .convert s t _ => !Nat.beq s t
  | .buildSlice _ _ _ => match o.dst with | some d => !c.G.contains d | none => false
  | .call cl => match cl.callee with
    | .builtin .len => true
    | .builtin .cap => true
    | .builtin .min => true
    | .builtin .max => true
    | _ => false
  | .mapUpdate .. | .insert .. | .mapEntry .. | .entryStore .. | .makeMap .. | .makeSlice .. | .lookup .. | .range .. | .next .. | .entry .. | .makeInterface .. | .typeAssert .. | .select .. | .go .. | .defer .. | .panic .. | .send .. | .recv .. | .ready .. | .waits .. | .makeChan .. => false
  | _ => true
def qp (ops : Array Oper) (i : Nat) : List Nat :=
  match ops[i]? with
  | some o => o.after.toList.filterMap fun e => bif Region.binds .any e then some e.on else none
  | none => []
def mem (i : Nat) : List Nat -> Bool
  | [] => false
  | j :: l => bif Nat.beq i j then true else mem i l
theorem mem_iff (i : Nat) : ∀ (l : List Nat), mem i l = true ↔ i ∈ l := by
  intro l
  induction l with
  | nil => simp [mem]
  | cons j l ih =>
    simp_all[mem]
def sub (l m : List Nat) : Bool := l.all fun i => mem i m
/-- The alternatives that a schedule lists from here on. -/
def Im : Sched -> List Nat
  | .e i _ _ alt => i :: Im alt
  | _ => []
/-- What must have been carried out before 'i'. -/
def Hp (ops : Array Oper) (i : Nat) : List Nat :=
  (List.range i).reverse.foldl (fun acc j => bif mem j acc then qp ops j ++ acc else acc) (qp ops i)
/-- What the effect 'i' asks of those that have been taken before it. -/
def H9 (c : Cfg) (ops : Array Oper) (i : Nat) (chk L : List Nat) : Bool :=
  !mem i L && Nat.blt i ops.size && sub (qp ops i) L && (match ops[i]? with | some o => !isV c o | none => false) &&
  L.all fun j => mem j (Hp ops i) || mem j chk || (match ops[j]?, ops[i]? with
    | some o, some o' => !isV c o || (F9 o.op && (match o'.op with | .alloc _ => false | .box _ _ => false | _ => true))
    | _, _ => false)
/-- Is the schedule one of the region's, all that may come next listed? -/
def je (c : Cfg) (ops : Array Oper) : Sched -> List Nat -> Bool -> Bool
  | .done, L, first => first && (List.range ops.size).all fun i => mem i L
  | .v i r, L, first => first && (!mem i L && Nat.blt i ops.size && (match ops[i]? with | some o => isV c o | none => false) && sub (qp ops i) L && je c ops r (i :: L) true)
  | .e i chk r alt, L, first => H9 c ops i chk L && je c ops r (i :: L) true && je c ops alt L false &&
      (!first || (List.range ops.size).all fun j => mem j L || !sub (qp ops j) L || mem j (i :: Im alt))
  | .stop, _, first => !first
/-- What holds of the operations among themselves. -/
def vt (c : Cfg) (ops : Array Oper) : Bool :=
  (List.range ops.size).all fun i => match ops[i]? with
    | none => false
    | some o => (qp ops i).all (fun j => Nat.blt j i) && (match o.op with | .select .. => false | .defer .. => false | _ => true) && (match o.dst with
      | none => !isV c o
      | some t => Nat.blt t c.n && !mem t (o.looksAt ops) &&
        (List.range ops.size).all fun k => Nat.beq k i || (match ops[k]? with
          | none => false
          | some o' => (match o'.dst with | some t' => !Nat.beq t t' | none => true) && (!mem t (o'.looksAt ops) || mem i (qp ops k) || (!isV c o && mem k (qp ops i)))))
/-- An operation under its guard: carried out, or left out. -/
def C0 (ops : Array Oper) (o : Oper) (A : Fr) (go skip : Fr -> Prop) : Prop :=
  match o.guard with
  | none => go A
  | some (j, want) => optK ((ops[j]?).bind (·.dst)) fun t =>
    match A.t t with
    | .av (.s (.bool b)) => vl b (bif want then go (A.put t (qx true)) else skip (A.put t (qx true))) (bif want then skip (A.put t (qx false)) else go (A.put t (qx false)))
    | .und => skip A
    | _ => False
/-- The operation's value stands. -/
def stands (c : Cfg) (ops : Array Oper) (A : Fr) (st : Store) (i : Nat) : Prop :=
  optK ops[i]? fun o => optK o.dst fun d => C0 ops o A (fun A => vcW c A.ev A.bx st d o.op fun x => x = A.t d) (fun A => A.t d = .und)
def Dm (c : Cfg) (ops : Array Oper) (A : Fr) (st : Store) : List Nat -> Prop
  | [] => True
  | i :: l => stands c ops A st i /\ Dm c ops A st l
def ja (P : Program) (c : Cfg) (ops : Array Oper) (K : Fr -> Store -> Prop) : Sched -> Fr -> Store -> Prop
  | .done, A, st => K A st
  | .v i r, A, st => optK ops[i]? fun o => optK o.dst fun d =>
      C0 ops o A (fun A => vcW c A.ev A.bx st d o.op fun x => ja P c ops K r (A.put d x) st) (fun A => ja P c ops K r (A.put d .und) st)
  | .e i chk r alt, A, st => (optK ops[i]? fun o =>
      C0 ops o A (fun A => vo P c o (fun A' st' => Dm c ops A' st' chk /\ ja P c ops K r A' st') A st)
        (fun A => yy A c.n o.dst .und fun A' => Dm c ops A' st chk /\ ja P c ops K r A' st)) /\ ja P c ops K alt A st
  | .stop, _, _ => True
section
variable {P : Program} {c : Cfg} {ops : Array Oper}
/-- How a guard stands. -/
def kj (ops : Array Oper) (o : Oper) (A : Fr) : Option Bool :=
  match o.guard with
  | none => some true
  | some (j, want) => match (ops[j]?).bind (·.dst) with
    | none => none
    | some t => match A.t t with
      | .av (.s (.bool b)) => some (b == want)
      | .und => some false
      | _ => none
theorem guardK_iff {o : Oper} {A : Fr} {go skip : Fr -> Prop} : C0 ops o A go skip ↔ (kj ops o A = some true /\ go A) \/ (kj ops o A = some false /\ skip A) := by
  unfold C0 kj
  cases hg : o.guard with
  | none => simp
  | some jw =>
    obtain ⟨j, want⟩ := jw
    simp only
    cases hd : (ops[j]?).bind (·.dst) with
    | none => simp [optK]
    | some t =>
      simp only [optK]
      generalize hy : A.t t = y
      split
      · rename_i b
        cases b with
        | true => grind[Fr.put_self,qx,vl]
        | false => grind[Fr.put_self,qx,vl]
      · simp
      simp
theorem K6 {o : Oper} {B : Fr} {st : Store} {n : SN} {Oth M : Nat -> Nat -> Prop} {a : Act} {w : World} (sim : Sim n Oth B st M a w) {b : Bool} (h : kj ops o B = some b) : Region.wanted o (yielded ops a.tmps) = b := by
  obtain ⟨β, s⟩ := sim
  unfold kj at h
  unfold Region.wanted
  cases hg : o.guard with
  | none => grind
  | some jw =>
    obtain ⟨j, want⟩ := jw
    rw [hg] at h
    simp only at h ⊢
    cases hd : (ops[j]?).bind (·.dst) with
    | none => grind
    | some t =>
      rw [hd] at h
      simp only at h
      have hs := s.tm t
      split at h
      · rename_i b' hb
        simp at h
        rw [hb] at hs
        rw [dl hd (VRel.eq_s hs), <- h]
        simp
      · rename_i hb
        simp at h
        rw [hb] at hs
        rw [dk hd hs, h]
        rfl
      · cases h
theorem P7 {b : Bool} {p : Prop} (h : bif b then p else False) : b = true /\ p := by grind
theorem fq {b : Bool} {p : Prop} (hb : b = true) (h : p) : bif b then p else False := by grind
/-- Some slots forgotten. -/
def yp (A : Fr) (D : List Nat) : Fr := ⟨fun t => bif mem t D then .any else A.t t, A.bx⟩
theorem Ct {t : Nat} {D : List Nat} (h : t ∉ D) : mem t D = false := by grind[mem_iff]
theorem Lb {A : Fr} {D : List Nat} {t : Nat} (h : t ∉ D) : (yp A D).t t = A.t t := by
  simp [yp, Ct h]
theorem zt1 {A : Fr} {D : List Nat} {x : Operand} (h : ∀ t, x = .tmp t -> t ∉ D) : (yp A D).ev x = A.ev x := by
  cases x with
  | tmp t => exact Lb (h t rfl)
  | _ => rfl
theorem Bu {A : Fr} {D : List Nat} {d : Nat} (h : d ∉ D) (x : LV) : (yp A D).put d x = yp (A.put d x) D := by
  unfold yp Fr.put
  grind[Ct,yz]
theorem du {A : Fr} {D : List Nat} {d : Nat} (h : d ∉ D) (l : List AV) : (yp A D).newBx d l = yp (A.newBx d l) D := by
  unfold yp Fr.newBx
  congr
  funext i
  by_cases hi : i = d
  · subst hi; simp [Ct h]
  · simp only [yz hi, cond_false]
    cases mem i D <;> rfl
/-- What an effect leaves of the slots. -/
def wh (o : Oper) (A A' : Fr) : Prop := (match o.op with | .alloc _ => False | .box _ _ => False | _ => True) -> ∀ t, o.dst ≠ some t -> A'.t t = A.t t
theorem Dz {o : Oper} {A : Fr} {d : Nat} {x : LV} (hd : o.dst = some d) : wh o A (A.put d x) := fun _ t ht => by grind[Fr.put,yz]
theorem O9 {o : Oper} {A : Fr} : wh o A A := fun _ _ _ => rfl
/-- What an effect does in a frame in which slots are forgotten that it does not look at. -/
theorem mr (hI : yk P c.I) {o : Oper} {K : Fr -> Store -> Prop} {A : Fr} {st : Store} {D : List Nat} (h : vo P c o K A st) (hop : ∀ x ∈ o.op.operands, ∀ t, x = .tmp t -> t ∉ D) (hd : ∀ d, o.dst = some d -> d ∉ D) :
    vo P c o (fun B' st' => ∃ A', K A' st' /\ B' = yp A' D /\ wh o A A') (yp A D) st := by
  have hev : ∀ x ∈ o.op.operands, (yp A D).ev x = A.ev x := fun x hx => zt1 (hop x hx)
  have hputO : ∀ (x : LV) (st' : Store), (yy A c.n o.dst x fun A' => K A' st') -> yy (yp A D) c.n o.dst x fun B' => ∃ A', K A' st' /\ B' = yp A' D /\ wh o A A' := by
    intro x st' hx
    unfold yy at hx ⊢
    cases hdst : o.dst with
    | none => rw [hdst] at hx; exact ⟨A, hx, rfl, O9⟩
    | some d =>
      rw [hdst] at hx
      obtain ⟨hlt, hx⟩ := jv hx
      simp only [show Nat.blt d c.n = true from Nat.ble_eq_true_of_le hlt, cond_true]
      grind[Bu,Dz]
  have hval : ∀ op', op' = o.op -> (optK o.dst fun d => bif Nat.blt d c.n then vcV c A.ev A.bx st d op' (fun x => K (A.put d x) st) else False) ->
      optK o.dst fun d => bif Nat.blt d c.n then vcV c (yp A D).ev (yp A D).bx st d op' (fun x => ∃ A', K A' st /\ (yp A D).put d x = yp A' D /\ wh o A A') else False := by
    rintro op' rfl hx
    obtain ⟨d, hdst, hx⟩ := zj hx
    obtain ⟨hlt, hx⟩ := jv hx
    refine za d hdst ?_
    simp only [show Nat.blt d c.n = true from Nat.ble_eq_true_of_le hlt, cond_true]
    exact R8 hI (fun x hx => ⟨_, hx, Bu (hd d hdst) x, Dz hdst⟩) (R9 hev hx)
  unfold vo at h ⊢
  have hX : vcX P c o K A st -> vcX P c o (fun B' st' => ∃ A', K A' st' /\ B' = yp A' D /\ wh o A A') (yp A D) st := by
    intro h
    obtain ⟨vs, hvs, h⟩ := zj h
    have e : (o.op.operands.toList.mapM fun x => ((yp A D).ev x).toAV) = o.op.operands.toList.mapM fun x => (A.ev x).toAV :=
      Ks fun x hx => hev x (by grind)
    refine za vs (by grind) ⟨fun Oth M w ρ hI' sto hr => ?_⟩
    have := h.out Oth M w ρ hI' sto hr
    have hpost : ∀ v w', qe st (fun r st' => yy A c.n o.dst (.av r) fun A' => K A' st') Oth M w v w' -> qe st (fun r st' => yy (yp A D) c.n o.dst (.av r) fun B' => ∃ A', K A' st' /\ B' = yp A' D /\ wh o A A') Oth M w v w' :=
      fun v w' ⟨r, st', M', h1, h2⟩ => ⟨r, st', M', hputO _ st' h1, h2⟩
    grind
  cases hx : isX o.op with
  | true => grind
  | false =>
  rw [hx] at h
  replace h : Ak P c o K A st := h
  change Ak P c o (fun B' st' => ∃ A', K A' st' /\ B' = yp A' D /\ wh o A A') (yp A D) st
  unfold Ak at h ⊢
  cases ho : o.op with
  | alloc t =>
    simp only [ho, Ba] at h ⊢
    obtain ⟨i, hi, h⟩ := zj h
    obtain ⟨d, hdst, h⟩ := zj h
    obtain ⟨hlt, h⟩ := jv h
    refine za i hi (za d hdst ?_)
    simp only [show Nat.blt d c.n = true from Nat.ble_eq_true_of_le hlt, cond_true]
    cases hg : c.G.contains d with
    | true => rw [hg] at h; exact fun b hb => ⟨_, h b hb, Bu (hd d hdst) _, fun hh => by grind⟩
    | false => rw [hg] at h; exact ⟨_, h, du (hd d hdst) _, fun hh => by grind⟩
  | box t x =>
    simp only [ho] at h ⊢
    rw [ho] at hev
    obtain ⟨d, hdst, h⟩ := zj h
    obtain ⟨hlt, h⟩ := jv h
    refine za d hdst ?_
    simp only [show Nat.blt d c.n = true from Nat.ble_eq_true_of_le hlt, cond_true]
    rw [hev x (by simp [Op.operands])]
    split at h
    · obtain ⟨l, hl, h⟩ := zj h
      refine za l hl ?_
      cases hg : c.G.contains d with
      | true => rw [hg] at h; exact fun b hb => ⟨_, h b hb, Bu (hd d hdst) _, fun hh => by grind⟩
      | false => rw [hg] at h; exact ⟨_, h, du (hd d hdst) _, fun hh => by grind⟩
    omega
  | buildSlice t n parts =>
    simp only [ho] at h ⊢
    rw [ho] at hev
    have e : (parts.toList.map fun p => (p.1, (yp A D).ev p.2)) = (parts.toList.map fun p => (p.1, A.ev p.2)) := List.map_congr_left fun p hp => by grind[Op.operands]
    rw [e]
    obtain ⟨i, hi, h⟩ := zj h
    obtain ⟨d, hdst, h⟩ := zj h
    obtain ⟨hlt, h⟩ := jv h
    refine za i hi (za d hdst ?_)
    simp only [show Nat.blt d c.n = true from Nat.ble_eq_true_of_le hlt, cond_true]
    split at h
    · obtain ⟨ie, hie, h⟩ := zj h
      obtain ⟨rows, hrows, h⟩ := zj h
      refine za ie hie (za rows hrows ?_)
      cases hone : rows.flatten.all AV.one with
      | false => grind
      | true =>
        rw [hone] at h
        simp only [cond_true] at h ⊢
        refine ⟨h.1, ?_⟩
        replace h := h.2
        cases rows with
        | nil => grind[Bu,Dz]
        | cons r rs =>
          cases hg : c.G.contains d with
          | true =>
            cases hg2 : c.G.contains (d + 1000000) with
            | true => simp only [hg, hg2, cond_true] at h ⊢; grind[Bu,Dz]
            | false => simp only [hg, hg2, cond_true, cond_false] at h ⊢; grind[Bu,Dz]
          | false => simp only [hg, cond_false] at h ⊢; grind[Bu,Dz]
    omega
  | store t p x =>
    simp only [ho] at h ⊢
    rw [ho] at hev
    cases hdst : o.dst with
    | some d => grind
    | none =>
      rw [hdst] at h
      simp only [Option.isNone_none, cond_true] at h ⊢
      obtain ⟨i, hi, h⟩ := zj h
      refine za i hi ?_
      rw [hev x (by simp [Op.operands])]
      split at h
      · unfold Bg at h ⊢
        rw [hev p (by simp [Op.operands])]
        obtain ⟨xs, hxs, h⟩ := zj h
        refine za xs hxs ?_
        cases hb : (Nat.beq xs.length i.size && xs.all AV.one) with
        | false => grind
        | true =>
          rw [hb] at h
          simp only [cond_true] at h ⊢
          split at h
          · rename_i k off hp
            obtain ⟨l, hl, h⟩ := zj h
            refine za l hl ?_
            cases hb2 : Nat.ble (off + xs.length) l.length with
            | false => grind
            | true => rw [hb2] at h; simp only [cond_true, Ba] at h ⊢; exact ⟨_, h, rfl, fun _ _ _ => rfl⟩
          · obtain ⟨y, hy, h⟩ := zj h
            refine za y hy ?_
            cases y with
            | cells l => simp only [Ba] at h ⊢; exact ⟨h.1, _, h.2, rfl, O9⟩
            | map es bs clock => omega
            | iter m since seen last => omega
            | ghost o gh => omega
          omega
      omega
  | binOp op t x y yt =>
    simp only [ho] at h ⊢
    have hev' := hev
    rw [ho] at hev'
    unfold L8 at h ⊢
    rw [hev' x (by simp [Op.operands]), hev' y (by simp [Op.operands])]
    split at h
    · obtain ⟨i, hi, h⟩ := zj h
      refine za i hi ?_
      cases hty : i.ty with
      | slice e =>
        rw [hty] at h
        cases op with
        | eql => simp_all
        | neq => simp_all
        | _ => omega
      | _ => grind
    grind
  | convert s t x =>
    simp only [ho] at h ⊢
    have hev' := hev
    rw [ho] at hev'
    unfold Lv at h ⊢
    rw [hev' x (by simp [Op.operands])]
    split at h
    · obtain ⟨hb, h⟩ := P7 h
      refine fq hb ?_
      obtain ⟨i, hi, h⟩ := zj h
      refine za i hi ?_
      split at h
      · obtain ⟨ie, hie, h⟩ := zj h
        obtain ⟨hu, h⟩ := P7 h
        obtain ⟨top, htop, h⟩ := zj h
        simp_all
      omega
    · exact hX h
    · exact hX h
    grind
  | call cl =>
    simp only [ho] at h ⊢
    have hev' := hev
    rw [ho] at hev'
    cases hcl : cl.callee with
    | value f =>
      simp only [hcl] at h ⊢
      rw [hev' f (by simp [Op.operands, Call.operands, hcl])]
      split at h
      · obtain ⟨vs, hvs, h⟩ := zj h
        have e : (cl.args.toList.mapM fun x => ((yp A D).ev x).toAV) = cl.args.toList.mapM fun x => (A.ev x).toAV :=
          Ks fun x hx => hev' x (by grind[Op.operands,Call.operands])
        rw [e]
        refine za vs hvs ⟨fun Oth M w us sto hr => ?_⟩
        have := h.out Oth M w us sto hr
        have hpost : ∀ v w', qe st (fun r st' => yy A c.n o.dst (.av r) fun A' => K A' st') Oth M w v w' -> qe st (fun r st' => yy (yp A D) c.n o.dst (.av r) fun B' => ∃ A', K A' st' /\ B' = yp A' D /\ wh o A A') Oth M w v w' :=
          fun v w' ⟨r, st', M', h1, h2⟩ => ⟨r, st', M', hputO _ st' h1, h2⟩
        generalize (callFunc _ us).run P w = res at *
        cases res with
        | halt x w' => trivial
        | ok nx w' =>
          cases nx with
          | enter f as => exact Calls.mono this fun e w'' ⟨v, he, hp⟩ => ⟨v, he, hpost v w'' hp⟩
          | value v => exact hpost v w' this
          | _ => trivial
      omega
    | invoke y m =>
      simp only [hcl] at h ⊢
      unfold Kw at h ⊢
      rw [hev' y (by simp [Op.operands, Call.operands, hcl])]
      split at h
      · obtain ⟨vs, hvs, g, x, hm, h⟩ := zj h
        have e : (cl.args.toList.mapM fun x => ((yp A D).ev x).toAV) = cl.args.toList.mapM fun x => (A.ev x).toAV :=
          Ks fun x hx => hev' x (by grind[Op.operands,Call.operands])
        rw [e]
        refine za vs hvs ⟨g, x, hm, ⟨fun Oth M w us sto hr => ?_⟩⟩
        have := h.out Oth M w us sto hr
        have hpost : ∀ v w', qe st (fun r st' => yy A c.n o.dst (.av r) fun A' => K A' st') Oth M w v w' -> qe st (fun r st' => yy (yp A D) c.n o.dst (.av r) fun B' => ∃ A', K A' st' /\ B' = yp A' D /\ wh o A A') Oth M w v w' :=
          fun v w' ⟨r, st', M', h1, h2⟩ => ⟨r, st', M', hputO _ st' h1, h2⟩
        generalize (callFunc _ us).run P w = res at *
        cases res with
        | halt x w' => trivial
        | ok nx w' =>
          cases nx with
          | enter f as => exact Calls.mono this fun e w'' ⟨v, he, hp⟩ => ⟨v, he, hpost v w'' hp⟩
          | value v => exact hpost v w' this
          | _ => trivial
      omega
    | builtin b =>
      cases b with
      | append =>
        simp only [hcl] at h ⊢
        obtain ⟨t, ht, h⟩ := zj h
        obtain ⟨i, hi, h⟩ := zj h
        obtain ⟨s, hs, h⟩ := zj h
        obtain ⟨x, hx, h⟩ := zj h
        refine za t ht (za i hi (za s hs (za x hx ?_)))
        rw [hev' s (by simp [Op.operands, Call.operands, hcl]; exact Array.mem_of_getElem? hs), hev' x (by simp [Op.operands, Call.operands, hcl]; exact Array.mem_of_getElem? hx)]
        split at h
        · cases hb : (cl.argTypes[1]?.bind c.I).any Hh with
          | false => rw [hb] at h; exact hX h
          | true =>
          rw [hb] at h
          replace h := h.out
          rcases h with h | ⟨s', x', hes, hex, h⟩
          rotate_left
          · refine ⟨.inr ⟨s', x', hes, hex, h.has, fun ie hie Oth M w sv xv at' ty args t sto h1 h2 h3 h4 h5 h6 h7 h8 => ?_⟩⟩
            obtain ⟨v, w', hr, r, st', M', hK, hp⟩ := h.out ie hie Oth M w sv xv at' ty args t sto h1 h2 h3 h4 h5 h6 h7 h8
            exact ⟨v, w', hr, r, st', M', hputO _ st' hK, hp⟩
          refine ⟨.inl ?_⟩
          unfold Rl at h ⊢
          obtain ⟨ie, hie, h⟩ := zj h
          refine za ie hie ?_
          split at h
          · obtain ⟨rows, hrows, hroom, h⟩ := zj h
            exact za rows hrows ⟨hroom, fun v st' ho => hputO _ st' (h v st' ho)⟩
          · obtain ⟨rows, hrows, hroom, h⟩ := zj h
            exact za rows hrows ⟨hroom, fun v st' ho => hputO _ st' (h v st' ho)⟩
          · rename_i k rows b hev2
            obtain ⟨hk, h⟩ := P7 h
            obtain ⟨rows', hrows, htok, hroom, h⟩ := zj h
            exact fq hk (za rows' hrows ⟨htok, hroom, fun v st' ho => hputO _ st' (h v st' ho)⟩)
          · exact h.elim
        · exact h.elim
      | _ => simp only [hcl] at h ⊢; have := hval o.op rfl (by rw [ho]; exact h); rw [ho] at this; exact this
  | _ => simp only [ho] at h ⊢; exact hval _ ho.symm h
end
end Go.V
