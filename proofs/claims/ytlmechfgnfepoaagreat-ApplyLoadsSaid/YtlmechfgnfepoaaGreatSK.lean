/- The ground on which laws of thronglaw23 are proved: contracts of functions and plain lemmas; no condition beyond the row's own. -/
import Derived.Test.YtlmechfgnfepoaaGreatVH
import Derived.Test.YtlmechfgnfepoaaGreatVE
import Derived.Test.YtlmechfgnfepoaaGreatVG
import Derived.Test.YtlmechfgnfepoaaGreatSC
import Derived.Test.YtlmechfgnfepoaaGreatSI
import Derived.Test.YtlmechfgnfepoaaGreatSG
set_option linter.unusedSimpArgs false
set_option linter.unusedVariables false
namespace Go.V
set_option linter.unusedVariables false
set_option linter.unusedSimpArgs false

/-- The first thing that is not right of several ones. -/
def allE (f : Int → Int) : List Int → Int
  | [] => 0
  | a :: l => if f a = 0 then allE f l else f a
theorem allE_none {f : Int → Int} : ∀ {l : List Int}, (∀ j, (h : j < l.length) → f l[j] = 0) → allE f l = 0
  | [], _ => rfl
  | a :: l, h => by
    have h0 := h 0 (by simp)
    simp only [List.getElem_cons_zero] at h0
    unfold allE
    rw [if_pos h0]
    exact allE_none fun j hj => by
      have := h (j + 1) (by simp; omega)
      simpa using this
theorem allE_some {f : Int → Int} : ∀ {l : List Int} {i : Nat} (hi : i < l.length), (∀ j, (h : j < l.length) → j < i → f l[j] = 0) → f l[i] ≠ 0 → allE f l = f l[i]
  | [], i, hi, _, _ => absurd hi (Nat.not_lt_zero i)
  | a :: l, 0, hi, _, h => by
    simp only [List.getElem_cons_zero] at h ⊢
    unfold allE
    rw [if_neg h]
  | a :: l, i + 1, hi, h, h2 => by
    have h0 := h 0 (by simp) (by omega)
    simp only [List.getElem_cons_zero] at h0
    simp only [List.getElem_cons_succ] at h2 ⊢
    unfold allE
    rw [if_pos h0]
    exact allE_some (by simpa using hi) (fun j hj hji => by
      have := h (j + 1) (by simp; omega) (by omega)
      simpa using this) h2
theorem allE_zero {f : Int → Int} : ∀ {l : List Int}, allE f l = 0 → ∀ a ∈ l, f a = 0
  | [], _, a, ha => by cases ha
  | b :: l, h, a, ha => by
    unfold allE at h
    by_cases hb : f b = 0
    · rw [if_pos hb] at h
      rcases List.mem_cons.1 ha with rfl | ha
      · exact hb
      · exact allE_zero h a ha
    · rw [if_neg hb] at h
      exact absurd h hb

def findU (l : List Unt) (id : Int) : Option Nat := l.findIdx? fun u => decide (u.id = id)
def unt0 : Unt := ⟨0, 0, 0, (0, 0), 0, 0, 0, 0, 0⟩
theorem findU_some {l : List Unt} {id : Int} {i : Nat} (h : findU l id = some i) : ∃ hi : i < l.length, l[i].id = id := by
  unfold findU at h
  rw [List.findIdx?_eq_some_iff_getElem] at h
  obtain ⟨h1, h2, _⟩ := h
  exact ⟨h1, of_decide_eq_true h2⟩
theorem findU_none {l : List Unt} {id : Int} (h : findU l id = none) : ∀ u ∈ l, u.id ≠ id := by
  unfold findU at h
  rw [List.findIdx?_eq_none_iff] at h
  exact fun u hu => of_decide_eq_false (h u hu)
theorem findU_mk {l : List Unt} (hr : risesU l) {id : Int} {i : Nat} (hi : i < l.length) (e : l[i].id = id) : findU l id = some i := by
  cases h : findU l id with
  | none => exact absurd e (findU_none h _ (List.getElem_mem hi))
  | some k =>
    obtain ⟨hk, e2⟩ := findU_some h
    by_cases h1 : k < i
    · have := risesU_lt' hr h1 hi; omega
    · by_cases h2 : i < k
      · have := risesU_lt' hr h2 hk; omega
      · rw [show k = i by omega]

/-- The unit of an ID. -/
def uAt (w : Wld) (id : Int) : Unt := match findU w.U id with | none => unt0 | some i => w.U.getD i unt0
/-- What a player is told who asks for a unit. -/
def askE (w : Wld) (P id : Int) : Int := match findU w.U id with | none => 3 | some i => if (w.U.getD i unt0).owner = P then (if (w.U.getD i unt0).inn = 0 then 0 else 9) else 6
theorem uAt_some {w : Wld} {id : Int} {i : Nat} (h : findU w.U id = some i) : ∃ hi : i < w.U.length, w.U[i].id = id ∧ uAt w id = w.U[i] := by
  obtain ⟨hi, e⟩ := findU_some h
  refine ⟨hi, e, ?_⟩
  unfold uAt
  rw [h]
  simp [List.getD_eq_getElem?_getD, hi]
theorem askE_none {w : Wld} {P id : Int} (h : findU w.U id = none) : askE w P id = 3 ∧ uAt w id = unt0 := by
  unfold askE uAt
  rw [h]
  exact ⟨rfl, rfl⟩
theorem askE_some {w : Wld} {P id : Int} {i : Nat} (h : findU w.U id = some i) (hi : i < w.U.length) : askE w P id = if w.U[i].owner = P then (if w.U[i].inn = 0 then 0 else 9) else 6 := by
  unfold askE
  rw [h]
  simp [List.getD_eq_getElem?_getD, hi]
theorem askE_zero {w : Wld} {P id : Int} (h : askE w P id = 0) : ∃ i, ∃ hi : i < w.U.length, findU w.U id = some i ∧ w.U[i].id = id ∧ uAt w id = w.U[i] ∧ w.U[i].owner = P ∧ w.U[i].inn = 0 := by
  cases hf : findU w.U id with
  | none => rw [(askE_none (P := P) hf).1] at h; cases h
  | some i =>
    obtain ⟨hi, e, e2⟩ := uAt_some hf
    rw [askE_some hf hi] at h
    refine ⟨i, hi, rfl, e, e2, ?_⟩
    split at h
    · split at h
      · exact ⟨‹_›, ‹_›⟩
      · cases h
    · cases h
theorem uAt_ok {w : Wld} (hn : ∀ u ∈ w.U, u.pos.ok) (id : Int) : (uAt w id).pos.ok := by
  cases hf : findU w.U id with
  | none => rw [(askE_none (P := 0) hf).2]; unfold unt0 Vc.ok InI64; decide
  | some i =>
    obtain ⟨hi, e, e2⟩ := uAt_some hf
    rw [e2]
    exact hn _ (List.getElem_mem hi)

def rstU (u : Unt) : Unt := { u with goal := -1, next := -1, stuck := 0, state := 0 }
/-- Some units are changed. -/
def setU (l : List Int) (g : Unt → Unt) (U : List Unt) : List Unt := U.map fun u => if u.id ∈ l then g u else u
theorem setU_nil (g : Unt → Unt) (U : List Unt) : setU [] g U = U := by
  unfold setU
  simp
theorem setU_len (l : List Int) (g : Unt → Unt) (U : List Unt) : (setU l g U).length = U.length := by unfold setU; rw [List.length_map]
theorem setU_get {l : List Int} {g : Unt → Unt} {U : List Unt} {i : Nat} (hi : i < U.length) : (setU l g U)[i]'(by rw [setU_len]; exact hi) = if U[i].id ∈ l then g U[i] else U[i] := by unfold setU; rw [List.getElem_map]
theorem setU_id {l : List Int} {g : Unt → Unt} (hg : ∀ u, (g u).id = u.id) {U : List Unt} {i : Nat} (hi : i < U.length) : ((setU l g U)[i]'(by rw [setU_len]; exact hi)).id = U[i].id := by
  rw [setU_get hi]
  split
  · exact hg _
  · rfl
theorem setU_rises {l : List Int} {g : Unt → Unt} (hg : ∀ u, (g u).id = u.id) {U : List Unt} (hr : risesU U) : risesU (setU l g U) := by
  intro i hi h0
  have hi2 : i < U.length := by rw [setU_len] at hi; exact hi
  rw [setU_id hg hi2, setU_id hg (show i - 1 < U.length by omega)]
  exact hr i hi2 h0
theorem setU_set {l : List Int} {g : Unt → Unt} {U : List Unt} (hr : risesU U) {i : Nat} (hi : i < U.length) : (setU l g U).set i (g U[i]) = setU (l ++ [U[i].id]) g U := by
  apply List.ext_getElem
  · rw [List.length_set, setU_len, setU_len]
  intro j h1 h2
  have hj : j < U.length := by rw [setU_len] at h2; exact h2
  rw [setU_get hj, List.getElem_set]
  by_cases e : i = j
  · subst e
    rw [if_pos rfl, if_pos (by simp)]
  · rw [if_neg e, setU_get hj]
    have hne : U[j].id ≠ U[i].id := by
      by_cases h : i < j
      · have := risesU_lt' hr h hj; omega
      · have := risesU_lt' hr (show j < i by omega) hi; omega
    have : (U[j].id ∈ l ++ [U[i].id]) ↔ U[j].id ∈ l := by simp [hne]
    simp only [this]

/-- Units that are stopped. -/
def stW (w : Wld) (c : Cmd) : Wld := { w with U := setU c.U rstU w.U }
def stE (w : Wld) (c : Cmd) : Int := allE (askE w c.P) c.U

theorem rows_set {α : Type} {f : α → List AV} {k : Nat} (hf : ∀ x, (f x).length = k) {U : List α} {i : Nat} (hi : i < U.length) (x : α) (J : List AV) : splice ((rws f U).flatten ++ J) (i * k) (f x) = (rws f (U.set i x)).flatten ++ J := by
  have := splice_rows (j := 0) (ys := f x) (L := J) (x' := x) hf hi (by rw [hf]; omega) (by
    unfold splice
    rw [hf x, List.take_zero, List.nil_append, Nat.zero_add, List.drop_of_length_le (by rw [hf]; exact Nat.le_refl _), List.append_nil])
  rw [Nat.add_zero] at this
  exact this
theorem rst_splice {U : List Unt} {i : Nat} (hi : i < U.length) (J : List AV) :
    splice (splice (splice (splice ((rws untC U).flatten ++ J) (i * 10 + 5) [int (-1)]) (i * 10 + 6) [int (-1)]) (i * 10 + 7) [int 0]) (i * 10 + 9) [int 0] = (rws untC (U.set i (rstU U[i]))).flatten ++ J := by
  rw [splice_rows (f := untC) (k := 10) (x' := { U[i] with goal := -1 }) untC_len hi (show 5 + 1 ≤ 10 by decide) rfl]
  rw [splice_rows (f := untC) (k := 10) (x' := { U[i] with goal := -1, next := -1 }) untC_len (by rw [List.length_set]; exact hi) (show 6 + 1 ≤ 10 by decide) (by rw [List.getElem_set_self]; rfl)]
  rw [List.set_set]
  rw [splice_rows (f := untC) (k := 10) (x' := { U[i] with goal := -1, next := -1, stuck := 0 }) untC_len (by rw [List.length_set]; exact hi) (show 7 + 1 ≤ 10 by decide) (by rw [List.getElem_set_self]; rfl)]
  rw [List.set_set]
  rw [splice_rows (f := untC) (k := 10) (x' := rstU U[i]) untC_len (by rw [List.length_set]; exact hi) (show 9 + 1 ≤ 10 by decide) (by rw [List.getElem_set_self]; rfl)]
  rw [List.set_set]
end Go.V
namespace Go.V
set_option linter.unusedVariables false
set_option linter.unusedSimpArgs false

section
variable {P : Program} {c : Cfg} {st : Store}

/-- What an append's source reads as. -/
structure SrcOK (P : Program) (st : Store) (k m : Nat) (x : AV) (xs : List AV) : Prop where
  out : ∀ (Oth M : Nat → Nat → Prop) (w : World) (xv : Value), StoreOK st Oth M w → VRel w (fun b o => M b o ∨ Oth b o) x xv →
    (Builtin.lenOf xv).run P w = .ok m w ∧ ∃ new : Array Value, Reads w (fun b o => M b o ∨ Oth b o) xs new.toList ∧ (∀ v ∈ new.toList, oneCell v = true) ∧ new.size = m * k ∧ ∀ w', w'.heap = w.heap → (Builtin.firstCells k m xv).run P w' = .ok new w'

/-- A slice over an object, anywhere in it. -/
theorem SrcOK.obj {k m o b cp : Nat} {l : List AV} (ho : st.obj b = some (.cells l)) (hl : o + m * k ≤ l.length) (h1 : ∀ y ∈ (l.drop o).take (m * k), y.one = true) : SrcOK P st k m (.s (.slice (some ⟨b, o, none⟩) m cp)) ((l.drop o).take (m * k)) := by
  refine ⟨fun Oth M w xv sto hxv => ?_⟩
  have hxv := VRel.eq_s hxv
  subst hxv
  obtain ⟨cs, e, fr, hb, _, hlen, hrel⟩ := (sto.obj b _ ho).1
  have hreads : Reads w (fun b o => M b o ∨ Oth b o) ((l.drop o).take (m * k)) ((List.range' 0 (m * k)).map fun i => cs.getD (o + i) undef) := by
    refine ⟨by simp; omega, fun i x y hx hy => ?_⟩
    have hi : i < m * k := by
      have := (List.getElem?_eq_some_iff.1 hx).1
      simp at this; omega
    rw [List.getElem?_take_of_lt hi, List.getElem?_drop] at hx
    simp [hi] at hy
    subst hy
    refine hrel (o + i) x _ hx ?_
    rw [Array.getElem?_eq_getElem (by omega)]
    simp [show o + i < cs.size by omega]
  refine ⟨by simp [Builtin.lenOf], ((List.range' 0 (m * k)).map fun i => cs.getD (o + i) undef).toArray, by simpa using hreads, by simpa using oneCell_of hreads h1, by simp, fun w' hw => ?_⟩
  have := run_loadCellsFrom (P := P) ⟨b, o, none⟩ w' (fun i => cs.getD (o + i) undef) (m * k) 0 #[] (fun p hp0 hp => by
    rw [add_eq, heap_cell hw]
    simp only [World.cell?, hb]
    have : o + p < cs.size := by omega
    simp [this])
  simp only [Builtin.firstCells, loadCells]
  simpa using this

/-- An append to a slice over an object, of what a source reads as. -/
theorem appX_rawS {e : TypeId} {ie : TI} (hie : c.I e = some ie) {b n cap : Nat} {l : List AV} {x : AV} {m : Nat} {xs : List AV} (ho : st.obj b = some (.cells l)) (hcap : cap * ie.size ≤ l.length) (hn : n ≤ cap)
    (hx : SrcOK P st ie.size m x xs) (hroom : room (n + m) ie.bytes) {K : AV → Store → Prop}
    (h1 : n + m ≤ cap → K (.s (.slice (some ⟨b, 0, none⟩) (n + m) cap)) (st.setObj b (.cells (splice l (n * ie.size) xs))))
    (h2 : cap < n + m → ∀ b' cap', Fresh st b' → n + m ≤ cap' → cap' ≤ 9223372036854775807 → K (.s (.slice (some ⟨b', 0, none⟩) (n + m) cap')) (st.setObj b' (.cells (l.take (n * ie.size) ++ xs ++ List.replicate ((cap' - (n + m)) * ie.size) .any)))) :
    AppX P c st e (.s (.slice (some ⟨b, 0, none⟩) n cap)) x K := by
  refine ⟨⟨ie, hie⟩, fun ie' hie' Oth M w sv xv argTypes ty args t sto hs hxv hat ht1 hu hti h0 h1' => ?_⟩
  rw [hie] at hie'
  cases hie'
  have hs := VRel.eq_s hs
  subst hs
  have A : AppArgs P c argTypes args t e ie (some ⟨b, 0, none⟩) n cap xv := ⟨hat, ht1, hu, hti, h0, h1'⟩
  obtain ⟨hl1, new, hnew, hone, hnsz, hfc⟩ := hx.out Oth M w xv sto hxv
  have hnn : n * ie.size ≤ l.length := Nat.le_trans (Nat.mul_le_mul_right _ hn) hcap
  by_cases hc : n + m ≤ cap
  · obtain ⟨⟨cs, e0, fr, hb0, huf, hlen, hrel⟩, hM⟩ := sto.obj b _ ho
    have hfit : n * ie.size + new.toList.length ≤ cs.size := by
      rw [Array.length_toList, hnsz, ← Nat.add_mul, ← hlen]
      exact Nat.le_trans (Nat.mul_le_mul_right _ hc) hcap
    obtain ⟨w', hw1, hw2⟩ := run_storeCells (P := P) w b (n * ie.size) new.toList 0 w cs e0 fr hb0 (.inl huf) hfit hone
    have hrun := append_stay (w' := w') ty A hl1 (hfc w rfl) hc (fun a ha => by
      cases ha
      rw [add_eq, Nat.zero_add]; exact hw1) (fun h => by cases h)
    obtain ⟨k1, k2⟩ := wrote_ok sto ho hnew hw2
    exact ⟨_, _, hrun, _, _, M, h1 hc, .s _, k1, k2⟩
  · have hc : cap < n + m := by omega
    obtain ⟨old, hold1, hold2, hold3⟩ := firstCells_obj (P := P) (cap := cap) (sto.obj b _ ho).1 hnn
    obtain ⟨newCap, rest, g1, g0, g2, g3⟩ := append_grow ty A hl1 (hfc w.drew rfl) (hold3 w.drew rfl) hc hroom
    have gd : Grow w w.drew := Grow.drew w
    have sto1 := sto.grow gd
    obtain ⟨f1, f2, f3⟩ := newCells_ok sto1 (old ++ new ++ rest) e (l := l.take (n * ie.size) ++ xs ++ List.replicate rest.size .any) (by
      rw [Array.toList_append, Array.toList_append]
      refine ((hold1.append hnew).append ⟨by simp, fun i x y hx hy => ?_⟩).keep (gd.keeps _)
      rw [List.getElem?_replicate] at hx
      split at hx
      · cases hx; exact .any _
      · cases hx)
    have e1 : w.drew.heap.size = w.heap.size := rfl
    rw [g2] at f2
    exact ⟨_, _, g3, _, _, _, h2 hc _ newCap f1 g1 g0, .s _, f2, (gd.chg M).trans f3⟩

end

section
variable {P : Program} {c : Cfg} {st : Store}
/-- An append to any empty slice, that makes an object. of what a source reads as. -/
theorem appX_nilS {e : TypeId} {ie : TI} (hie : c.I e = some ie) {a : Option Addr} {x : AV} {m : Nat} {xs : List AV} (hx : SrcOK P st ie.size m x xs) (hroom : room m ie.bytes) (hne : 0 < m) {K : AV → Store → Prop}
    (h2 : ∀ b' cap', Fresh st b' → m ≤ cap' → cap' ≤ 9223372036854775807 → K (.s (.slice (some ⟨b', 0, none⟩) m cap')) (st.setObj b' (.cells (xs ++ List.replicate ((cap' - m) * ie.size) .any)))) :
    AppX P c st e (.s (.slice a 0 0)) x K := by
  refine ⟨⟨ie, hie⟩, fun ie' hie' Oth M w sv xv argTypes ty args t sto hs hxv hat ht1 hu hti h0 h1' => ?_⟩
  rw [hie] at hie'
  cases hie'
  have hs := VRel.eq_s hs
  subst hs
  have A : AppArgs P c argTypes args t e ie a 0 0 xv := ⟨hat, ht1, hu, hti, h0, h1'⟩
  obtain ⟨hl1, new, hnew, hone, hnsz, hfc⟩ := hx.out Oth M w xv sto hxv
  obtain ⟨newCap, rest, g1, g0, g2, g3⟩ := append_grow (old := #[]) ty A hl1 (hfc w.drew rfl) (by cases a <;> simp [Builtin.firstCells, loadCells, loadCellsFrom]) (by omega) (by simpa using hroom)
  have gd : Grow w w.drew := Grow.drew w
  have sto1 := sto.grow gd
  obtain ⟨f1, f2, f3⟩ := newCells_ok sto1 (#[] ++ new ++ rest) e (l := xs ++ List.replicate rest.size .any) (by
    rw [Array.toList_append, Array.toList_append]
    refine ((show Reads w _ xs ([] ++ new.toList) from hnew).append ⟨by simp, fun i x y hx hy => ?_⟩).keep (gd.keeps _)
    rw [List.getElem?_replicate] at hx
    split at hx
    · cases hx; exact .any _
    · cases hx)
  rw [g2] at f2
  simp only [Nat.zero_add] at g1 g3 f2
  exact ⟨_, _, g3, _, _, _, h2 _ newCap f1 g1 g0, .s _, f2, (gd.chg M).trans f3⟩


/-- 'clear' of one element. -/
theorem aeff_clear1 {o : Oper} {cl : Call} {t e : TypeId} {x : Operand} (ho : o.op = .call cl) (hcl : cl.callee = .builtin .clear) (hargs : cl.args = #[x]) (hat : cl.argTypes[0]? = some t)
    {it ie : TI} (hit : c.I t = some it) (hty : it.ty = .slice e) (hie : c.I e = some ie) {b off m cap : Nat} {l : List AV} (hm : m = 1) (hb : st.obj b = some (.cells l)) (hn : off + ie.size ≤ l.length) (hone : ∀ v ∈ ie.zero, oneCell v = true)
    {R : AV → Store → Prop} (h : R (.tup []) (st.setObj b (.cells (splice l off (ie.zero.map AV.s))))) : AEff P c o [.s (.slice (some ⟨b, off, none⟩) m cap)] st R := by
  subst hm
  refine ⟨fun Oth M w ρ hI sto hr => ?_⟩
  have hops : o.op.operands = #[x] := by rw [ho]; simp [Op.operands, Call.operands, hcl, hargs]
  rw [hops] at hr
  have hr : Reads w (fun b o => M b o ∨ Oth b o) [.s (.slice (some ⟨b, off, none⟩) 1 cap)] [ρ x] := by simpa using hr
  obtain ⟨u, he, h1⟩ := reads1 hr
  simp only [List.cons.injEq, and_true] at he
  rw [← he] at h1
  have h1 := VRel.eq_s h1
  have ht := ty_slice (hI _ _ hit) hty
  have hie := hI _ _ hie
  obtain ⟨⟨cs, e0, fr, hb0, huf, hlen, hrel⟩, hM⟩ := sto.obj b _ hb
  obtain ⟨z, hz1, hz2⟩ := run_zero (P := P) hie w
  have hzs : z.cells.size = ie.size := by rw [← hie.zsz, ← hz2]; simp
  have hzc : (Builtin.zeroCells z.cells 1).toList = ie.zero := by
    rw [← hz2]
    unfold Builtin.zeroCells
    apply List.ext_getElem
    · simp
    · intro i h1 h2
      simp at h1 h2 ⊢
      rw [Nat.mod_eq_of_lt h1, getElem!_pos z.cells i h1]
  obtain ⟨w', hw1, hw2⟩ := run_storeCells (P := P) w b off ie.zero 0 w cs e0 fr hb0 (.inl huf) (by rw [hie.zsz, ← hlen]; omega) hone
  have hund := run_und (P := P) ht
  have hrun : (execOp ρ o).run P w = .ok (.value (.tuple #[])) w' := by
    simp [execOp, ho, resolve, hcl, invoke, builtin, hargs, Builtin.clear_, hat, hund, h1, hz1, hzc, hw1]
  rw [hrun]
  obtain ⟨k1, k2⟩ := wrote_ok sto hb (Reads.map_s (w := w) (T := fun b o => M b o ∨ Oth b o) ie.zero) (by rw [Nat.add_zero] at hw2; exact hw2)
  exact ⟨_, _, M, h, vrel_tup_mk Reads.nil, k1, k2⟩

/-- A slice with three bounds. -/
theorem aeff_slice3 {o : Oper} {t e : TypeId} {x lo hi mx : Operand} (ho : o.op = .slice t x (some lo) (some hi) (some mx)) {it ie : TI} (hit : c.I t = some it) (hty : it.ty = .slice e) (hie : c.I e = some ie)
    {b off len cap i j m : Nat} {k k' k'' : IntKind} (h1 : i ≤ j) (h2 : j ≤ m) (h3 : m ≤ cap) (h4 : i < m) {R : AV → Store → Prop} (h : R (.s (.slice (some ⟨b, off + i * ie.size, none⟩) (j - i) (m - i))) st) :
    AEff P c o [.s (.slice (some ⟨b, off, none⟩) len cap), .s (.int k (i : Int)), .s (.int k' (j : Int)), .s (.int k'' (m : Int))] st R := by
  refine ⟨fun Oth M w ρ hI sto hr => ?_⟩
  have hops : o.op.operands = #[x, lo, hi, mx] := by rw [ho]; simp [Op.operands]
  rw [hops] at hr
  have hr : Reads w (fun b o => M b o ∨ Oth b o) [.s (.slice (some ⟨b, off, none⟩) len cap), .s (.int k (i : Int)), .s (.int k' (j : Int)), .s (.int k'' (m : Int))] [ρ x, ρ lo, ρ hi, ρ mx] := by simpa using hr
  have e1 := VRel.eq_s (hr.2 0 _ (ρ x) rfl rfl)
  have e2 := VRel.eq_s (hr.2 1 _ (ρ lo) rfl rfl)
  have e3 := VRel.eq_s (hr.2 2 _ (ρ hi) rfl rfl)
  have e4 := VRel.eq_s (hr.2 3 _ (ρ mx) rfl rfl)
  have ht := ty_slice (hI _ _ hit) hty
  have hie := hI _ _ hie
  have hm : ¬ m = i := by omega
  have hund := run_und (P := P) ht
  have hrun : (execOp ρ o).run P w = .ok (.value (.slice (some ⟨b, off + i * ie.size, none⟩) (j - i) (m - i))) w := by
    simp [execOp, ho, e1, e2, e3, e4, Instr.sliceAt, Instr.slice, hund, Instr.sliceBounds, Instr.sliceBound, asIntOf, h1, h2, h3, run_sizeOf hie, hm, add_eq]
  rw [hrun]
  exact ⟨_, st, M, h, .s _, sto, Chg.refl _ _⟩
end
end Go.V
namespace Go.V
set_option linter.unusedVariables false
set_option linter.unusedSimpArgs false

section
variable {α : Type} {f : α → List AV} {k : Nat}
/-- An append of one element. -/
theorem appRowsQS {P : Program} {c : Cfg} {e : TypeId} {ie : TI} (hie : c.I e = some ie) (hf : ∀ x, (f x).length = ie.size) (hby : ie.bytes ≤ 1000) {st : Store} {v : AV} {l : List α} (hv : RowsQ ie.size f st v l) (x : α) {src : AV} (hsrc : SrcOK P st ie.size 1 src (f x)) (hlen : l.length ≤ 1000000000) {K : AV → Store → Prop}
    (h : ∀ b cap L, (Fresh st b ∨ ∃ c0, 0 < c0 ∧ v = .s (.slice (some ⟨b, 0, none⟩) l.length c0)) → (l ++ [x]).length ≤ cap → cap * ie.size ≤ (l ++ [x]).length * ie.size + L.length → cap ≤ 9223372036854775807 →
      K (.s (.slice (some ⟨b, 0, none⟩) (l ++ [x]).length cap)) (st.setObj b (.cells ((rws f (l ++ [x])).flatten ++ L)))) : appendK P c st e (.av v) (.av src) K := by
  refine ⟨.inr ⟨v, _, rfl, rfl, ?_⟩⟩
  have hl : (l ++ [x]).length = l.length + 1 := by simp
  have hfl := rws_flat_len hf l
  have hmul : (l.length + 1) * ie.bytes ≤ 1000000001 * 1000 := Nat.mul_le_mul (by omega) hby
  have happ : (rws f (l ++ [x])).flatten = (rws f l).flatten ++ f x := by
    rw [rws_flat_app]
    show _ ++ (f x ++ []) = _
    rw [List.append_nil]
  have empty : ∀ a : Option Addr, l = [] → v = .s (.slice a 0 0) → AppX P c st e v src K := fun a hl0 hva => by
    subst hl0 hva
    refine appX_nilS hie hsrc ⟨by omega, by omega⟩ (by simp) (fun b' cap' hb hc hc2 => ?_)
    have := h b' cap' (List.replicate ((cap' - 1) * ie.size) .any) (.inl hb) (by simpa using hc) (by
      simp only [List.length_replicate, List.nil_append, List.length_singleton, ← Nat.add_mul]
      exact Nat.mul_le_mul_right _ (by omega)) hc2
    rw [happ] at this
    exact this
  rcases hv with (⟨hv, hl0⟩ | ⟨b, cap, L, rfl, ho, h1, h2, h3⟩) | ⟨a, ha, hv, hl0⟩
  · exact empty _ hl0 hv
  · refine appX_rawS hie (cap := cap) ho (by rw [List.length_append, hfl]; exact h2) h1 hsrc ⟨by omega, by omega⟩ (fun hc => ?_) (fun hc b' cap' hb hc1 hc2 => ?_)
    · have hc : l.length + 1 ≤ cap := hc
      have hcm : (l.length + 1) * ie.size ≤ cap * ie.size := Nat.mul_le_mul_right _ hc
      rw [Nat.succ_mul] at hcm
      have e1 : splice ((rws f l).flatten ++ L) (l.length * ie.size) (f x) = (rws f (l ++ [x])).flatten ++ L.drop ie.size := by
        rw [splice_at hfl, happ]
        simp [hf x]
      have := h b cap (L.drop ie.size) (.inr ⟨cap, by omega, rfl⟩) (by omega) (by rw [hl, Nat.succ_mul, List.length_drop]; omega) h3
      rw [hl, ← e1] at this
      exact this
    · have hc1 : l.length + 1 ≤ cap' := hc1
      have e1 : ((rws f l).flatten ++ L).take (l.length * ie.size) ++ f x ++ List.replicate ((cap' - (l.length + 1)) * ie.size) .any = (rws f (l ++ [x])).flatten ++ List.replicate ((cap' - (l.length + 1)) * ie.size) .any := by
        rw [List.take_append_of_le_length (by omega), List.take_of_length_le (by omega), happ]
      have := h b' cap' (List.replicate ((cap' - (l.length + 1)) * ie.size) .any) (.inl hb) (by omega) (by
        rw [hl, List.length_replicate, ← Nat.add_mul]
        exact Nat.mul_le_mul_right _ (by omega)) hc2
      rw [hl, ← e1] at this
      exact this
  · exact empty _ hl0 hv
end

theorem hit_mid {g : Gnd} (hg : gndP g) {t : Nat} (ht : (t : Int) < g.W * g.H) {p : Vc} (hp : placeP p.1 p.2) {r : Int} (hr : 0 < r ∧ r ≤ 81920) (h : hitP g t p r) : near (tx g t + 32768, ty g t + 32768) p 147456 = true := by
  have hb := txty hg ht
  obtain ⟨h3, h4⟩ := hp
  rw [near_small (by dsimp only; omega) (by dsimp only; omega) (by omega) (by omega) (by decide)]
  dsimp only
  unfold hitP at h
  have o1 : 0 ≤ off p.1 (tx g t) := by unfold off; split <;> (try split) <;> omega
  have o2 : 0 ≤ off p.2 (ty g t) := by unfold off; split <;> (try split) <;> omega
  have d1 : -(32768 + off p.1 (tx g t)) ≤ tx g t + 32768 - p.1 ∧ tx g t + 32768 - p.1 ≤ 32768 + off p.1 (tx g t) := by unfold off; split <;> (try split) <;> omega
  have d2 : -(32768 + off p.2 (ty g t)) ≤ ty g t + 32768 - p.2 ∧ ty g t + 32768 - p.2 ≤ 32768 + off p.2 (ty g t) := by unfold off; split <;> (try split) <;> omega
  generalize off p.1 (tx g t) = ex at *
  generalize off p.2 (ty g t) = ey at *
  generalize tx g t + 32768 - p.1 = dx at *
  generalize ty g t + 32768 - p.2 = dy at *
  have hrr : r * r ≤ 81920 * 81920 := Int.mul_le_mul hr.2 hr.2 (by omega) (by decide)
  have ex2 := Int.mul_nonneg o1 o1
  have ey2 := Int.mul_nonneg o2 o2
  have bx : ex < 81920 := sq_lt o1 (by decide) (by omega)
  have by' : ey < 81920 := sq_lt o2 (by decide) (by omega)
  have sq : ∀ d m : Int, 0 ≤ m → -m ≤ d → d ≤ m → d * d ≤ m * m := fun d m hm h1 h2 => by
    by_cases hd : 0 ≤ d
    · exact Int.mul_le_mul h2 h2 hd hm
    · have : (-d) * (-d) ≤ m * m := Int.mul_le_mul (by omega) (by omega) (by omega) hm
      rwa [Int.neg_mul_neg] at this
  have s1 := sq dx (32768 + ex) (by omega) d1.1 d1.2
  have s2 := sq dy (32768 + ey) (by omega) d2.1 d2.2
  have e1 : (32768 + ex) * (32768 + ex) = 1073741824 + 65536 * ex + ex * ex := by
    rw [Int.add_mul, Int.mul_add, Int.mul_add, Int.mul_comm ex 32768]; omega
  have e2 : (32768 + ey) * (32768 + ey) = 1073741824 + 65536 * ey + ey * ey := by
    rw [Int.add_mul, Int.mul_add, Int.mul_add, Int.mul_comm ey 32768]; omega
  rw [e1] at s1
  rw [e2] at s2
  refine decide_eq_true ?_
  omega

instance (a b : Bld) : Decidable (meetP a b) := inferInstanceAs (Decidable (_ ∧ _))
/-- The building that is to come. -/
def bdB (w : Wld) (c : Cmd) : Bld := ⟨w.next, c.P, c.T.tmod w.G.W, c.T.tdiv w.G.W, c.W, c.H⟩
open Classical in
noncomputable def putE (g : Gnd) (l : List Bld) (b : Bld) : Int := if ¬ onP g b then 3 else if ∃ x ∈ l, meetP x b then 12 else if ¬ firmP g b then 5 else if 256 ≤ l.length then 4 else 0
def meetsW (w : Wld) (b : Bld) : Prop := ∃ t : Nat, ((t : Int) < w.G.W * w.G.H ∧ hasP w.G b t) ∧ ∃ u ∈ w.U, u.inn = 0 ∧ hitP w.G t u.pos (kRad u.kind)
open Classical in
noncomputable def bdE (w : Wld) (c : Cmd) : Int := if ¬ (0 ≤ c.T ∧ c.T < w.G.W * w.G.H) then 3 else if 1099511627776 ≤ w.next then 4 else if putE w.G w.B (bdB w c) = 0 then (if meetsW w (bdB w c) then 5 else 0) else putE w.G w.B (bdB w c)
def bdW (w : Wld) (c : Cmd) : Wld := { w with B := w.B ++ [bdB w c], next := w.next + 1 }

def bld0 : Bld := ⟨0, 0, 0, 0, 0, 0⟩
def findB (l : List Bld) (id : Int) : Option Nat := l.findIdx? fun b => decide (b.id = id)
/-- A building less. -/
def drE (w : Wld) (c : Cmd) : Int := match findB w.B c.N with | none => 3 | some i => if (w.B.getD i bld0).owner = c.P then 0 else 6
def drW (w : Wld) (c : Cmd) : Wld := match findB w.B c.N with | none => w | some i => { w with B := w.B.eraseIdx i }
end Go.V
namespace Go.V
set_option linter.unusedVariables false
set_option linter.unusedSimpArgs false

/-- An append of nothing to rows of an object. -/
theorem app0Q {α : Type} {f : α → List AV} {P : Program} {c : Cfg} {e : TypeId} {ie : TI} (hie : c.I e = some ie) (hf : ∀ x, (f x).length = ie.size) (hby : ie.bytes ≤ 1000) {st : Store} {v : AV} {l : List α} (hv : RowsQ ie.size f st v l) (hne : l ≠ []) {src : AV} (hsrc : srcRows ie.size (.av src) = some []) (hlen : l.length ≤ 1000000000) {K : AV → Store → Prop}
    (h : ∀ v' st', RowsQ ie.size f st' v' l → K v' st') : appendK P c st e (.av v) (.av src) K := by
  refine ⟨.inr ⟨v, _, rfl, rfl, ?_⟩⟩
  have hfl := rws_flat_len hf l
  have hmul : l.length * ie.bytes ≤ 1000000000 * 1000 := Nat.mul_le_mul hlen hby
  rcases hv with (⟨hv, hl0⟩ | ⟨b, cap, L, rfl, ho, h1, h2, h3⟩) | ⟨a, ha, hv, hl0⟩
  · exact absurd hl0 hne
  · refine appX_raw hie (cap := cap) ho (by rw [List.length_append, hfl]; exact h2) h1 hsrc ⟨by simp; omega, by simp; omega⟩ (fun hc => ?_) (fun hc => ?_)
    · have e1 : splice ((rws f l).flatten ++ L) (l.length * ie.size) ([] : List (List AV)).flatten = (rws f l).flatten ++ L := by
        rw [List.flatten_nil, splice_at hfl]
        simp
      rw [e1]
      exact h _ _ (.inl (.inr ⟨b, cap, L, rfl, setObj_self _ _ _, h1, h2, h3⟩))
    · simp at hc; omega
  · exact absurd hl0 hne

/-- What an element less makes of rows. -/
theorem erase_splice {α : Type} {f : α → List AV} {k : Nat} (hf : ∀ x, (f x).length = k) {l : List α} {i : Nat} (hi : i < l.length) (L : List AV) :
    splice ((rws f l).flatten ++ L) (i * k) (rws f (l.drop (i + 1))).flatten = (rws f (l.eraseIdx i)).flatten ++ (f l[l.length - 1] ++ L) := by
  have e1 : (rws f l).flatten ++ L = (rws f (l.take i)).flatten ++ ((rws f (l.drop i)).flatten ++ L) := by
    rw [← List.append_assoc, ← rws_flat_app, List.take_append_drop]
  have h1 : (rws f (l.take i)).flatten.length = i * k := by rw [rws_flat_len hf, List.length_take, Nat.min_eq_left (by omega)]
  rw [e1, splice_at h1, List.eraseIdx_eq_take_drop_succ, rws_flat_app]
  simp only [List.append_assoc]
  congr 1
  congr 1
  have h2 : (rws f (l.drop (i + 1))).flatten.length = (l.length - (i + 1)) * k := by rw [rws_flat_len hf, List.length_drop]
  have e2 : l.drop i = (l.drop i).dropLast ++ [l[l.length - 1]] := by
    have hne : l.drop i ≠ [] := by
      intro h
      have := congrArg List.length h
      rw [List.length_drop] at this
      simp at this; omega
    have h := (List.dropLast_concat_getLast hne).symm
    have e : (l.drop i).getLast hne = l[l.length - 1] := by
      have e4 : i + ((l.drop i).length - 1) = l.length - 1 := by rw [List.length_drop]; omega
      rw [List.getLast_eq_getElem, List.getElem_drop]
      simp only [e4]
    rw [e] at h
    exact h
  have e3 : (rws f (l.drop i)).flatten = (rws f (l.drop i).dropLast).flatten ++ f l[l.length - 1] := by
    conv => lhs; rw [e2]
    rw [rws_flat_app]
    show _ ++ (f _ ++ []) = _
    rw [List.append_nil]
  have h3 : (rws f (l.drop i).dropLast).flatten.length = (l.length - (i + 1)) * k := by
    rw [rws_flat_len hf, List.length_dropLast, List.length_drop]
    congr 1
  rw [e3, h2, ← h3, List.append_assoc, List.drop_left]

theorem erase_len {α : Type} {l : List α} {i : Nat} (hi : i < l.length) : (l.eraseIdx i).length = l.length - 1 := by rw [List.length_eraseIdx, if_pos hi]
theorem drop_cells {α : Type} {f : α → List AV} {k : Nat} (hf : ∀ x, (f x).length = k) {l : List α} {i : Nat} (hi : i ≤ l.length) (L : List AV) : (((rws f l).flatten ++ L).drop (i * k)).take ((l.length - i) * k) = (rws f (l.drop i)).flatten := by
  have e1 : (rws f l).flatten ++ L = (rws f (l.take i)).flatten ++ ((rws f (l.drop i)).flatten ++ L) := by
    rw [← List.append_assoc, ← rws_flat_app, List.take_append_drop]
  have h1 : (rws f (l.take i)).flatten.length = i * k := by rw [rws_flat_len hf, List.length_take, Nat.min_eq_left (by omega)]
  have h2 : (rws f (l.drop i)).flatten.length = (l.length - i) * k := by rw [rws_flat_len hf, List.length_drop]
  rw [e1, ← h1, List.drop_left, ← h2, List.take_left]

/-- Nothing is appended to an empty slice. -/
theorem appX_nil0 {P : Program} {c : Cfg} {st : Store} {e : TypeId} {ie : TI} (hie : c.I e = some ie) {a : Option Addr} {x : AV} (hx : srcRows ie.size (.av x) = some []) {K : AV → Store → Prop} (h : K (.s (.slice a 0 0)) st) : AppX P c st e (.s (.slice a 0 0)) x K := by
  refine ⟨⟨ie, hie⟩, fun ie' hie' Oth M w sv xv argTypes ty args t sto hs hxv hat ht1 hu hti h0 h1' => ?_⟩
  rw [hie] at hie'
  cases hie'
  have hs := VRel.eq_s hs
  subst hs
  have A : AppArgs P c argTypes args t e ie a 0 0 xv := ⟨hat, ht1, hu, hti, h0, h1'⟩
  obtain ⟨hl1, hl2, new, hnew, hone, hnsz, hfc⟩ := src_sound (P := P) (β := fun _ => 0) (k := ie.size) (x := .av x) hxv hx
  have hn0 : new.toList = [] := by
    have : new.toList.length = 0 := by rw [Array.length_toList, hnsz]; simp
    exact List.eq_nil_of_length_eq_zero this
  have hrun := append_stay (w' := w) ty A hl1 (hfc w rfl) (by simp) (fun b hb => by rw [hn0]; simp [storeCells]) (fun _ => rfl)
  exact ⟨_, _, hrun, _, _, M, h, .s _, sto, Chg.refl M w⟩

/-- An append of a list. -/
theorem appListQ {α : Type} {f : α → List AV} {P : Program} {c : Cfg} {e : TypeId} {ie : TI} (hie : c.I e = some ie) (hf : ∀ x, (f x).length = ie.size) (hby : ie.bytes ≤ 1000) {st : Store} {v : AV} {l : List α} (hv : RowsQ ie.size f st v l) (l2 : List α) {src : AV} (hsrc : srcRows ie.size (.av src) = some (rws f l2)) (hlen : l.length + l2.length ≤ 1000000000) {K : AV → Store → Prop}
    (h : ∀ v' st', RowsQ ie.size f st' v' (l ++ l2) → K v' st') : appendK P c st e (.av v) (.av src) K := by
  refine ⟨.inr ⟨v, _, rfl, rfl, ?_⟩⟩
  have hfl := rws_flat_len hf l
  have hfl2 := rws_flat_len hf l2
  have hl2 : (rws f l2).length = l2.length := rws_len _
  have hmul : (l.length + l2.length) * ie.bytes ≤ 1000000000 * 1000 := Nat.mul_le_mul hlen hby
  have happ : (rws f (l ++ l2)).flatten = (rws f l).flatten ++ (rws f l2).flatten := rws_flat_app _ _
  have hll : (l ++ l2).length = l.length + l2.length := List.length_append
  have empty : ∀ a : Option Addr, spotless a → l = [] → v = .s (.slice a 0 0) → AppX P c st e v src K := fun a ha hl0 hva => by
    subst hl0 hva
    by_cases h2 : l2 = []
    · subst h2
      exact appX_nil0 hie hsrc (h _ _ (.inr ⟨a, ha, rfl, rfl⟩))
    · have h3 : 0 < l2.length := List.length_pos_iff.2 h2
      refine appX_nilA hie hsrc ⟨by rw [hl2]; simp at hmul; omega, by rw [hl2]; simp at hlen; omega⟩ (by omega) (fun b' cap' hb hc hc2 => ?_)
      rw [hl2] at hc ⊢
      have := h (.s (.slice (some ⟨b', 0, none⟩) l2.length cap')) (st.setObj b' (.cells ((rws f l2).flatten ++ List.replicate ((cap' - l2.length) * ie.size) .any))) (.inl (.inr ⟨b', cap', _, by simp, setObj_self _ _ _, by simpa using hc, by
        simp only [List.length_replicate, List.nil_append, ← Nat.add_mul]
        exact Nat.mul_le_mul_right _ (by omega), hc2⟩))
      exact this
  rcases hv with (⟨hv, hl0⟩ | ⟨b, cap, L, rfl, ho, h1, h2, h3⟩) | ⟨a, ha, hv, hl0⟩
  · exact empty none (fun x hx => by cases hx) hl0 hv
  · refine appX_raw hie (cap := cap) ho (by rw [List.length_append, hfl]; exact h2) h1 hsrc ⟨by rw [hl2]; omega, by rw [hl2]; omega⟩ (fun hc => ?_) (fun hc b' cap' hb hc1 hc2 => ?_)
    · rw [hl2] at hc ⊢
      have hcm : (l.length + l2.length) * ie.size ≤ cap * ie.size := Nat.mul_le_mul_right _ hc
      rw [Nat.add_mul] at hcm
      have e1 : splice ((rws f l).flatten ++ L) (l.length * ie.size) (rws f l2).flatten = (rws f (l ++ l2)).flatten ++ L.drop (l2.length * ie.size) := by
        rw [splice_at hfl, happ, hfl2]
      rw [e1]
      exact h _ _ (.inl (.inr ⟨b, cap, L.drop (l2.length * ie.size), by rw [hll], setObj_self _ _ _, by omega, by rw [hll, Nat.add_mul, List.length_drop]; omega, h3⟩))
    · rw [hl2] at hc hc1 ⊢
      have e1 : ((rws f l).flatten ++ L).take (l.length * ie.size) ++ (rws f l2).flatten ++ List.replicate ((cap' - (l.length + l2.length)) * ie.size) .any = (rws f (l ++ l2)).flatten ++ List.replicate ((cap' - (l.length + l2.length)) * ie.size) .any := by
        rw [List.take_append_of_le_length (by omega), List.take_of_length_le (by omega), happ]
      rw [e1]
      exact h _ _ (.inl (.inr ⟨b', cap', _, by rw [hll], setObj_self _ _ _, by omega, by
        rw [hll, List.length_replicate, ← Nat.add_mul]
        exact Nat.mul_le_mul_right _ (by omega), hc2⟩))
  · exact empty a ha hl0 hv
end Go.V
namespace Go.V
set_option linter.unusedVariables false
set_option linter.unusedSimpArgs false

/-- A whole root, cut at the greatest number. -/
def isRoot (m r : Int) : Prop := 0 ≤ r ∧ r ≤ 9223372036854775807 ∧ r * r ≤ m ∧ (r = 9223372036854775807 ∨ m < (r + 1) * (r + 1))
theorem isRoot_gt {m r : Int} (h : isRoot m r) {k : Int} (hk : 0 ≤ k) (hk2 : k < 9223372036854775807) : k < r ↔ (k + 1) * (k + 1) ≤ m := by
  obtain ⟨h0, h1, h2, h3⟩ := h
  constructor
  · intro hkr
    exact Int.le_trans (Int.mul_le_mul (show k + 1 ≤ r by omega) (show k + 1 ≤ r by omega) (by omega) h0) h2
  · intro hm
    refine Int.not_le.1 fun hle => ?_
    rcases h3 with h3 | h3
    · omega
    · have := Int.mul_le_mul (show r + 1 ≤ k + 1 by omega) (show r + 1 ≤ k + 1 by omega) (by omega) (by omega)
      omega
theorem isRoot_uniq {m r r' : Int} (h : isRoot m r) (h' : isRoot m r') : r = r' := by
  obtain ⟨h0, h1, h2, h3⟩ := h
  obtain ⟨g0, g1, g2, g3⟩ := h'
  have a : ¬ r < r' := fun hlt => by
    rcases h3 with h3 | h3
    · omega
    · have := Int.mul_le_mul (show r + 1 ≤ r' by omega) (show r + 1 ≤ r' by omega) (by omega) g0
      omega
  have b : ¬ r' < r := fun hlt => by
    rcases g3 with h3 | h3
    · omega
    · have := Int.mul_le_mul (show r' + 1 ≤ r by omega) (show r' + 1 ≤ r by omega) (by omega) h0
      omega
  omega

/-- Farther than 2? -/
def farP (p q : Vc) : Prop := 17180131329 ≤ sqr (vsub p q)
instance (p q : Vc) : Decidable (farP p q) := inferInstanceAs (Decidable (_ ≤ _))
theorem root_far {p q : Vc} {r : Int} (h : isRoot (sqr (vsub p q)) r) : 131072 < r ↔ farP p q := by
  have := isRoot_gt h (k := 131072) (by decide) (by decide)
  unfold farP
  exact this

/-- Loading. -/
def carE (w : Wld) (P N : Int) : Int := if askE w P N = 0 then (if kRoom (uAt w N).kind = 0 then 7 else 0) else askE w P N
def moreE (x u : Unt) : Int := if 0 < kRoom u.kind then 7 else if farP u.pos x.pos then 8 else 0
def ldA (w : Wld) (P N id : Int) : Int := if askE w P id = 0 then moreE (uAt w N) (uAt w id) else askE w P id
def ldE (w : Wld) (c : Cmd) : Int := if carE w c.P c.N = 0 then (if allE (ldA w c.P c.N) c.U = 0 then (if kRoom (uAt w c.N).kind < ((inOf w.U c.N).length : Int) + (c.U.length : Int) then 4 else 0) else allE (ldA w c.P c.N) c.U) else carE w c.P c.N
def ldU (n : Int) (u : Unt) : Unt := { u with pos := (0, 0), goal := -1, next := -1, stuck := 0, inn := n, state := 0 }
def ldW (w : Wld) (c : Cmd) : Wld := { w with U := setU c.U (ldU c.N) w.U }

theorem ldA_zero {w : Wld} {P N id : Int} (h : ldA w P N id = 0) : askE w P id = 0 ∧ moreE (uAt w N) (uAt w id) = 0 := by
  unfold ldA at h
  by_cases e : askE w P id = 0
  · rw [if_pos e] at h; exact ⟨e, h⟩
  · rw [if_neg e] at h; exact absurd h e
theorem carE_zero {w : Wld} {P N : Int} (h : carE w P N = 0) : askE w P N = 0 ∧ kRoom (uAt w N).kind ≠ 0 := by
  unfold carE at h
  by_cases e : askE w P N = 0
  · rw [if_pos e] at h
    refine ⟨e, fun e2 => ?_⟩
    rw [if_pos e2] at h
    cases h
  · rw [if_neg e] at h; exact absurd h e

theorem inOf_room {w : Wld} (hm : mayP w) {i : Nat} (hi : i < w.U.length) (h0 : w.U[i].id ≠ 0) : ((inOf w.U w.U[i].id).length : Int) ≤ kRoom w.U[i].kind := by
  have hr : risesU w.U := hm.1.2.1
  cases hl : inOf w.U w.U[i].id with
  | nil => have := (kRoom_b w.U[i].kind).1; simpa using this
  | cons a l =>
    have ha : a ∈ inOf w.U w.U[i].id := by rw [hl]; simp
    unfold inOf at ha
    obtain ⟨u, hu, _⟩ := List.mem_map.1 ha
    obtain ⟨hu, he⟩ := List.mem_filter.1 hu
    have he : u.inn = w.U[i].id := by simpa using he
    obtain ⟨x, hx, e1, _, e3, _⟩ := hm.2.2 u hu (by rw [he]; exact h0)
    obtain ⟨k, hk, rfl⟩ := List.getElem_of_mem hx
    have hki : k = i := by
      by_cases h1 : k < i
      · have := risesU_lt' hr h1 hi; omega
      · by_cases h2 : i < k
        · have := risesU_lt' hr h2 hk; omega
        · omega
    subst hki
    rw [he, hl] at e3
    exact e3

/-- One bit below a number's bits. -/
theorem orL_u64 {n : Int} {q m : Nat} (h0 : 0 ≤ n) (h1 : n < 2 ^ m) (h2 : n + q * 2 ^ m < 18446744073709551616) : bitsOf .or .u64 (q * 2 ^ m) n = q * 2 ^ m + n := by
  obtain ⟨a, rfl⟩ := Int.eq_ofNat_of_zero_le h0
  have e : ((q : Int) * 2 ^ m) = ((q * 2 ^ m : Nat) : Int) := by simp
  have h1' : a < 2 ^ m := by exact_mod_cast h1
  rw [e] at h2 ⊢
  have h3 : a + q * 2 ^ m < 18446744073709551616 := by omega
  rw [(bitsOf_or64 (q * 2 ^ m) a (by omega) (by omega)).2, Nat.or_comm, nat_or a q m h1', wrap_u64 (by omega) (by omega)]
  simp
  omega
theorem shl1 {k : Nat} (hk : k ≤ 62) : IntKind.u64.wrap (1 * 2 ^ (min ((k : Int)).toNat IntKind.u64.bits)) = 2 ^ k := by
  have : (min ((k : Int)).toNat IntKind.u64.bits) = k := by
    show min ((k : Int)).toNat 64 = k
    omega
  rw [this, Int.one_mul]
  have h : (2 : Int) ^ k ≤ 2 ^ 62 := by exact_mod_cast Nat.pow_le_pow_right (by decide) hk
  have h0 : (0 : Int) < 2 ^ k := Int.pow_pos (by decide)
  have h2 : (2 : Int) ^ 62 = 4611686018427387904 := by decide
  exact wrap_u64 (by omega) (by omega)

/-- The road to a root: bits from k on are reckoned. -/
def rootUp (m r : Int) (k : Nat) : Prop := ∃ q : Nat, r = q * 2 ^ k ∧ r + 2 ^ k ≤ 9223372036854775808 ∧ r * r ≤ m ∧ (m < (r + 2 ^ k) * (r + 2 ^ k) ∨ r + 2 ^ k = 9223372036854775808)
theorem rootUp_start {m : Int} (hm : 0 ≤ m) : rootUp m 0 63 := ⟨0, by simp, by decide, by simpa using hm, .inr (by decide)⟩
theorem rootUp_end {m r : Int} (h : rootUp m r 0) : isRoot m r := by
  obtain ⟨q, e, h1, h2, h3⟩ := h
  have e1 : (2 : Int) ^ 0 = 1 := rfl
  rw [e1] at h1 h3 e
  exact ⟨by omega, by omega, h2, h3.symm.imp (fun h => by omega) id⟩
theorem rootUp_bit {m r : Int} {k : Nat} (h : rootUp m r (k + 1)) : bitsOf .or .u64 r (2 ^ k) = r + 2 ^ k ∧ 0 ≤ r ∧ (0 : Int) < 2 ^ k ∧ r + 2 ^ k < 9223372036854775808 := by
  obtain ⟨q, e, h1, h2, h3⟩ := h
  have h0 : (0 : Int) < 2 ^ k := Int.pow_pos (by decide)
  have e2 : (2 : Int) ^ (k + 1) = 2 * 2 ^ k := by rw [Int.pow_succ, Int.mul_comm]
  have hr : 0 ≤ r := by rw [e]; exact Int.mul_nonneg (by omega) (by omega)
  rw [e2] at h1
  refine ⟨?_, hr, h0, by omega⟩
  rw [e]
  refine orL_u64 (by omega) (by rw [e2]; omega) ?_
  rw [← e]; omega
theorem rootUp_no {m r : Int} {k : Nat} (h : rootUp m r (k + 1)) (hn : m < (r + 2 ^ k) * (r + 2 ^ k)) : rootUp m r k := by
  obtain ⟨q, e, h1, h2, h3⟩ := h
  have e2 : (2 : Int) ^ (k + 1) = 2 * 2 ^ k := by rw [Int.pow_succ, Int.mul_comm]
  have h0 : (0 : Int) < 2 ^ k := Int.pow_pos (by decide)
  rw [e2] at h1
  refine ⟨2 * q, ?_, by omega, h2, .inl hn⟩
  rw [e, e2]
  push_cast
  rw [← Int.mul_assoc, Int.mul_comm (q : Int) 2]
theorem rootUp_yes {m r : Int} {k : Nat} (h : rootUp m r (k + 1)) (hn : (r + 2 ^ k) * (r + 2 ^ k) ≤ m) : rootUp m (r + 2 ^ k) k := by
  obtain ⟨q, e, h1, h2, h3⟩ := h
  have e2 : (2 : Int) ^ (k + 1) = 2 * 2 ^ k := by rw [Int.pow_succ, Int.mul_comm]
  have h0 : (0 : Int) < 2 ^ k := Int.pow_pos (by decide)
  rw [e2] at h1 h3
  have e3 : r + 2 ^ k + 2 ^ k = r + 2 * 2 ^ k := by omega
  refine ⟨2 * q + 1, ?_, by omega, hn, by rw [e3]; exact h3⟩
  rw [e, e2]
  push_cast
  rw [Int.add_mul, Int.one_mul, ← Int.mul_assoc, Int.mul_comm (q : Int) 2]

/-- Halving. -/
def rootIn (m low high : Int) : Prop := 0 ≤ low ∧ low ≤ high ∧ high ≤ 9223372036854775807 ∧ low * low ≤ m ∧ (m < (high + 1) * (high + 1) ∨ high = 9223372036854775807)
theorem rootIn_start {m : Int} (hm : 0 ≤ m) : rootIn m 0 9223372036854775807 := ⟨by decide, by decide, by decide, by simpa using hm, .inr rfl⟩
theorem rootIn_end {m l h : Int} (hh : rootIn m l h) (h1 : ¬ l < h) : isRoot m l := by
  obtain ⟨g0, g1, g2, g3, g4⟩ := hh
  have : h = l := by omega
  subst this
  exact ⟨g0, g2, g3, g4.symm⟩
theorem rootIn_lo {m l h r : Int} (hh : rootIn m l h) (h1 : l < r) (h2 : r ≤ h) (h3 : r * r ≤ m) : rootIn m r h := by
  obtain ⟨g0, g1, g2, g3, g4⟩ := hh
  exact ⟨by omega, h2, g2, h3, g4⟩
theorem rootIn_hi {m l h r : Int} (hh : rootIn m l h) (h1 : l < r) (h2 : r ≤ h) (h3 : m < r * r) : rootIn m l (r - 1) := by
  obtain ⟨g0, g1, g2, g3, g4⟩ := hh
  exact ⟨g0, by omega, by omega, g3, .inl (by rw [Int.sub_add_cancel]; exact h3)⟩
end Go.V
namespace Go.Proofs
open Go Go.V
set_option linter.unusedVariables false
set_option linter.unusedSimpArgs false

theorem root_spec (m : Int) (hm : 0 ≤ m) (st : Store) (R : AV → Store → Prop) (h : ∀ r, isRoot m r → R (int r) st) : ACalls Tryz.prog 226 [.agg (wideC m)] st R := by
  refine ACalls.of_body (c := cfg 22) infoOK Tryz.func226 (by rfl) (by rfl) (by rfl) (by rfl) ?_
  refine AWp.loop (σ := Nat × Int) ⟨fun x => [(1, .bx 1 0), (3, .av (u64 x.2)), (4, .av (int ((x.1 : Int) - 1)))], fun _ => [(1, wideC m)],
    fun x st' => x.1 ≤ 63 ∧ st' = st ∧ rootUp m x.2 x.1, fun x => x.1⟩ infoOK ?_ ?_
  · exact ⟨(63, 0), trivial, ⟨Nat.le_refl _, rfl, rootUp_start hm⟩, ⟨LV.le_refl _, LV.le_refl _, LV.le_refl _, trivial⟩, ⟨rfl, trivial⟩⟩
  rintro ⟨k, r⟩ st' ⟨hk, rfl, hr⟩
  dsimp only at hk hr ⊢
  refine bcd (fun h1 => ?_) (fun h1 => ?_)
  rotate_left
  · have : k = 0 := by omega
    subst this
    have hi := rootUp_end hr
    have h2 := h r hi
    have hi0 := hi.1
    exact ⟨⟨by omega, hi.2.1⟩, ret h2⟩
  cases k with
  | zero => omega
  | succ k =>
    obtain ⟨e1, e2, e3, e4⟩ := rootUp_bit hr
    have e5 : ((k + 1 : Nat) : Int) - 1 = (k : Int) := by omega
    refine ⟨by omega, ?_⟩
    have e7 : bitsOf .or .u64 r (IntKind.u64.wrap (1 * 2 ^ (min (((k + 1 : Nat) : Int) - 1).toNat IntKind.u64.bits))) = r + 2 ^ k := by rw [e5, shl1 (by omega), e1]
    have e8 : ∀ X, X = r + 2 ^ k → 0 ≤ X ∧ X < 18446744073709551616 ∧ 0 ≤ X * X := fun X hX => by subst hX; exact ⟨by omega, by omega, Int.mul_nonneg (by omega) (by omega)⟩
    have e8 := e8 _ e7
    refine ADraw.of_sched infoOK (by rfl) (by rfl) sch226_6 (by rfl) ?_
    refine ⟨fsquare_spec _ e8.1 e8.2.1 _ _ ⟨(by repeat (first | exact trivial | refine ⟨rfl, ?_⟩ | refine ⟨optR (optR (optR (optK_intro _ (setObj_self _ _ _) rfl))), ?_⟩)), ?_⟩, trivial⟩
    refine ⟨below_spec m _ hm e8.2.2 _ _ ⟨(by repeat (first | exact trivial | refine ⟨rfl, ?_⟩ | refine ⟨optR (optR (optR (optK_intro _ (setObj_self _ _ _) rfl))), ?_⟩)), ?_⟩, trivial⟩
    have no := fun hh => rootUp_no hr hh
    have yes := fun hh => rootUp_yes hr hh
    rw [← e7] at no yes
    generalize bitsOf .or .u64 r (IntKind.u64.wrap (1 * 2 ^ (min (((k + 1 : Nat) : Int) - 1).toNat IntKind.u64.bits))) = X at *
    refine bcnot ?_
    refine bcd (fun c1 => ?_) (fun c1 => ?_)
    · refine ⟨by unfold InI64; omega, ?_⟩
      refine ⟨(k, r), ?_, ⟨by dsimp only; omega, rfl, no c1⟩, ⟨LV.le_refl _, LV.le_refl _, ?_, trivial⟩, ⟨rfl, trivial⟩⟩
      · show k < k + 1
        omega
      · rw [e5]; exact LV.le_refl _
    · refine ⟨by unfold InI64; omega, ?_⟩
      refine ⟨(k, X), ?_, ⟨by dsimp only; omega, rfl, yes (by omega)⟩, ⟨LV.le_refl _, LV.le_refl _, ?_, trivial⟩, ⟨rfl, trivial⟩⟩
      · show k < k + 1
        omega
      · rw [e5]; exact LV.le_refl _

theorem rroot_spec (m : Int) (hm : 0 ≤ m) (st : Store) (R : AV → Store → Prop) (h : ∀ r, isRoot m r → R (u64 r) st) : ACalls Tryz.prog 178 [.agg (wideC m), u64 9223372036854775807] st R := by
  refine ACalls.of_body (c := cfg 28) infoOK Tryz.func178 (by rfl) (by rfl) (by rfl) (by rfl) ?_
  refine AWp.loop (σ := Int × Int) ⟨fun x => [(2, .bx 2 0), (5, .av (u64 x.1)), (6, .av (u64 x.2))], fun _ => [(2, wideC m)],
    fun x st' => st' = st ∧ rootIn m x.1 x.2, fun x => (x.2 - x.1).toNat⟩ infoOK ?_ ?_
  · exact ⟨(0, 9223372036854775807), trivial, ⟨rfl, rootIn_start hm⟩, ⟨LV.le_refl _, LV.le_refl _, LV.le_refl _, trivial⟩, ⟨rfl, trivial⟩⟩
  rintro ⟨l, u⟩ st' ⟨rfl, hr⟩
  dsimp only at hr ⊢
  refine bcd (fun h1 => ?_) (fun h1 => ?_)
  rotate_left
  · exact ret (h l (rootIn_end hr h1))
  have b1 := hr.1
  have b2 := hr.2.2.1
  have w1 : IntKind.u64.wrap (u - l) = u - l := wrap_u64 (by omega) (by omega)
  have w2 : IntKind.u64.wrap (u - l + 1) = u - l + 1 := wrap_u64 (by omega) (by omega)
  have hd : 0 ≤ (u - l + 1) / 2 ∧ (u - l + 1) / 2 ≤ u - l ∧ 1 ≤ (u - l + 1) / 2 := by omega
  have w3 : IntKind.u64.wrap ((u - l + 1) / 2) = (u - l + 1) / 2 := wrap_u64 (by omega) (by omega)
  have w4 : IntKind.u64.wrap (l + (u - l + 1) / 2) = l + (u - l + 1) / 2 := wrap_u64 (by omega) (by omega)
  have wX : IntKind.u64.wrap (l + IntKind.u64.wrap ((IntKind.u64.wrap (IntKind.u64.wrap (u - l) + 1)).tdiv 2)) = l + (u - l + 1) / 2 := by
    rw [w1, w2, show (u - l + 1).tdiv 2 = (u - l + 1) / 2 from Int.tdiv_eq_ediv_of_nonneg (by omega), w3, w4]
  have e8 : ∀ X, X = l + (u - l + 1) / 2 → 0 ≤ X ∧ X < 18446744073709551616 ∧ 0 ≤ X * X ∧ l < X ∧ X ≤ u := fun X hX => by
    have h0 : 0 ≤ X := by omega
    exact ⟨h0, by omega, Int.mul_nonneg h0 h0, by omega, by omega⟩
  have e8 := e8 _ wX
  refine ⟨by decide, ?_⟩
  refine ADraw.of_sched infoOK (by rfl) (by rfl) sch178_4 (by rfl) ?_
  refine ⟨times_spec _ _ e8.1 e8.2.1 e8.1 e8.2.1 _ _ ⟨(by repeat (first | exact trivial | refine ⟨rfl, ?_⟩ | refine ⟨optR (optR (optR (optK_intro _ (setObj_self _ _ _) rfl))), ?_⟩)), ?_⟩, trivial⟩
  refine ⟨less_spec m _ hm e8.2.2.1 _ _ ⟨(by repeat (first | exact trivial | refine ⟨rfl, ?_⟩ | refine ⟨optR (optR (optR (optK_intro _ (setObj_self _ _ _) rfl))), ?_⟩)), ?_⟩, trivial⟩
  generalize IntKind.u64.wrap (l + IntKind.u64.wrap ((IntKind.u64.wrap (IntKind.u64.wrap (u - l) + 1)).tdiv 2)) = X at *
  refine bcd (fun c1 => ?_) (fun c1 => ?_)
  · have w5 : IntKind.u64.wrap (X - 1) = X - 1 := wrap_u64 (by omega) (by omega)
    refine ⟨(l, X - 1), ?_, ⟨rfl, rootIn_hi hr e8.2.2.2.1 e8.2.2.2.2 c1⟩, ⟨LV.le_refl _, LV.le_refl _, ?_, trivial⟩, ⟨rfl, trivial⟩⟩
    · show (X - 1 - l).toNat < (u - l).toNat
      omega
    · show LV.le (.av (u64 (IntKind.u64.wrap (X - 1)))) (.av (u64 (X - 1)))
      rw [w5]
      exact LV.le_refl _
  · refine ⟨(X, u), ?_, ⟨rfl, rootIn_lo hr e8.2.2.2.1 e8.2.2.2.2 (Int.not_lt.1 c1)⟩, ⟨LV.le_refl _, LV.le_refl _, LV.le_refl _, trivial⟩, ⟨rfl, trivial⟩⟩
    show (u - X).toNat < (u - l).toNat
    omega

theorem len_spec (v : Vc) (hv : v.ok) (st : Store) (R : AV → Store → Prop) (h : ∀ r, isRoot (sqr v) r → R (int r) st) : ACalls Tryz.prog 207 [.agg (vecC v)] st R := by
  have hb := sqr_b hv
  refine ACalls.of_body (c := cfg 6) infoOK Tryz.func207 (by rfl) (by rfl) (by rfl) (by rfl) ?_
  refine square_spec v hv _ _ ?_
  refine root_spec (sqr v) (by unfold sqr; omega) _ _ (fun r hr => ?_)
  exact ret (h r hr)

theorem rlen_spec (v : Vc) (hv : v.ok) (st : Store) (R : AV → Store → Prop) (h : ∀ r, isRoot (sqr v) r → R (int r) st) : ACalls Tryz.prog 130 [.agg (vecC v)] st R := by
  have hb := sqr_b hv
  refine ACalls.of_body (c := cfg 7) infoOK Tryz.func130 (by rfl) (by rfl) (by rfl) (by rfl) ?_
  refine rsquares_spec v hv _ _ ?_
  refine rroot_spec (sqr v) (by unfold sqr; omega) _ _ (fun r hr => ?_)
  have h0 := hr.1
  exact ⟨⟨by omega, hr.2.1⟩, ret (h r hr)⟩

theorem far_spec (p q : Vc) (hp : p.ok) (hq : q.ok) (st : Store) (R : AV → Store → Prop) (h : R (V.bool (decide (farP p q))) st) : ACalls Tryz.prog 173 [.agg (vecC p), .agg (vecC q)] st R := by
  refine ACalls.of_body (c := cfg 10) infoOK Tryz.func173 (by rfl) (by rfl) (by rfl) (by rfl) ?_
  refine vsub_spec p q hp hq _ _ ?_
  refine len_spec _ (vsub_ok p q) _ _ (fun r hr => ?_)
  refine ret ?_
  rw [show decide (farP p q) = decide (131072 < r) from by rw [Bool.eq_iff_iff]; simp only [decide_eq_true_eq]; exact (root_far hr).symm] at h
  exact h

theorem rfar_spec (p q : Vc) (hp : p.ok) (hq : q.ok) (st : Store) (R : AV → Store → Prop) (h : R (V.bool (decide (farP p q))) st) : ACalls Tryz.prog 92 [.agg (vecC p), .agg (vecC q)] st R := by
  refine ACalls.of_body (c := cfg 10) infoOK Tryz.func92 (by rfl) (by rfl) (by rfl) (by rfl) ?_
  refine rvsub_spec p q hp hq _ _ ?_
  refine rlen_spec _ (vsub_ok p q) _ _ (fun r hr => ?_)
  refine ret ?_
  rw [show decide (farP p q) = decide (131072 < r) from by rw [Bool.eq_iff_iff]; simp only [decide_eq_true_eq]; exact (root_far hr).symm] at h
  exact h
end Go.Proofs
namespace Go.Proofs
open Go Go.V
set_option linter.unusedVariables false
set_option linter.unusedSimpArgs false

theorem findU_at {l : List Unt} (hr : risesU l) {id : Int} {i : Nat} {z : Bool} (h : z = true ↔ ∃ hi : i < l.length, l[i].id = id) (hat : isAt l id i) : (z = true → findU l id = some i) ∧ (z = false → findU l id = none) := by
  refine ⟨fun hz => ?_, fun hz => ?_⟩
  · obtain ⟨hi, e⟩ := h.1 hz
    exact findU_mk hr hi e
  · cases hf : findU l id with
    | none => rfl
    | some k =>
      obtain ⟨hk, e⟩ := findU_some hf
      have hno : ¬ ∃ hi : i < l.length, l[i].id = id := fun hh => by rw [h.2 hh] at hz; cases hz
      by_cases h1 : k < i
      · have := hat.2.1 k hk h1; omega
      · have hil : i < l.length := by omega
        have := hat.2.2 i hil (Nat.le_refl _)
        by_cases h2 : i < k
        · have := risesU_lt hr h2 hk; omega
        · have e3 : k = i := by omega
          subst e3
          exact absurd ⟨hk, e⟩ hno

/-- A place of work, as it is read. -/
structure AtW (S : Store) (xw s p : Nat) (w : Wld) (v o0 o1 o2 : AV) (c : Cmd) (fv : AV) : Prop where
  hx : S.obj xw = some (.cells (wkC s c fv))
  hs : S.obj s = some (.cells (svC w v o0 o1 o2 p))
  hr : RowsQ 10 untC S v w.U

theorem ask_spec {S : Store} {xw s p : Nat} {w : Wld} {v o0 o1 o2 : AV} {c : Cmd} {fv : AV} (ha : AtW S xw s p w v o0 o1 o2 c fv) (hr : risesU w.U) (hU : w.U.length ≤ 1000000) (id : Int) (R : AV → Store → Prop) (h : R (.tup [.agg (untC (uAt w id)), int (askE w c.P id)]) S) : ACalls Tryz.prog 201 [ptr xw, int id] S R := by
  obtain ⟨hx, hs, hv⟩ := ha
  obtain ⟨oa, cap, e, hget⟩ := hv.form
  subst e
  refine ACalls.of_body (c := cfg 52) infoOK Tryz.func201 (by rfl) (by rfl) (by rfl) (by rfl) ?_
  refine optK_intro (o := S.obj xw) _ hx ?_
  refine optK_intro (o := S.obj s) _ hs ?_
  refine atR_spec hv (by omega) hr id _ (fun i hi z hz => ?_)
  obtain ⟨g1, g2⟩ := findU_at hr hz hi
  cases z with
  | false =>
    obtain ⟨e1, e2⟩ := askE_none (w := w) (P := c.P) (g2 rfl)
    rw [e1, e2] at h
    exact ret h
  | true =>
    obtain ⟨hil, hid⟩ := hz.1 rfl
    obtain ⟨_, _, e2⟩ := uAt_some (w := w) (g1 rfl)
    rw [e2, askE_some (P := c.P) (g1 rfl) hil] at h
    refine optK_intro (o := S.obj xw) _ hx ?_
    refine optK_intro (o := S.obj s) _ hs ?_
    obtain ⟨b, J, rfl, hob⟩ := hget i hil
    refine ⟨i, rfl, hil, ?_⟩
    refine optK_intro (o := S.obj b) _ hob ?_
    refine partK_row (i := ti50) (row := untC w.U[i]) rfl rfl (rows_drop untC_len hil) ?_
    refine ADraw.of_sched infoOK (by rfl) (by rfl) sch201_5 (by rfl) ?_
    refine optK_intro (o := S.obj xw) _ hx ?_
    refine ⟨⟨(by repeat (first | exact trivial | refine ⟨rfl, ?_⟩ | refine ⟨optR (optR (optR (optK_intro _ (setObj_self _ _ _) rfl))), ?_⟩)), ?_⟩, trivial⟩
    refine bcne (fun c1 => ?_) (fun c1 => ?_)
    · rw [if_neg c1] at h
      exact ret h
    rw [if_pos c1] at h
    refine bcne (fun c2 => ?_) (fun c2 => ?_)
    · rw [if_neg c2] at h
      exact ret h
    · rw [if_pos c2] at h
      exact ret h

theorem all_nil {S : Store} {xw s p : Nat} {w : Wld} {v o0 o1 o2 : AV} {c : Cmd} {fv : AV} (ha : AtW S xw s p w v o0 o1 o2 c fv) (hr : risesU w.U) (hU : w.U.length ≤ 1000000) (hc : c.U.length ≤ 1000000) (R : AV → Store → Prop)
    (h : allE (askE w c.P) c.U = 0 → R (.tup [lst 10 untC (c.U.map (uAt w)), int 0]) S) (h' : allE (askE w c.P) c.U ≠ 0 → R (.tup [.s (.slice none 0 0), int (allE (askE w c.P) c.U)]) S) : ACalls Tryz.prog 163 [ptr xw, .s .nilFunc] S R := by
  refine ACalls.of_body (c := cfg 44) infoOK Tryz.func163 (by rfl) (by rfl) (by rfl) (by rfl) ?_
  refine optK_intro (o := S.obj xw) _ ha.hx ?_
  refine AWp.loop (σ := Nat × AV) ⟨fun x => [(0, .av (ptr xw)), (1, .av (.s .nilFunc)), (4, .av x.2), (14, .av (ints c.U)), (15, .av (int (c.U.length : Nat))), (16, .av (int (x.1 : Nat)))], fun _ => [],
    fun x st' => x.1 ≤ c.U.length ∧ App 10 S x.2 (rws untC ((c.U.take x.1).map (uAt w))) st' ∧ ∀ j, (hj : j < c.U.length) → j < x.1 → askE w c.P c.U[j] = 0, fun x => c.U.length - x.1⟩ infoOK ?_ ?_
  · refine ⟨(0, _), trivial, ⟨Nat.zero_le _, App.start 10 S, fun j _ hj => by omega⟩, ⟨LV.le_refl _, LV.le_refl _, LV.le_refl _, LV.le_refl _, ?_, LV.le_refl _, trivial⟩, trivial⟩
    rw [← rws_len (f := intC) c.U]; exact LV.le_refl _
  rintro ⟨i, v2⟩ st' ⟨hi, hap, hall⟩
  dsimp only at hi hap hall ⊢
  refine bcd (fun h1 => ?_) (fun h1 => ?_)
  rotate_left
  · have : i = c.U.length := by omega
    subst this
    rw [List.take_length] at hap
    exact ⟨_, _, AV.le_tupL (xs := [v2, int 0]) (ys := [lst 10 untC (c.U.map (uAt w)), int 0]) ⟨AV.le_trans hap.le (AV.le_refl _), AV.le_refl _, trivial⟩, hap.has, h (allE_none fun j hj => hall j hj hj)⟩
  have hlt : i < c.U.length := by omega
  have ha' : AtW st' xw s p w v o0 o1 o2 c fv := ⟨by rw [hap.obj]; exact ha.hx, by rw [hap.obj]; exact ha.hs, ha.hr.sub fun _ _ _ _ => by rw [hap.obj]⟩
  refine ⟨i, rfl, optK_intro _ (rws_get hlt) ?_⟩
  refine ask_spec ha' hr hU c.U[i] _ ?_
  refine bceq (fun c1 => ?_) (fun c1 => ?_)
  rotate_left
  · refine bcne (fun c2 => ?_) (fun c2 => absurd c2 c1)
    have e := allE_some hlt hall c1
    have := h' (by rw [e]; exact c1)
    rw [e] at this
    exact ⟨_, _, AV.le_refl _, hap.has, this⟩
  refine bcne (fun c2 => absurd c1 c2) (fun c2 => ?_)
  refine ⟨by decide, ?_⟩
  refine appendK_app (ie := ti50) (rows' := [untC (uAt w c.U[i])]) hap ?_ ?_ ⟨?_, ?_⟩ (fun v3 st3 ha3 => ?_)
  · rfl
  · rfl
  · simp only [rws_len, List.length_map, List.length_take, List.length_singleton, ti50]; omega
  · simp only [rws_len, List.length_map, List.length_take, List.length_singleton]; omega
  refine in64 (by omega) ?_
  refine ⟨(i + 1, v3), ?_, ⟨by dsimp only; omega, ?_, fun j hj hji => ?_⟩, ⟨LV.le_refl _, LV.le_refl _, LV.le_refl _, LV.le_refl _, LV.le_refl _, LV.le_refl _, trivial⟩, trivial⟩
  · show c.U.length - (i + 1) < c.U.length - i
    omega
  · dsimp only
    rw [List.take_succ_eq_append_getElem hlt, List.map_append]
    unfold rws at ha3 ⊢
    rw [List.map_append]
    exact ha3
  · by_cases e : j = i
    · subst e; exact c1
    · exact hall j hj (by dsimp only at hji; omega)

theorem put_spec {F G : Store} {s p : Nat} {w : Wld} {v : AV} {L : List Ent} {o0 o1 o2 : AV} (hS : StandR F G s p w v L o0 o1 o2) (hos : offB v s) (hr : risesU w.U) (hU : w.U.length ≤ 1000000) (hL : L.length ≤ 1000000) (hok : ∀ e ∈ L, e.2.ok) {i : Nat} (hi : i < w.U.length) (u : Unt) (hid : w.U[i].id = u.id) (hp : u.pos.ok) (R : AV → Store → Prop)
    (h : ∀ F' G' L', StandR F' G' s p { w with U := w.U.set i u } v L' o0 o1 o2 → (∀ q, offB v q → G'.obj q = G.obj q) → L'.length ≤ L.length + 1 → (∀ e ∈ L', e.2.ok) → R (.tup []) (F'.un (svS G' s { w with U := w.U.set i u } v o0 o1 o2 p))) :
    ACalls Tryz.prog 165 [ptr s, .agg (untC u)] (F.un (svS G s w v o0 o1 o2 p)) R := by
  have hrow : RowsQ 10 untC (F.un (svS G s w v o0 o1 o2 p)) v w.U := (svS_rows hS.hs hS.hu).un
  have hs0 : (F.un (svS G s w v o0 o1 o2 p)).obj s = some (.cells (svC w v o0 o1 o2 p)) := un_r (svS_obj _ _ _ _ _ _ _ _)
  rcases hS.hu with (⟨_, hl0⟩ | ⟨b, cap, J, rfl, ho, hc1, hc2, hc3⟩) | ⟨_, _, _, hl0⟩
  · rw [hl0] at hi; exact absurd hi (Nat.not_lt_zero i)
  rotate_left
  · rw [hl0] at hi; exact absurd hi (Nat.not_lt_zero i)
  have hbs : b ≠ s := hos b _ _ rfl (by omega)
  have hob : (F.un (svS G s w (.s (.slice (some ⟨b, 0, none⟩) w.U.length cap)) o0 o1 o2 p)).obj b = some (.cells ((rws untC w.U).flatten ++ J)) := un_r (by
    show (G.setObj s _).obj b = _
    rw [setObj_ne hbs]; exact ho)
  refine ACalls.of_body (c := cfg 44) infoOK Tryz.func165 (by rfl) (by rfl) (by rfl) (by rfl) ?_
  refine ADraw.of_sched infoOK (by rfl) (by rfl) sch165_1 (by rfl) ?_
  refine optK_intro (o := (F.un (svS G s w _ o0 o1 o2 p)).obj s) _ hs0 ?_
  refine ⟨atR_spec hrow (by omega) hr u.id _ (fun k hk z hz => ⟨(by repeat (first | exact trivial | refine ⟨rfl, ?_⟩ | refine ⟨optR (optR (optR (optK_intro _ (setObj_self _ _ _) rfl))), ?_⟩)), ?_⟩), trivial⟩
  have hki : k = i := by
    by_cases h1 : k < i
    · have := hk.2.2 k (by omega) (Nat.le_refl _)
      have := risesU_lt hr h1 hi
      omega
    · by_cases h2 : i < k
      · have := hk.2.1 i hi h2; omega
      · omega
  subst hki
  refine ⟨⟨trivial, ?_⟩, trivial⟩
  refine ⟨⟨trivial, ?_⟩, trivial⟩
  refine ADraw.of_sched infoOK (by rfl) (by rfl) sch165_2 (by rfl) ?_
  refine optK_intro (o := (F.un (svS G s w _ o0 o1 o2 p)).obj s) _ hs0 ?_
  refine ⟨k, rfl, hi, ?_⟩
  refine ⟨?_, trivial⟩
  refine optK_intro _ rfl (guardK_none rfl (vcOp_store (v := .agg (untC u)) rfl rfl rfl rfl ?_))
  refine storeK_objL (i := ti50) (v := .agg (untC u)) (xs := untC u) (b := b) (o := 0 + k * 10) (l := (rws untC w.U).flatten ++ J) rfl rfl rfl hob (by rw [List.length_append, rws_flat_len untC_len, untC_len]; omega) ?_
  have e0 : (F.un (svS G s w (.s (.slice (some ⟨b, 0, none⟩) w.U.length cap)) o0 o1 o2 p)).setObj b (.cells (splice ((rws untC w.U).flatten ++ J) (0 + k * 10) (untC u))) = F.un (svS (G.setObj b (.cells ((rws untC (w.U.set k u)).flatten ++ J))) s { w with U := w.U.set k u } (.s (.slice (some ⟨b, 0, none⟩) w.U.length cap)) o0 o1 o2 p) := by
    rw [Nat.zero_add, rows_set untC_len hi u J, un_setObj]
    unfold svS
    rw [setObj_comm hbs]
    rfl
  rw [e0]
  have hG : ∀ q, q ≠ b → (G.setObj b (.cells ((rws untC (w.U.set k u)).flatten ++ J))).obj q = G.obj q := fun q hq => setObj_ne hq
  have hS' : StandR F (G.setObj b (.cells ((rws untC (w.U.set k u)).flatten ++ J))) s p { w with U := w.U.set k u } (.s (.slice (some ⟨b, 0, none⟩) w.U.length cap)) L o0 o1 o2 := by
    refine ⟨hS.hc, fun j h1 h2 => hS.hd j h1 (svS_has.2 ?_), ?_, .inl (.inr ⟨b, cap, J, by rw [List.length_set], setObj_self _ _ _, by rw [List.length_set]; exact hc1, by rw [List.length_set]; exact hc2, hc3⟩), hS.h0, hS.h1, hS.h2⟩
    · rcases svS_has.1 h2 with h2 | h2
      · exact .inl h2
      · rcases has_setObj_iff.1 h2 with rfl | h2
        · exact .inr (has_obj ho)
        · exact .inr h2
    · rw [hG s (Ne.symm hbs)]; exact hS.hs
  have hoffG : ∀ q, offB (.s (.slice (some ⟨b, 0, none⟩) w.U.length cap)) q → (G.setObj b (.cells ((rws untC (w.U.set k u)).flatten ++ J))).obj q = G.obj q := fun q hq => hG q (Ne.symm (hq b _ _ rfl (by omega)))
  generalize G.setObj b _ = G1 at hS' hoffG ⊢
  have hs1 : (F.un (svS G1 s { w with U := w.U.set k u } (.s (.slice (some ⟨b, 0, none⟩) w.U.length cap)) o0 o1 o2 p)).obj s = some (.cells (svC w (.s (.slice (some ⟨b, 0, none⟩) w.U.length cap)) o0 o1 o2 p)) := un_r (svS_obj _ _ _ _ _ _ _ _)
  refine ⟨trivial, ?_⟩
  refine bceq (fun c1 => ?_) (fun c1 => ?_)
  · refine ADraw.of_sched infoOK (by rfl) (by rfl) sch165_4 (by rfl) ?_
    refine optK_intro (o := (F.un (svS G1 s _ _ o0 o1 o2 p)).obj s) _ hs1 ?_
    refine ⟨cPutF hS'.hc hS'.hd (by omega) hok u.id u.pos hp _ (fun F2 h2 h3 => ⟨trivial, ?_⟩), trivial⟩
    refine ret (h F2 G1 _ ⟨h2, h3, hS'.hs, hS'.hu, hS'.h0, hS'.h1, hS'.h2⟩ hoffG ?_ fun e he => ?_)
    · rw [List.length_append]
      have : (dropId L u.id).length ≤ L.length := List.length_filter_le _ _
      simp only [List.length_singleton]; omega
    · rcases List.mem_append.1 he with he | he
      · exact hok e (mem_dropId.1 he).1
      · simp at he; subst he; exact hp
  · refine ADraw.of_sched infoOK (by rfl) (by rfl) sch165_5 (by rfl) ?_
    refine optK_intro (o := (F.un (svS G1 s _ _ o0 o1 o2 p)).obj s) _ hs1 ?_
    refine ⟨cRemoveF hS'.hc hS'.hd (by omega) hok u.id _ (fun F2 h2 h3 => ⟨trivial, ?_⟩), trivial⟩
    refine ret (h F2 G1 _ ⟨h2, h3, hS'.hs, hS'.hu, hS'.h0, hS'.h1, hS'.h2⟩ hoffG ?_ fun e he => hok e (mem_dropId.1 he).1)
    have : (dropId L u.id).length ≤ L.length := List.length_filter_le _ _
    omega
end Go.Proofs
namespace Go.Proofs
open Go Go.V
set_option linter.unusedVariables false
set_option linter.unusedSimpArgs false

theorem setW_set {w : Wld} {l : List Int} {g : Unt → Unt} (hr : risesU w.U) {i : Nat} (hi : i < w.U.length) : ({ ({ w with U := setU l g w.U } : Wld) with U := (setU l g w.U).set i (g w.U[i]) } : Wld) = { w with U := setU (l ++ [w.U[i].id]) g w.U } := by
  rw [setU_set hr hi]

set_option maxHeartbeats 1000000 in
theorem wstop_spec {F G : Store} {xw s p : Nat} {w : Wld} {v : AV} {L : List Ent} {o0 o1 o2 : AV} {c : Cmd} {fv : AV} (hW : Work F G xw s p w v L o0 o1 o2 c fv) (hm : MayF w) (hn : ∀ u ∈ w.U, u.pos.ok) (hc : c.U.length ≤ 64) (R : AV → Store → Prop)
    (h : ∀ S', stE w c ≠ 0 → R (int (stE w c)) S') (h0 : stE w c = 0 → ∀ S', Done S' xw s c fv (stW w c) → R (int 0) S') : ACalls Tryz.prog 120 [ptr xw] (F.un (svS G s w v o0 o1 o2 p)) R := by
  have hU := hm.hU
  have hLl := hW.hL
  refine ACalls.of_body (c := cfg 27) infoOK Tryz.func120 (by rfl) (by rfl) (by rfl) (by rfl) ?_
  refine all_nil ⟨hW.x, hW.s, hW.r⟩ hm.hr (by omega) (by omega) _ (fun he => ?_) (fun he => ?_)
  rotate_left
  · refine AWp.loop (σ := Unit) ⟨fun x => [(4, .av (int (stE w c))), (13, .av (int 0)), (14, .av (int 0))], fun _ => [], fun x st' => True, fun x => 0⟩ infoOK ?_ ?_
    · exact ⟨(), trivial, trivial, ⟨LV.le_refl _, LV.le_refl _, LV.le_refl _, trivial⟩, trivial⟩
    rintro ⟨⟩ st' _
    exact ret (h _ he)
  have hzero := allE_zero he
  have hhe : stE w c = 0 := he
  refine AWp.loop (σ := Nat × Store × Store × List Ent) ⟨fun x => [(0, .av (ptr xw)), (4, .av (int 0)), (12, .av (lst 10 untC (c.U.map (uAt w)))), (13, .av (int (c.U.length : Nat))), (14, .av (int (x.1 : Nat)))], fun _ => [],
    fun x st' => x.1 ≤ c.U.length ∧ st' = x.2.1.un (svS x.2.2.1 s { w with U := setU (c.U.take x.1) rstU w.U } v o0 o1 o2 p) ∧ StandR x.2.1 x.2.2.1 s p { w with U := setU (c.U.take x.1) rstU w.U } v x.2.2.2 o0 o1 o2 ∧ (∀ q, offB v q → x.2.2.1.obj q = G.obj q) ∧ x.2.2.2.length ≤ L.length + x.1 ∧ ∀ e ∈ x.2.2.2, e.2.ok, fun x => c.U.length - x.1⟩ infoOK ?_ ?_
  · refine ⟨(0, F, G, L), trivial, ⟨Nat.zero_le _, ?_, ?_, fun _ _ => rfl, by dsimp only; omega, onField_ok hW.hF hn⟩, ⟨LV.le_refl _, LV.le_refl _, LV.le_refl _, ?_, LV.le_refl _, trivial⟩, trivial⟩
    · dsimp only
      rw [List.take_zero, setU_nil]
    · dsimp only
      rw [List.take_zero, setU_nil]
      exact hW.S
    · have e : (c.U.length : Int) = ((rws untC (c.U.map (uAt w))).length : Int) := by rw [rws_len, List.length_map]
      rw [e]; exact LV.le_refl _
  rintro ⟨k, F1, G1, L1⟩ st' ⟨hk, rfl, hS, hG, hL, hok⟩
  dsimp only at hk hS hG hL hok ⊢
  have hx : (F1.un (svS G1 s { w with U := setU (c.U.take k) rstU w.U } v o0 o1 o2 p)).obj xw = some (.cells (wkC s c fv)) := un_r (by
    show (G1.setObj s _).obj xw = _
    rw [setObj_ne hW.ne, hG xw hW.ox]
    exact hW.hx)
  refine bcd (fun h1 => ?_) (fun h1 => ?_)
  rotate_left
  · have : k = c.U.length := by omega
    subst this
    rw [List.take_length] at hS hx ⊢
    exact ret (h0 hhe _ ⟨v, o0, o1, o2, p, hx, un_r (svS_obj _ _ _ _ _ _ _ _), (svS_rows hS.hs hS.hu).un⟩)
  have hlt : k < c.U.length := by omega
  obtain ⟨i, hi, hf, hid, hu, how, hin⟩ := askE_zero (hzero c.U[k] (List.getElem_mem hlt))
  have hlm : k < (c.U.map (uAt w)).length := by rw [List.length_map]; exact hlt
  refine ⟨k, rfl, optK_intro _ (rws_get hlm) ?_⟩
  have hgm : (c.U.map (uAt w))[k] = w.U[i] := by rw [List.getElem_map, hu]
  rw [hgm]
  refine ADraw.of_sched infoOK (by rfl) (by rfl) sch120_5 (by rfl) ?_
  refine optK_intro (o := (F1.un (svS G1 s _ v o0 o1 o2 p)).obj xw) _ hx ?_
  refine ⟨rest_spec w.U[i] _ _ ⟨(by repeat (first | exact trivial | refine ⟨rfl, ?_⟩ | refine ⟨optK_intro (o := (F1.un (svS G1 s _ v o0 o1 o2 p)).obj xw) _ hx rfl, ?_⟩)), ?_⟩, trivial⟩
  have hi2 : i < (setU (c.U.take k) rstU w.U).length := by rw [setU_len]; exact hi
  refine ⟨put_spec hS hW.os (setU_rises (g := rstU) (fun _ => rfl) hm.hr) (by rw [setU_len]; omega) (by omega) hok hi2 (rstU w.U[i]) (setU_id (g := rstU) (fun _ => rfl) hi) (hn w.U[i] (List.getElem_mem hi)) _ (fun F2 G2 L2 g1 g2 g3 g4 => ⟨trivial, ?_⟩), trivial⟩
  have e5 : c.U.take k ++ [w.U[i].id] = c.U.take (k + 1) := by rw [List.take_succ_eq_append_getElem hlt, hid]
  dsimp only at g1 ⊢
  rw [setU_set hm.hr hi, e5] at g1 ⊢
  refine in64 (by omega) ?_
  refine ⟨(k + 1, F2, G2, L2), ?_, ⟨by dsimp only; omega, rfl, g1, fun q hq => (g2 q hq).trans (hG q hq), by dsimp only; omega, g4⟩, ⟨LV.le_refl _, LV.le_refl _, LV.le_refl _, LV.le_refl _, LV.le_refl _, trivial⟩, trivial⟩
  show c.U.length - (k + 1) < c.U.length - k
  omega

theorem does3 : DoesOK 3 stE stW := by
  intro F G xw s p w v L o0 o1 o2 c hW hm hn hc hp hk R h h0
  have hx := hW.x (F' := F) (q0 := o0) (q1 := o1) (q2 := o2)
  have hok := (Cmd.ok3 hk).1 hc.1
  refine ACalls.of_body (c := cfg 34) infoOK Tryz.func79 (by rfl) (by rfl) (by rfl) (by rfl) ?_
  refine optK_intro (o := (F.un (svS G s w v o0 o1 o2 p)).obj xw) _ hx ?_
  refine bceq (fun c1 => absurd (hk.symm.trans c1) (by decide)) (fun _ => ?_)
  refine bceq (fun c1 => absurd (hk.symm.trans c1) (by decide)) (fun _ => ?_)
  refine bceq (fun _ => ?_) (fun c1 => absurd hk c1)
  refine wstop_spec hW (mayF hm) hn hok.1.2 _ (fun S' he => ret (h S' he)) (fun he S' hd => ret (h0 he S' hd))
end Go.Proofs
namespace Go.Proofs
open Go Go.V
set_option linter.unusedVariables false
set_option linter.unusedSimpArgs false

theorem rfindU_spec (w : Wld) (hU : w.U.length ≤ 1000000) (id : Int) (st : Store) (R : AV → Store → Prop) (h : R (int (idxI (findU w.U id))) st) : ACalls Tryz.prog 40 [.agg (wldC w), int id] st R := rfind_spec w hU id st R h
theorem rfindQ_spec {S : Store} {w : Wld} {v : AV} (hv : RowsQ 10 untC S v w.U) (hU : w.U.length ≤ 1000000) (id : Int) (R : AV → Store → Prop) (h : R (int (idxI (findU w.U id))) S) : ACalls Tryz.prog 40 [.agg (wldV w v), int id] S R :=
  ACalls.read (ys := [.agg (wldC w), int id]) (Q := fun r => r = int (idxI (findU w.U id))) (fun Oth M W vs sto hr => by
    obtain ⟨x, y, rfl, h1, h2⟩ := reads2 hr
    exact Reads.cons (wldQ_borrow hv sto h1) (Reads.cons (mono_borrow h2) Reads.nil)) (rfindU_spec w hU id _ _ rfl) (fun r hr => hr ▸ flat_s _) (fun r hr => hr ▸ h)

theorem rasked_spec (w : Wld) (hU : w.U.length ≤ 1000000) (P id : Int) (st : Store) (R : AV → Store → Prop) (h : R (int (askE w P id)) st) : ACalls Tryz.prog 86 [.agg (wldC w), int P, int id] st R := by
  refine ACalls.of_body (c := cfg 28) infoOK Tryz.func86 (by rfl) (by rfl) (by rfl) (by rfl) ?_
  refine rfindU_spec w hU id _ _ ?_
  refine bcd (fun c1 => ?_) (fun c1 => ?_)
  · cases hf : findU w.U id with
    | none =>
      rw [(askE_none (P := P) hf).1] at h
      exact ret h
    | some i => rw [hf] at c1; exact absurd c1 (by show ¬ ((i : Int) < 0); omega)
  cases hf : findU w.U id with
  | none => rw [hf] at c1; exact absurd (show (-1 : Int) < 0 by decide) c1
  | some i =>
    obtain ⟨hi, e, e2⟩ := uAt_some hf
    rw [askE_some (P := P) hf hi] at h
    refine ⟨i, rfl, optK_intro _ (rws_get hi) ?_⟩
    refine bcne (fun c2 => ?_) (fun c2 => ?_)
    · rw [if_neg c2] at h
      exact ret h
    rw [if_pos c2] at h
    refine ⟨i, rfl, optK_intro _ (rws_get hi) ?_⟩
    refine bcne (fun c3 => ?_) (fun c3 => ?_)
    · rw [if_neg c3] at h
      exact ret h
    · rw [if_pos c3] at h
      exact ret h

theorem rall_spec (w : Wld) (hU : w.U.length ≤ 1000000) (c : Cmd) (hc : c.U.length ≤ 1000000) (st : Store) (R : AV → Store → Prop) (h : R (int (allE (askE w c.P) c.U)) st) : ACalls Tryz.prog 54 [.agg (wldC w), .agg (cmdC c)] st R := by
  refine ACalls.of_body (c := cfg 26) infoOK Tryz.func54 (by rfl) (by rfl) (by rfl) (by rfl) ?_
  refine AWp.loop (σ := Nat) ⟨fun i => [(2, .bx 2 0), (3, .bx 3 0), (5, .av (int (i : Nat)))], fun _ => [(2, wldC w), (3, cmdC c)],
    fun i st' => i ≤ c.U.length ∧ st' = st ∧ ∀ j, (hj : j < c.U.length) → j < i → askE w c.P c.U[j] = 0, fun i => c.U.length - i⟩ infoOK ?_ ?_
  · exact ⟨0, trivial, ⟨Nat.zero_le _, rfl, fun j _ hj => by omega⟩, ⟨LV.le_refl _, LV.le_refl _, LV.le_refl _, trivial⟩, ⟨rfl, rfl, trivial⟩⟩
  rintro i st' ⟨hi, rfl, hall⟩
  refine bcase_intro (fun h1 => ?_) (fun h1 => ?_)
  rotate_left
  · have : i = c.U.length := ge_len h1 hi
    subst this
    rw [allE_none fun j hj => hall j hj hj] at h
    exact ret h
  have hlt := lt_len h1
  refine ADraw.of_sched infoOK (by rfl) (by rfl) sch54_4 (by rfl) ?_
  refine ⟨i, rfl, optK_intro _ (rws_get hlt) ?_⟩
  refine ⟨rasked_spec w hU c.P c.U[i] _ _ ⟨trivial, ?_⟩, trivial⟩
  refine ⟨⟨trivial, ?_⟩, trivial⟩
  refine bcne (fun c1 => ?_) (fun c1 => ?_)
  · rw [allE_some hlt hall c1] at h
    exact ret h
  refine in64 (by omega) ?_
  refine ⟨i + 1, ?_, ⟨by omega, rfl, fun j hj hji => ?_⟩, ⟨LV.le_refl _, LV.le_refl _, LV.le_refl _, trivial⟩, ⟨rfl, rfl, trivial⟩⟩
  · show c.U.length - (i + 1) < c.U.length - i
    omega
  · by_cases e : j = i
    · subst e; exact c1
    · exact hall j hj (by omega)

theorem rallQ_spec {S : Store} {w : Wld} {v : AV} (hv : RowsQ 10 untC S v w.U) (hU : w.U.length ≤ 1000000) (c : Cmd) (hc : c.U.length ≤ 1000000) (R : AV → Store → Prop) (h : R (int (allE (askE w c.P) c.U)) S) : ACalls Tryz.prog 54 [.agg (wldV w v), .agg (cmdC c)] S R :=
  ACalls.read (ys := [.agg (wldC w), .agg (cmdC c)]) (Q := fun r => r = int (allE (askE w c.P) c.U)) (fun Oth M W vs sto hr => by
    obtain ⟨x, y, rfl, h1, h2⟩ := reads2 hr
    exact Reads.cons (wldQ_borrow hv sto h1) (Reads.cons (mono_borrow h2) Reads.nil)) (rall_spec w hU c hc _ _ rfl) (fun r hr => hr ▸ flat_s _) (fun r hr => hr ▸ h)

theorem fld_set {S : Store} {b i j : Nat} {U : List Unt} {J : List AV} {x' : Unt} {y : AV} (ho : S.obj b = some (.cells ((rws untC U).flatten ++ J))) (hi : i < U.length) (hj : j + 1 ≤ 10) (hx : untC x' = splice (untC U[i]) j [y]) : (S.setObj b (.cells (splice ((rws untC U).flatten ++ J) (0 + i * 10 + j) [y]))).obj b = some (.cells ((rws untC (U.set i x')).flatten ++ J)) := by
  rw [setObj_self, Nat.zero_add, splice_rows (f := untC) (k := 10) (x' := x') untC_len hi hj hx]

def zerW0 : List AV := [int 0, int 0, int 0, int 0, int 0, .s (.slice none 0 0), .s (.slice none 0 0), .s (.slice none 0 0)]
theorem findU_set {l : List Int} {g : Unt → Unt} (hg : ∀ u, (g u).id = u.id) (U : List Unt) (id : Int) : findU (setU l g U) id = findU U id := by
  unfold findU setU
  rw [List.findIdx?_map]
  congr 1
  funext u
  simp only [Function.comp]
  split
  · rw [hg]
  · rfl

set_option maxHeartbeats 1000000 in
theorem rapply3_raw (w : Wld) (hw : w.fits) (hn : ∀ u ∈ w.U, u.pos.ok) (hU : w.U.length ≤ 1000000) (c : Cmd) (hc : c.fits) (hK : c.K = 3) : ACalls Tryz.prog 34 [.agg (wldC w), .agg (cmdC c)] Store.empty (DoQ stE stW w c) := by
  refine ACalls.of_body (c := cfg 97 [6] []) infoOK Tryz.func34 (by rfl) (by rfl) (by rfl) (by rfl) ?_
  have bad : (¬ mayP w ∨ ¬ cmdP c ∨ w.players < c.P) → DoQ stE stW w c (.tup [.agg (wldC w), int 1]) Store.empty := fun hb => by
    have he := doE_bad (E := stE) (w := w) (c := c) hb
    exact .inl ⟨by rw [he]; decide, by rw [he]⟩
  refine rmay_spec w hw hn _ _ (fun z hz => ?_)
  refine bcnot ?_
  refine bcase_intro (fun c1 => ?_) (fun c1 => ?_)
  rotate_left
  · exact ret (bad (.inl fun hh => by have := hz.2 hh; rw [this] at c1; cases c1))
  refine command21_specC c hc _ _ (fun zc hzc => ?_)
  refine bcnot ?_
  refine bcase_intro (fun c2 => ?_) (fun c2 => ?_)
  rotate_left
  · exact ret (bad (.inr (.inl fun hh => by have := hzc.2 hh; rw [this] at c2; cases c2)))
  refine bcd (fun c3 => ?_) (fun c3 => ?_)
  · exact ret (bad (.inr (.inr (by omega))))
  have hm := hz.1 c1
  have hcp := hzc.1 c2
  have mf := mayF hm
  have he := doE_ok (E := stE) hm hcp (show c.P ≤ w.players by omega)
  have hok := (Cmd.ok3 hK).1 hcp.1
  have hcU := hok.1.2
  refine copyWorldR_spec w hw hU _ _ (fun v N hv _ => ?_)
  rw [un_empty]
  have hv := hv.q
  have hoff := fun (p : Nat) (hp : Fresh N p) => offB_fresh hv (not_has (fresh_iff.1 hp)).1
  obtain ⟨oa, cap, e, _⟩ := hv.form
  subst e
  refine fun p hp => ?_
  refine storeK_objL (i := ti28) (v := .agg (wldV w (.s (.slice oa w.U.length cap)))) (xs := wldV w (.s (.slice oa w.U.length cap))) (b := p) (o := 0) (l := _) rfl rfl rfl (setObj_self _ _ _) (show 0 + 8 ≤ 8 by decide) ?_
  generalize hS : (N.setObj p _).setObj p _ = S
  have hp2 : S.obj p = some (.cells (wldV w (.s (.slice oa w.U.length cap)))) := by rw [← hS]; exact setObj_self _ _ _
  have hr2 : RowsQ 10 untC S (.s (.slice oa w.U.length cap)) w.U := by rw [← hS]; exact (hv.set (hoff p hp) _).set (hoff p hp) _
  have hofp := hoff p hp
  clear hS
  refine bceq (fun h => absurd (hK.symm.trans h) (by decide)) (fun _ => ?_)
  refine bceq (fun h => absurd (hK.symm.trans h) (by decide)) (fun _ => ?_)
  refine bceq (fun _ => ?_) (fun h => absurd hK h)
  refine optK_intro (o := S.obj p) _ hp2 ?_
  refine rallQ_spec hr2 hU c (by omega) _ ?_
  have hst : allE (askE w c.P) c.U = stE w c := rfl
  rw [hst]
  refine AWp.loop (σ := Nat × Store) ⟨fun x => [(2, .bx 2 0), (3, .bx 3 0), (4, .bx 4 0), (6, .av (ptr p)), (7, .av (int (stE w c))), (8, .av (int (x.1 : Nat)))], fun _ => [(2, wldC w), (3, cmdC c), (4, zerW0)],
    fun x st' => x.1 ≤ c.U.length ∧ (stE w c ≠ 0 → x.1 = 0) ∧ st' = x.2 ∧ x.2.obj p = some (.cells (wldV w (.s (.slice oa w.U.length cap)))) ∧ RowsQ 10 untC x.2 (.s (.slice oa w.U.length cap)) (setU (c.U.take x.1) rstU w.U), fun x => c.U.length - x.1⟩ infoOK ?_ ?_
  · refine ⟨(0, S), trivial, ⟨Nat.zero_le _, fun _ => rfl, rfl, hp2, ?_⟩, ⟨LV.le_refl _, LV.le_refl _, LV.le_refl _, LV.le_refl _, LV.le_refl _, LV.le_refl _, trivial⟩, ⟨rfl, rfl, rfl, trivial⟩⟩
    dsimp only
    rw [List.take_zero, setU_nil]
    exact hr2
  rintro ⟨k, S0⟩ S1 ⟨hk, hk0, rfl, hp1, hr1⟩
  dsimp only at hk hk0 hp1 hr1 ⊢
  have fin : k = c.U.length → stE w c = 0 → DoQ stE stW w c (.tup [.agg (wldV (stW w c) (.s (.slice oa w.U.length cap))), int 0]) S1 := fun e h0 => by
    subst e
    rw [List.take_length] at hr1
    exact .inr ⟨he.trans h0, _, hr1, rfl⟩
  by_cases h0 : stE w c = 0
  rotate_left
  · have hk0 := hk0 h0
    subst hk0
    have out : DoQ stE stW w c (.tup [.agg (wldC w), int (stE w c)]) S1 := .inl ⟨by rw [he]; exact h0, by rw [he]⟩
    refine bcase_intro (fun h1 => ?_) (fun h1 => ?_)
    · refine bceq (fun h2 => absurd h2 h0) (fun _ => ?_)
      refine bcne (fun _ => ?_) (fun h => absurd h h0)
      exact ret out
    · refine bcne (fun _ => ?_) (fun h => absurd h h0)
      exact ret out
  rw [h0]
  refine bcase_intro (fun h1 => ?_) (fun h1 => ?_)
  rotate_left
  · have hkl : k = c.U.length := ge_len h1 hk
    refine optK_intro (o := S1.obj p) _ hp1 ?_
    exact ret (fin hkl h0)
  have hlt := lt_len h1
  obtain ⟨i, hi, hf, hid, hu, how, hin⟩ := askE_zero (allE_zero h0 c.U[k] (List.getElem_mem hlt))
  have hi2 : i < (setU (c.U.take k) rstU w.U).length := by rw [setU_len]; exact hi
  have hf2 : findU (setU (c.U.take k) rstU w.U) c.U[k] = some i := by rw [findU_set (g := rstU) (fun _ => rfl)]; exact hf
  rcases hr1 with (⟨_, hl0⟩ | ⟨b, cap', J, e, ho, hc1, hc2, hc3⟩) | ⟨_, _, _, hl0⟩
  · rw [hl0] at hi2; exact absurd hi2 (Nat.not_lt_zero i)
  rotate_left
  · rw [hl0] at hi2; exact absurd hi2 (Nat.not_lt_zero i)
  simp only [AV.s.injEq, Value.slice.injEq] at e
  obtain ⟨rfl, e7, rfl⟩ := e
  have hcap : 0 < cap := by omega
  have hbp : b ≠ p := hofp b _ _ rfl hcap
  refine ADraw.of_sched infoOK (by rfl) (by rfl) sch34_15 (by rfl) ?_
  refine optK_intro (o := S1.obj p) _ hp1 ?_
  refine optK_intro (o := S1.obj p) _ hp1 ?_
  refine ⟨k, rfl, optK_intro _ (rws_get hlt) ?_⟩
  refine ⟨rfindQ_spec (w := { w with U := setU (c.U.take k) rstU w.U }) (.inl (.inr ⟨b, cap, J, by rw [e7], ho, hc1, hc2, hc3⟩)) (by rw [setU_len]; exact hU) c.U[k] _ ⟨(by repeat (first | exact trivial | refine ⟨rfl, ?_⟩ | refine ⟨⟨k, rfl, optK_intro _ (rws_get hlt) rfl⟩, ?_⟩ | refine ⟨optK_intro (o := S1.obj p) _ hp1 rfl, ?_⟩)), ?_⟩, trivial⟩
  dsimp only
  rw [hf2]
  refine ⟨i, rfl, hi, ?_⟩
  refine ⟨⟨trivial, ?_⟩, trivial⟩
  have hlen : ∀ U2 : List Unt, U2.length = w.U.length → i * 10 + 10 ≤ ((rws untC U2).flatten ++ J).length := fun U2 h => by
    rw [List.length_append, rws_flat_len untC_len]
    omega
  have e8 : (setU (c.U.take k) rstU w.U).length = w.U.length := setU_len _ _ _
  have hl0 := hlen _ e8
  have hidk : (setU (c.U.take k) rstU w.U).set i (rstU (setU (c.U.take k) rstU w.U)[i]) = setU (c.U.take (k + 1)) rstU w.U := by
    have e5 : c.U.take k ++ [w.U[i].id] = c.U.take (k + 1) := by rw [List.take_succ_eq_append_getElem hlt, hid]
    have e6 : rstU ((setU (c.U.take k) rstU w.U)[i]) = rstU w.U[i] := by
      rw [setU_get hi]
      split <;> rfl
    rw [e6, setU_set mf.hr hi, e5]
  generalize hgU : setU (c.U.take k) rstU w.U = U1 at *
  refine storeK_obj (i := ti3) (v := int (-1)) (b := b) (o := 0 + i * 10 + 5) (l := (rws untC U1).flatten ++ J) rfl rfl rfl ho (show 0 + i * 10 + 5 + 1 ≤ _ by omega) ?_
  have q1 := fld_set (x' := { U1[i] with goal := -1 }) (y := int (-1)) (j := 5) ho hi2 (by decide) rfl
  have p1 := (setObj_ne (st := S1) (x := .cells (splice ((rws untC U1).flatten ++ J) (0 + i * 10 + 5) [int (-1)])) (Ne.symm hbp)).trans hp1
  generalize S1.setObj b _ = S2 at q1 p1 ⊢
  have hl1 := hlen (U1.set i { U1[i] with goal := -1 }) (by rw [List.length_set]; exact e8)
  refine storeK_obj (i := ti3) (v := int (-1)) (b := b) (o := 0 + i * 10 + 6) (l := _) rfl rfl rfl q1 (show 0 + i * 10 + 6 + 1 ≤ _ by omega) ?_
  have q2 := fld_set (x' := { U1[i] with goal := -1, next := -1 }) (y := int (-1)) (j := 6) q1 (by rw [List.length_set]; exact hi2) (by decide) (by rw [List.getElem_set_self]; rfl)
  rw [List.set_set] at q2
  have p2 := (setObj_ne (st := S2) (x := .cells (splice ((rws untC (U1.set i { U1[i] with goal := -1 })).flatten ++ J) (0 + i * 10 + 6) [int (-1)])) (Ne.symm hbp)).trans p1
  generalize S2.setObj b _ = S3 at q2 p2 ⊢
  have hl2 := hlen (U1.set i { U1[i] with goal := -1, next := -1 }) (by rw [List.length_set]; exact e8)
  refine storeK_obj (i := ti3) (v := int 0) (b := b) (o := 0 + i * 10 + 7) (l := _) rfl rfl rfl q2 (show 0 + i * 10 + 7 + 1 ≤ _ by omega) ?_
  have q3 := fld_set (x' := { U1[i] with goal := -1, next := -1, stuck := 0 }) (y := int 0) (j := 7) q2 (by rw [List.length_set]; exact hi2) (by decide) (by rw [List.getElem_set_self]; rfl)
  rw [List.set_set] at q3
  have p3 := (setObj_ne (st := S3) (x := .cells (splice ((rws untC (U1.set i { U1[i] with goal := -1, next := -1 })).flatten ++ J) (0 + i * 10 + 7) [int 0])) (Ne.symm hbp)).trans p2
  generalize S3.setObj b _ = S4 at q3 p3 ⊢
  have hl3 := hlen (U1.set i { U1[i] with goal := -1, next := -1, stuck := 0 }) (by rw [List.length_set]; exact e8)
  refine storeK_obj (i := ti3) (v := int 0) (b := b) (o := 0 + i * 10 + 9) (l := _) rfl rfl rfl q3 (show 0 + i * 10 + 9 + 1 ≤ _ by omega) ?_
  have q4 := fld_set (x' := rstU U1[i]) (y := int 0) (j := 9) q3 (by rw [List.length_set]; exact hi2) (by decide) (by rw [List.getElem_set_self]; rfl)
  rw [List.set_set, hidk] at q4
  have p4 := (setObj_ne (st := S4) (x := .cells (splice ((rws untC (U1.set i { U1[i] with goal := -1, next := -1, stuck := 0 })).flatten ++ J) (0 + i * 10 + 9) [int 0])) (Ne.symm hbp)).trans p3
  generalize S4.setObj b _ = S5 at q4 p4 ⊢
  refine in64 (by omega) ?_
  have e9 : (setU (c.U.take (k + 1)) rstU w.U).length = w.U.length := setU_len _ _ _
  refine ⟨(k + 1, S5), ?_, ⟨by dsimp only; omega, fun h => absurd rfl h, rfl, p4, .inl (.inr ⟨b, cap, J, by rw [e9], q4, by rw [e9, ← e8]; exact hc1, by rw [e9, ← e8]; exact hc2, hc3⟩)⟩, ⟨LV.le_refl _, LV.le_refl _, LV.le_refl _, LV.le_refl _, ?_, LV.le_refl _, trivial⟩, ⟨rfl, rfl, rfl, trivial⟩⟩
  · show c.U.length - (k + 1) < c.U.length - k
    omega
  · exact LV.le_refl _

theorem ref3 : RefOK 3 stE stW := fun w hw hn hU c hc hK R h => doQ_froz (rapply3_raw w hw hn hU c hc hK) R h

theorem stW_len (w : Wld) (c : Cmd) (hm : mayP w) (hg : ¬ greatP w) : (stW w c).G.T.length ≤ 1000000 ∧ (stW w c).B.length ≤ 1000000 ∧ (stW w c).U.length ≤ 1000000 := by
  unfold greatP at hg
  unfold stW
  dsimp only
  rw [setU_len]
  omega
end Go.Proofs
