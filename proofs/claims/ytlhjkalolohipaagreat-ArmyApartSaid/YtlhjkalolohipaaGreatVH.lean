/- The ground on which laws of thronglaw21 are proved: contracts of functions and plain lemmas; no condition beyond the row's own. -/
import Derived.Test.YtlhjkalolohipaaGreatVG
namespace Go.V
set_option linter.unusedVariables false

/-- A slice over an object: its elements, and how much room. -/
def RowsO {α : Type} (k : Nat) (f : α → List AV) (st : Store) (v : AV) (l : List α) : Prop :=
  (v = .s (.slice none 0 0) ∧ l = []) ∨ ∃ b cap L, v = .s (.slice (some ⟨b, 0, none⟩) l.length cap) ∧ st.obj b = some (.cells ((rws f l).flatten ++ L)) ∧ l.length ≤ cap ∧ cap * k ≤ l.length * k + L.length ∧ cap ≤ 9223372036854775807

section
variable {α : Type} {f : α → List AV} {k : Nat}

theorem rws_flat_len (hf : ∀ x, (f x).length = k) (l : List α) : (rws f l).flatten.length = l.length * k := by
  induction l with
  | nil => simp [rws]
  | cons a l ih =>
    show (f a ++ (rws f l).flatten).length = (l.length + 1) * k
    rw [List.length_append, hf, ih, Nat.succ_mul]; omega

theorem rws_flat_app (a b : List α) : (rws f (a ++ b)).flatten = (rws f a).flatten ++ (rws f b).flatten := by
  rw [← rws_app, List.flatten_append]

theorem rws_split {l : List α} {i : Nat} (hi : i < l.length) : (rws f l).flatten = (rws f (l.take i)).flatten ++ (f l[i] ++ (rws f (l.drop (i + 1))).flatten) := by
  have e : l = l.take i ++ (l[i] :: l.drop (i + 1)) := by
    rw [← List.drop_eq_getElem_cons hi, List.take_append_drop]
  have e2 : (rws f (l[i] :: l.drop (i + 1))).flatten = f l[i] ++ (rws f (l.drop (i + 1))).flatten := rfl
  rw [← e2, ← rws_flat_app, ← e]

theorem splice_left {X Y ys : List AV} {j : Nat} (h : j + ys.length ≤ X.length) : splice (X ++ Y) j ys = splice X j ys ++ Y := by
  unfold splice
  rw [List.take_append_of_le_length (by omega), List.drop_append_of_le_length (by omega)]
  simp only [List.append_assoc]

/-- One cell of an element is stored. -/
theorem splice_rows (hf : ∀ x, (f x).length = k) {l : List α} {i j : Nat} (hi : i < l.length) {x' : α} {ys L : List AV} (hj : j + ys.length ≤ k) (hx : f x' = splice (f l[i]) j ys) :
    splice ((rws f l).flatten ++ L) (i * k + j) ys = (rws f (l.set i x')).flatten ++ L := by
  have h1 : (rws f (l.take i)).flatten.length = i * k := by rw [rws_flat_len hf, List.length_take, Nat.min_eq_left (by omega)]
  have hi2 : i < (l.set i x').length := by rw [List.length_set]; exact hi
  rw [rws_split hi, rws_split hi2, List.append_assoc, List.append_assoc, ← h1, splice_succ]
  have e1 : (l.set i x').take i = l.take i := by rw [List.take_set_of_le (Nat.le_refl i)]
  have e2 : (l.set i x').drop (i + 1) = l.drop (i + 1) := by rw [List.drop_set_of_lt (by omega)]
  rw [e1, e2, List.getElem_set_self, hx]
  have h3 := hf l[i]
  rw [List.append_assoc, splice_left (by omega)]
  simp only [List.append_assoc]

theorem RowsO.un {a g : Store} {v : AV} {l : List α} (h : RowsO k f g v l) : RowsO k f (a.un g) v l := by
  rcases h with h | ⟨b1, cap, L, h1, h2, h3⟩
  · exact .inl h
  · exact .inr ⟨b1, cap, L, h1, un_r h2, h3⟩
theorem RowsO.unL {a g : Store} {v : AV} {l : List α} (h : RowsO k f a v l) (hd : Disj a g) : RowsO k f (a.un g) v l := by
  rcases h with h | ⟨b1, cap, L, h1, h2, h3⟩
  · exact .inl h
  · exact .inr ⟨b1, cap, L, h1, un_l hd h2, h3⟩

/-- Where an element stands, and what is left when one cell of it is stored. -/
theorem RowsO.at {st : Store} {v : AV} {l : List α} (h : RowsO k f st v l) {i : Nat} (hi : i < l.length) :
    ∃ b cap L, v = .s (.slice (some ⟨b, 0, none⟩) l.length cap) ∧ st.obj b = some (.cells ((rws f l).flatten ++ L)) ∧ l.length ≤ cap ∧ cap * k ≤ l.length * k + L.length ∧ cap ≤ 9223372036854775807 := by
  rcases h with ⟨_, rfl⟩ | h
  · exact absurd hi (Nat.not_lt_zero i)
  · exact h

theorem RowsO.borrow {st : Store} {v : AV} {l : List α} (hf : ∀ x, (f x).length = k) (hs : ∀ x, ∀ y ∈ f x, ∃ u, y = AV.s u ∧ oneCell u = true) (hv : RowsO k f st v l) {Oth M : Nat → Nat → Prop} {w : World} (sto : StoreOK st Oth M w) {x : Value} (hx : VRel w (fun b o => M b o ∨ Oth b o) v x) :
    VRel w (fun b o => (M b o ∨ Oth b o) ∧ st.obj b = none) (lst k f l) x := by
  rcases hv with ⟨rfl, rfl⟩ | ⟨b, cap, L, rfl, ho, h1, h2, h3⟩
  · cases hx
    exact AV.le_nil k _ _ _ (.s _)
  · cases hx
    exact borrow_rel (sto.obj b _ ho).1 (fun o hT => by rw [ho] at hT; exact absurd hT.2 (by simp)) (rws_len l) h1
      (fun row hr => by obtain ⟨n, _, rfl⟩ := List.mem_map.1 hr; exact hf n) (fun row hr y hy => by
        obtain ⟨n, _, rfl⟩ := List.mem_map.1 hr
        exact hs n y hy)

/-- An append of one element to elements over an object. -/
theorem appRows {P : Program} {c : Cfg} {e : TypeId} {ie : TI} (hie : c.I e = some ie) (hf : ∀ x, (f x).length = ie.size) (hby : ie.bytes ≤ 1000) {st : Store} {v : AV} {l : List α} (hv : RowsO ie.size f st v l) (x : α) {src : AV} (hsrc : srcRows ie.size (.av src) = some [f x]) (hlen : l.length ≤ 1000000000) {K : AV → Store → Prop}
    (h : ∀ b cap L, (Fresh st b ∨ ∃ c0, v = .s (.slice (some ⟨b, 0, none⟩) l.length c0)) → (l ++ [x]).length ≤ cap → cap * ie.size ≤ (l ++ [x]).length * ie.size + L.length → cap ≤ 9223372036854775807 →
      K (.s (.slice (some ⟨b, 0, none⟩) (l ++ [x]).length cap)) (st.setObj b (.cells ((rws f (l ++ [x])).flatten ++ L)))) : appendK P c st e (.av v) (.av src) K := by
  refine ⟨.inr ⟨v, _, rfl, rfl, ?_⟩⟩
  have hl : (l ++ [x]).length = l.length + 1 := by simp
  have hfl := rws_flat_len hf l
  have hmul : (l.length + 1) * ie.bytes ≤ 1000000001 * 1000 := Nat.mul_le_mul (by omega) hby
  have happ : (rws f (l ++ [x])).flatten = (rws f l).flatten ++ f x := by
    rw [rws_flat_app]
    show _ ++ (f x ++ []) = _
    rw [List.append_nil]
  rcases hv with ⟨rfl, rfl⟩ | ⟨b, cap, L, rfl, ho, h1, h2, h3⟩
  · refine appX_nil hie hsrc ⟨by simp at hmul ⊢; omega, by simp⟩ (by simp) (fun b' cap' hb hc hc2 => ?_)
    have := h b' cap' (List.replicate ((cap' - [f x].length) * ie.size) .any) (.inl hb) (by simpa using hc) (by
      simp only [List.length_replicate, List.nil_append, List.length_singleton, ← Nat.add_mul]
      exact Nat.mul_le_mul_right _ (by omega)) hc2
    exact this
  · refine appX_raw hie (cap := cap) ho (by rw [List.length_append, hfl]; exact h2) h1 hsrc ⟨by simp; omega, by simp; omega⟩ (fun hc => ?_) (fun hc b' cap' hb hc1 hc2 => ?_)
    · have hc : l.length + 1 ≤ cap := hc
      have hcm : (l.length + 1) * ie.size ≤ cap * ie.size := Nat.mul_le_mul_right _ hc
      rw [Nat.succ_mul] at hcm
      have e1 : splice ((rws f l).flatten ++ L) (l.length * ie.size) [f x].flatten = (rws f (l ++ [x])).flatten ++ L.drop ie.size := by
        rw [splice_at hfl, happ]
        simp [hf x]
      have := h b cap (L.drop ie.size) (.inr ⟨cap, rfl⟩) (by omega) (by rw [hl, Nat.succ_mul, List.length_drop]; omega) h3
      rw [hl, ← e1] at this
      exact this
    · have hc1 : l.length + 1 ≤ cap' := hc1
      have e1 : ((rws f l).flatten ++ L).take (l.length * ie.size) ++ [f x].flatten ++ List.replicate ((cap' - (l.length + 1)) * ie.size) .any = (rws f (l ++ [x])).flatten ++ List.replicate ((cap' - (l.length + 1)) * ie.size) .any := by
        rw [List.take_append_of_le_length (by omega), List.take_of_length_le (by omega), happ]
        simp
      have := h b' cap' (List.replicate ((cap' - (l.length + 1)) * ie.size) .any) (.inl hb) (by omega) (by
        rw [hl, List.length_replicate, ← Nat.add_mul]
        exact Nat.mul_le_mul_right _ (by omega)) hc2
      rw [hl, ← e1] at this
      exact this
end

theorem untC_len (u : Unt) : (untC u).length = 10 := rfl
theorem untC_s (u : Unt) : ∀ y ∈ untC u, ∃ x, y = AV.s x ∧ oneCell x = true := by
  intro y hy
  simp [untC] at hy
  rcases hy with rfl | rfl | rfl | rfl | rfl | rfl | rfl | rfl | rfl | rfl <;> exact ⟨_, rfl, rfl⟩

/-- A world whose units stand in an object. -/
def wldV (w : Wld) (v : AV) : List AV := [int w.tick, int w.players, int w.next, int w.G.W, int w.G.H, byts w.G.T, lst 6 bldC w.B, v]
theorem wldV_lst (w : Wld) : wldV w (lst 10 untC w.U) = wldC w := rfl

theorem wld_borrow {st : Store} {w : Wld} {v : AV} (hv : RowsO 10 untC st v w.U) {Oth M : Nat → Nat → Prop} {W : World} (sto : StoreOK st Oth M W) {x : Value} (hx : VRel W (fun b o => M b o ∨ Oth b o) (.agg (wldV w v)) x) :
    VRel W (fun b o => (M b o ∨ Oth b o) ∧ st.obj b = none) (.agg (wldC w)) x := by
  cases hx with
  | agg _ c hl hc =>
    refine .agg _ c hl fun i x y hx hy => ?_
    match i with
    | 0 => simp only [wldC, List.getElem?_cons_zero, Option.some.injEq] at hx; subst hx; exact mono_borrow (hc 0 _ y rfl hy)
    | 1 => simp only [wldC, List.getElem?_cons_succ, List.getElem?_cons_zero, Option.some.injEq] at hx; subst hx; exact mono_borrow (hc 1 _ y rfl hy)
    | 2 => simp only [wldC, List.getElem?_cons_succ, List.getElem?_cons_zero, Option.some.injEq] at hx; subst hx; exact mono_borrow (hc 2 _ y rfl hy)
    | 3 => simp only [wldC, List.getElem?_cons_succ, List.getElem?_cons_zero, Option.some.injEq] at hx; subst hx; exact mono_borrow (hc 3 _ y rfl hy)
    | 4 => simp only [wldC, List.getElem?_cons_succ, List.getElem?_cons_zero, Option.some.injEq] at hx; subst hx; exact mono_borrow (hc 4 _ y rfl hy)
    | 5 => simp only [wldC, List.getElem?_cons_succ, List.getElem?_cons_zero, Option.some.injEq] at hx; subst hx; exact mono_borrow (hc 5 _ y rfl hy)
    | 6 => simp only [wldC, List.getElem?_cons_succ, List.getElem?_cons_zero, Option.some.injEq] at hx; subst hx; exact mono_borrow (hc 6 _ y rfl hy)
    | 7 => simp only [wldC, List.getElem?_cons_succ, List.getElem?_cons_zero, Option.some.injEq] at hx; subst hx; exact hv.borrow untC_len untC_s sto (hc 7 _ y rfl hy)
    | i + 8 => simp [wldC] at hx
end Go.V
namespace Go.V
set_option linter.unusedVariables false

def setUs (w : Wld) (us : List Unt) : Wld := { w with U := us }

def spoilU (w : Wld) (u : Unt) : Nat → Unt
  | 0 => { u with id := w.next }
  | 1 => { u with owner := w.players + 1 }
  | 2 => { u with kind := 4 }
  | 3 => { u with goal := (w.G.T.length : Int) }
  | 4 => { u with stuck := 8 }
  | 5 => { u with state := 5 }
  | 6 => { u with inn := u.id }
  | 7 => { u with pos := (-1, u.pos.2) }
  | _ => { u with owner := 0 }

theorem risesU_lt' {l : List Unt} (hr : risesU l) {a b : Nat} (hab : a < b) (hb : b < l.length) : (l[a]'(by omega)).id < l[b].id := by
  induction b with
  | zero => omega
  | succ b ih =>
    have h3 := hr (b + 1) hb (by omega)
    simp only [Nat.add_sub_cancel] at h3
    by_cases e : a = b
    · subst e; exact h3
    · have := ih (by omega) (by omega)
      omega
theorem risesU_inj' {l : List Unt} (hr : risesU l) {x y : Unt} (hx : x ∈ l) (hy : y ∈ l) (h : x.id = y.id) : x = y := by
  obtain ⟨i, hi, rfl⟩ := List.getElem_of_mem hx
  obtain ⟨j, hj, rfl⟩ := List.getElem_of_mem hy
  by_cases h1 : i < j
  · have := risesU_lt' hr h1 hj; omega
  · by_cases h2 : j < i
    · have := risesU_lt' hr h2 hi; omega
    · have : i = j := by omega
      subst this; rfl

theorem spoil_not {w : Wld} (hm : mayP w) {i k : Nat} (hi : i < w.U.length) (hk : k < 9) : ¬ mayP (setUs w (w.U.set i (spoilU w w.U[i] k))) := by
  intro h
  have hmem : spoilU w w.U[i] k ∈ (setUs w (w.U.set i (spoilU w w.U[i] k))).U := by
    show _ ∈ w.U.set i _
    exact List.mem_iff_getElem.2 ⟨i, by rw [List.length_set]; exact hi, List.getElem_set_self _⟩
  have hu := (h.1.2.2 _ hmem).1
  have h0 := (hm.1.2.2 _ (List.getElem_mem hi)).1
  have hg := hm.1.1.2.1.1
  have ha := gnd_area hg
  have hbase : ∀ x : Unt, untP (setUs w (w.U.set i (spoilU w w.U[i] k))) x ↔ untP w x := fun x => Iff.rfl
  rw [hbase] at hu
  have hkr : 24576 ≤ kRad w.U[i].kind := by unfold kRad; split <;> (try split) <;> omega
  rcases (show k = 0 ∨ k = 1 ∨ k = 2 ∨ k = 3 ∨ k = 4 ∨ k = 5 ∨ k = 6 ∨ k = 7 ∨ k = 8 by omega) with rfl | rfl | rfl | rfl | rfl | rfl | rfl | rfl | rfl
  · have : w.next < w.next := hu.1.1.2; omega
  · have : w.players + 1 ≤ w.players := hu.1.2.1.2; omega
  · have : (4 : Int) ≤ 3 := hu.1.2.2.2; omega
  · have : tileN w.G (w.G.T.length : Int) := hu.2.1.1; unfold tileN at this; omega
  · have : (8 : Int) < 8 := hu.2.1.2.2.2; omega
  · have : (5 : Int) ≤ 4 := hu.2.2.1.1.2; omega
  · have hid : 1 ≤ w.U[i].id := h0.1.1.1
    obtain ⟨x, hx, e, e2, _⟩ := h.2.2 _ hmem (by show w.U[i].id ≠ 0; omega)
    have : x = spoilU w w.U[i] 6 := risesU_inj' h.1.2.1 hx hmem e
    subst this
    have : w.U[i].id = 0 := e2.1
    omega
  · by_cases h0 : w.U[i].inn = 0
    · have : kRad w.U[i].kind ≤ -1 := (h.2.1 _ hmem h0).1.1.1.1
      omega
    · obtain ⟨x, hx, _, _, _, _, e, _⟩ := h.2.2 _ hmem h0
      have : (-1 : Int) = 0 := congrArg Prod.fst e
      omega
  · have : (1 : Int) ≤ 0 := hu.1.2.1.1; omega
theorem spoil_ok {w : Wld} (hn : ∀ u ∈ w.U, u.pos.ok) {i : Nat} (hi : i < w.U.length) (k : Nat) : ∀ u ∈ (setUs w (w.U.set i (spoilU w w.U[i] k))).U, u.pos.ok := by
  intro u hu
  rcases List.mem_or_eq_of_mem_set hu with hu | rfl
  · exact hn u hu
  · have h0 := hn _ (List.getElem_mem hi)
    have h71 : InI64 (-1) := by unfold InI64; omega
    have h7 : (spoilU w w.U[i] 7).pos.ok := ⟨h71, h0.2⟩
    by_cases e : k = 7
    · subst e; exact h7
    · have : (spoilU w w.U[i] k).pos = w.U[i].pos := by unfold spoilU; split <;> first | rfl | exact absurd rfl e
      rw [this]; exact h0

theorem not_players (w : Wld) : ¬ mayP { w with players := 0 } := fun h => by have : (1 : Int) ≤ 0 := h.1.1.1.2.1.1; omega
theorem not_next (w : Wld) : ¬ mayP { w with next := 0 } := fun h => by have : (1 : Int) ≤ 0 := h.1.1.1.2.2.1; omega
theorem not_tick (w : Wld) : ¬ mayP { w with tick := -1 } := fun h => by have : (0 : Int) ≤ -1 := h.1.1.1.1.1; omega
end Go.V
