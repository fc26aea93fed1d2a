/- The ground on which laws of thronglaw26 are proved: contracts of functions and plain lemmas; no condition beyond the row's own. -/
import Derived.Test.YtimehecofabmjaaGreatVG
import Derived.Test.YtimehecofabmjaaGreatPA
set_option linter.unusedSimpArgs false
set_option linter.unusedVariables false
namespace Go.V
set_option linter.unusedVariables false

/-- A slice over an object: its elements, and how much room. -/
def RowsO {α : Type} (k : Nat) (f : α → List AV) (st : Store) (v : AV) (l : List α) : Prop :=
  (v = .s (.slice none 0 0) ∧ l = []) ∨ ∃ b cap L, v = .s (.slice (some ⟨b, 0, none⟩) l.length cap) ∧ st.obj b = some (.cells ((rws f l).flatten ++ L)) ∧ l.length ≤ cap ∧ cap * k ≤ l.length * k + L.length ∧ cap ≤ 9223372036854775807

section
variable {α : Type} {f : α → List AV} {k : Nat}

theorem rws_flat_len (hf : ∀ x, (f x).length = k) (l : List α) : (rws f l).flatten.length = l.length * k := by
  induction l with
  | nil => simp [rws]
  | cons a l ih =>
    show (f a ++ (rws f l).flatten).length = (l.length + 1) * k
    rw [List.length_append, hf, ih, Nat.succ_mul]; omega

theorem rws_flat_app (a b : List α) : (rws f (a ++ b)).flatten = (rws f a).flatten ++ (rws f b).flatten := by
  rw [← rws_app, List.flatten_append]

theorem rws_split {l : List α} {i : Nat} (hi : i < l.length) : (rws f l).flatten = (rws f (l.take i)).flatten ++ (f l[i] ++ (rws f (l.drop (i + 1))).flatten) := by
  have e : l = l.take i ++ (l[i] :: l.drop (i + 1)) := by
    rw [← List.drop_eq_getElem_cons hi, List.take_append_drop]
  have e2 : (rws f (l[i] :: l.drop (i + 1))).flatten = f l[i] ++ (rws f (l.drop (i + 1))).flatten := rfl
  rw [← e2, ← rws_flat_app, ← e]

theorem splice_left {X Y ys : List AV} {j : Nat} (h : j + ys.length ≤ X.length) : splice (X ++ Y) j ys = splice X j ys ++ Y := by
  unfold splice
  rw [List.take_append_of_le_length (by omega), List.drop_append_of_le_length (by omega)]
  simp only [List.append_assoc]

/-- One cell of an element is stored. -/
theorem splice_rows (hf : ∀ x, (f x).length = k) {l : List α} {i j : Nat} (hi : i < l.length) {x' : α} {ys L : List AV} (hj : j + ys.length ≤ k) (hx : f x' = splice (f l[i]) j ys) :
    splice ((rws f l).flatten ++ L) (i * k + j) ys = (rws f (l.set i x')).flatten ++ L := by
  have h1 : (rws f (l.take i)).flatten.length = i * k := by rw [rws_flat_len hf, List.length_take, Nat.min_eq_left (by omega)]
  have hi2 : i < (l.set i x').length := by rw [List.length_set]; exact hi
  rw [rws_split hi, rws_split hi2, List.append_assoc, List.append_assoc, ← h1, splice_succ]
  have e1 : (l.set i x').take i = l.take i := by rw [List.take_set_of_le (Nat.le_refl i)]
  have e2 : (l.set i x').drop (i + 1) = l.drop (i + 1) := by rw [List.drop_set_of_lt (by omega)]
  rw [e1, e2, List.getElem_set_self, hx]
  have h3 := hf l[i]
  rw [List.append_assoc, splice_left (by omega)]
  simp only [List.append_assoc]

theorem RowsO.un {a g : Store} {v : AV} {l : List α} (h : RowsO k f g v l) : RowsO k f (a.un g) v l := by
  rcases h with h | ⟨b1, cap, L, h1, h2, h3⟩
  · exact .inl h
  · exact .inr ⟨b1, cap, L, h1, un_r h2, h3⟩
theorem RowsO.unL {a g : Store} {v : AV} {l : List α} (h : RowsO k f a v l) (hd : Disj a g) : RowsO k f (a.un g) v l := by
  rcases h with h | ⟨b1, cap, L, h1, h2, h3⟩
  · exact .inl h
  · exact .inr ⟨b1, cap, L, h1, un_l hd h2, h3⟩

/-- Where an element stands, and what is left when one cell of it is stored. -/
theorem RowsO.at {st : Store} {v : AV} {l : List α} (h : RowsO k f st v l) {i : Nat} (hi : i < l.length) :
    ∃ b cap L, v = .s (.slice (some ⟨b, 0, none⟩) l.length cap) ∧ st.obj b = some (.cells ((rws f l).flatten ++ L)) ∧ l.length ≤ cap ∧ cap * k ≤ l.length * k + L.length ∧ cap ≤ 9223372036854775807 := by
  rcases h with ⟨_, rfl⟩ | h
  · exact absurd hi (Nat.not_lt_zero i)
  · exact h

theorem RowsO.borrow {st : Store} {v : AV} {l : List α} (hf : ∀ x, (f x).length = k) (hs : ∀ x, ∀ y ∈ f x, ∃ u, y = AV.s u ∧ oneCell u = true) (hv : RowsO k f st v l) {Oth M : Nat → Nat → Prop} {w : World} (sto : StoreOK st Oth M w) {x : Value} (hx : VRel w (fun b o => M b o ∨ Oth b o) v x) :
    VRel w (fun b o => (M b o ∨ Oth b o) ∧ st.obj b = none) (lst k f l) x := by
  rcases hv with ⟨rfl, rfl⟩ | ⟨b, cap, L, rfl, ho, h1, h2, h3⟩
  · cases hx
    exact AV.le_nil k _ _ _ (.s _)
  · cases hx
    exact borrow_rel (sto.obj b _ ho).1 (fun o hT => by rw [ho] at hT; exact absurd hT.2 (by simp)) (rws_len l) h1
      (fun row hr => by obtain ⟨n, _, rfl⟩ := List.mem_map.1 hr; exact hf n) (fun row hr y hy => by
        obtain ⟨n, _, rfl⟩ := List.mem_map.1 hr
        exact hs n y hy)

/-- An append of one element to elements over an object. -/
theorem appRows {P : Program} {c : Cfg} {e : TypeId} {ie : TI} (hie : c.I e = some ie) (hf : ∀ x, (f x).length = ie.size) (hby : ie.bytes ≤ 1000) {st : Store} {v : AV} {l : List α} (hv : RowsO ie.size f st v l) (x : α) {src : AV} (hsrc : srcRows ie.size (.av src) = some [f x]) (hlen : l.length ≤ 1000000000) {K : AV → Store → Prop}
    (h : ∀ b cap L, (Fresh st b ∨ ∃ c0, v = .s (.slice (some ⟨b, 0, none⟩) l.length c0)) → (l ++ [x]).length ≤ cap → cap * ie.size ≤ (l ++ [x]).length * ie.size + L.length → cap ≤ 9223372036854775807 →
      K (.s (.slice (some ⟨b, 0, none⟩) (l ++ [x]).length cap)) (st.setObj b (.cells ((rws f (l ++ [x])).flatten ++ L)))) : appendK P c st e (.av v) (.av src) K := by
  refine ⟨.inr ⟨v, _, rfl, rfl, ?_⟩⟩
  have hl : (l ++ [x]).length = l.length + 1 := by simp
  have hfl := rws_flat_len hf l
  have hmul : (l.length + 1) * ie.bytes ≤ 1000000001 * 1000 := Nat.mul_le_mul (by omega) hby
  have happ : (rws f (l ++ [x])).flatten = (rws f l).flatten ++ f x := by
    rw [rws_flat_app]
    show _ ++ (f x ++ []) = _
    rw [List.append_nil]
  rcases hv with ⟨rfl, rfl⟩ | ⟨b, cap, L, rfl, ho, h1, h2, h3⟩
  · refine appX_nil hie hsrc ⟨by simp at hmul ⊢; omega, by simp⟩ (by simp) (fun b' cap' hb hc hc2 => ?_)
    have := h b' cap' (List.replicate ((cap' - [f x].length) * ie.size) .any) (.inl hb) (by simpa using hc) (by
      simp only [List.length_replicate, List.nil_append, List.length_singleton, ← Nat.add_mul]
      exact Nat.mul_le_mul_right _ (by omega)) hc2
    exact this
  · refine appX_raw hie (cap := cap) ho (by rw [List.length_append, hfl]; exact h2) h1 hsrc ⟨by simp; omega, by simp; omega⟩ (fun hc => ?_) (fun hc b' cap' hb hc1 hc2 => ?_)
    · have hc : l.length + 1 ≤ cap := hc
      have hcm : (l.length + 1) * ie.size ≤ cap * ie.size := Nat.mul_le_mul_right _ hc
      rw [Nat.succ_mul] at hcm
      have e1 : splice ((rws f l).flatten ++ L) (l.length * ie.size) [f x].flatten = (rws f (l ++ [x])).flatten ++ L.drop ie.size := by
        rw [splice_at hfl, happ]
        simp [hf x]
      have := h b cap (L.drop ie.size) (.inr ⟨cap, rfl⟩) (by omega) (by rw [hl, Nat.succ_mul, List.length_drop]; omega) h3
      rw [hl, ← e1] at this
      exact this
    · have hc1 : l.length + 1 ≤ cap' := hc1
      have e1 : ((rws f l).flatten ++ L).take (l.length * ie.size) ++ [f x].flatten ++ List.replicate ((cap' - (l.length + 1)) * ie.size) .any = (rws f (l ++ [x])).flatten ++ List.replicate ((cap' - (l.length + 1)) * ie.size) .any := by
        rw [List.take_append_of_le_length (by omega), List.take_of_length_le (by omega), happ]
        simp
      have := h b' cap' (List.replicate ((cap' - (l.length + 1)) * ie.size) .any) (.inl hb) (by omega) (by
        rw [hl, List.length_replicate, ← Nat.add_mul]
        exact Nat.mul_le_mul_right _ (by omega)) hc2
      rw [hl, ← e1] at this
      exact this
end

theorem untC_len (u : Unt) : (untC u).length = 10 := rfl
theorem untC_s (u : Unt) : ∀ y ∈ untC u, ∃ x, y = AV.s x ∧ oneCell x = true := by
  intro y hy
  simp [untC] at hy
  rcases hy with rfl | rfl | rfl | rfl | rfl | rfl | rfl | rfl | rfl | rfl <;> exact ⟨_, rfl, rfl⟩

/-- A world whose units stand in an object. -/
def wldV (w : Wld) (v : AV) : List AV := [int w.tick, int w.players, int w.next, int w.G.W, int w.G.H, byts w.G.T, lst 6 bldC w.B, v]
theorem wldV_lst (w : Wld) : wldV w (lst 10 untC w.U) = wldC w := rfl

theorem wld_borrow {st : Store} {w : Wld} {v : AV} (hv : RowsO 10 untC st v w.U) {Oth M : Nat → Nat → Prop} {W : World} (sto : StoreOK st Oth M W) {x : Value} (hx : VRel W (fun b o => M b o ∨ Oth b o) (.agg (wldV w v)) x) :
    VRel W (fun b o => (M b o ∨ Oth b o) ∧ st.obj b = none) (.agg (wldC w)) x := by
  cases hx with
  | agg _ c hl hc =>
    refine .agg _ c hl fun i x y hx hy => ?_
    match i with
    | 0 => simp only [wldC, List.getElem?_cons_zero, Option.some.injEq] at hx; subst hx; exact mono_borrow (hc 0 _ y rfl hy)
    | 1 => simp only [wldC, List.getElem?_cons_succ, List.getElem?_cons_zero, Option.some.injEq] at hx; subst hx; exact mono_borrow (hc 1 _ y rfl hy)
    | 2 => simp only [wldC, List.getElem?_cons_succ, List.getElem?_cons_zero, Option.some.injEq] at hx; subst hx; exact mono_borrow (hc 2 _ y rfl hy)
    | 3 => simp only [wldC, List.getElem?_cons_succ, List.getElem?_cons_zero, Option.some.injEq] at hx; subst hx; exact mono_borrow (hc 3 _ y rfl hy)
    | 4 => simp only [wldC, List.getElem?_cons_succ, List.getElem?_cons_zero, Option.some.injEq] at hx; subst hx; exact mono_borrow (hc 4 _ y rfl hy)
    | 5 => simp only [wldC, List.getElem?_cons_succ, List.getElem?_cons_zero, Option.some.injEq] at hx; subst hx; exact mono_borrow (hc 5 _ y rfl hy)
    | 6 => simp only [wldC, List.getElem?_cons_succ, List.getElem?_cons_zero, Option.some.injEq] at hx; subst hx; exact mono_borrow (hc 6 _ y rfl hy)
    | 7 => simp only [wldC, List.getElem?_cons_succ, List.getElem?_cons_zero, Option.some.injEq] at hx; subst hx; exact hv.borrow untC_len untC_s sto (hc 7 _ y rfl hy)
    | i + 8 => simp [wldC] at hx
end Go.V
namespace Go.V
set_option linter.unusedVariables false

def setUs (w : Wld) (us : List Unt) : Wld := { w with U := us }

def spoilU (w : Wld) (u : Unt) : Nat → Unt
  | 0 => { u with id := w.next }
  | 1 => { u with owner := w.players + 1 }
  | 2 => { u with kind := 4 }
  | 3 => { u with goal := (w.G.T.length : Int) }
  | 4 => { u with stuck := 8 }
  | 5 => { u with state := 5 }
  | 6 => { u with inn := u.id }
  | 7 => { u with pos := (-1, u.pos.2) }
  | _ => { u with owner := 0 }

theorem risesU_lt' {l : List Unt} (hr : risesU l) {a b : Nat} (hab : a < b) (hb : b < l.length) : (l[a]'(by omega)).id < l[b].id := by
  induction b with
  | zero => omega
  | succ b ih =>
    have h3 := hr (b + 1) hb (by omega)
    simp only [Nat.add_sub_cancel] at h3
    by_cases e : a = b
    · subst e; exact h3
    · have := ih (by omega) (by omega)
      omega
theorem risesU_inj' {l : List Unt} (hr : risesU l) {x y : Unt} (hx : x ∈ l) (hy : y ∈ l) (h : x.id = y.id) : x = y := by
  obtain ⟨i, hi, rfl⟩ := List.getElem_of_mem hx
  obtain ⟨j, hj, rfl⟩ := List.getElem_of_mem hy
  by_cases h1 : i < j
  · have := risesU_lt' hr h1 hj; omega
  · by_cases h2 : j < i
    · have := risesU_lt' hr h2 hi; omega
    · have : i = j := by omega
      subst this; rfl

theorem spoil_not {w : Wld} (hm : mayP w) {i k : Nat} (hi : i < w.U.length) (hk : k < 9) : ¬ mayP (setUs w (w.U.set i (spoilU w w.U[i] k))) := by
  intro h
  have hmem : spoilU w w.U[i] k ∈ (setUs w (w.U.set i (spoilU w w.U[i] k))).U := by
    show _ ∈ w.U.set i _
    exact List.mem_iff_getElem.2 ⟨i, by rw [List.length_set]; exact hi, List.getElem_set_self _⟩
  have hu := (h.1.2.2 _ hmem).1
  have h0 := (hm.1.2.2 _ (List.getElem_mem hi)).1
  have hg := hm.1.1.2.1.1
  have ha := gnd_area hg
  have hbase : ∀ x : Unt, untP (setUs w (w.U.set i (spoilU w w.U[i] k))) x ↔ untP w x := fun x => Iff.rfl
  rw [hbase] at hu
  have hkr : 24576 ≤ kRad w.U[i].kind := by unfold kRad; split <;> (try split) <;> omega
  rcases (show k = 0 ∨ k = 1 ∨ k = 2 ∨ k = 3 ∨ k = 4 ∨ k = 5 ∨ k = 6 ∨ k = 7 ∨ k = 8 by omega) with rfl | rfl | rfl | rfl | rfl | rfl | rfl | rfl | rfl
  · have : w.next < w.next := hu.1.1.2; omega
  · have : w.players + 1 ≤ w.players := hu.1.2.1.2; omega
  · have : (4 : Int) ≤ 3 := hu.1.2.2.2; omega
  · have : tileN w.G (w.G.T.length : Int) := hu.2.1.1; unfold tileN at this; omega
  · have : (8 : Int) < 8 := hu.2.1.2.2.2; omega
  · have : (5 : Int) ≤ 4 := hu.2.2.1.1.2; omega
  · have hid : 1 ≤ w.U[i].id := h0.1.1.1
    obtain ⟨x, hx, e, e2, _⟩ := h.2.2 _ hmem (by show w.U[i].id ≠ 0; omega)
    have : x = spoilU w w.U[i] 6 := risesU_inj' h.1.2.1 hx hmem e
    subst this
    have : w.U[i].id = 0 := e2.1
    omega
  · by_cases h0 : w.U[i].inn = 0
    · have : kRad w.U[i].kind ≤ -1 := (h.2.1 _ hmem h0).1.1.1.1
      omega
    · obtain ⟨x, hx, _, _, _, _, e, _⟩ := h.2.2 _ hmem h0
      have : (-1 : Int) = 0 := congrArg Prod.fst e
      omega
  · have : (1 : Int) ≤ 0 := hu.1.2.1.1; omega
theorem spoil_ok {w : Wld} (hn : ∀ u ∈ w.U, u.pos.ok) {i : Nat} (hi : i < w.U.length) (k : Nat) : ∀ u ∈ (setUs w (w.U.set i (spoilU w w.U[i] k))).U, u.pos.ok := by
  intro u hu
  rcases List.mem_or_eq_of_mem_set hu with hu | rfl
  · exact hn u hu
  · have h0 := hn _ (List.getElem_mem hi)
    have h71 : InI64 (-1) := by unfold InI64; omega
    have h7 : (spoilU w w.U[i] 7).pos.ok := ⟨h71, h0.2⟩
    by_cases e : k = 7
    · subst e; exact h7
    · have : (spoilU w w.U[i] k).pos = w.U[i].pos := by unfold spoilU; split <;> first | rfl | exact absurd rfl e
      rw [this]; exact h0

theorem not_players (w : Wld) : ¬ mayP { w with players := 0 } := fun h => by have : (1 : Int) ≤ 0 := h.1.1.1.2.1.1; omega
theorem not_next (w : Wld) : ¬ mayP { w with next := 0 } := fun h => by have : (1 : Int) ≤ 0 := h.1.1.1.2.2.1; omega
theorem not_tick (w : Wld) : ¬ mayP { w with tick := -1 } := fun h => by have : (0 : Int) ≤ -1 := h.1.1.1.1.1; omega
end Go.V
namespace Go.V
set_option linter.unusedVariables false

/-- A store of many cells into an object. -/
theorem storeK_objL {i : TI} {A : Fr} {st : Store} {b o : Nat} {v : AV} {xs l : List AV} {K : Fr → Store → Prop} (hc : cellsOf v = some xs) (h1 : xs.all AV.one = true) (hi : i.size = xs.length) (ho : st.obj b = some (.cells l)) (hl : o + xs.length ≤ l.length)
    (hk : K A (st.setObj b (.cells (splice l o xs)))) : storeK i A st (.av (.s (.pointer (some ⟨b, o, none⟩)))) v K := by
  unfold storeK
  rw [hc]
  show (bif Nat.beq xs.length i.size && (xs.all AV.one) then _ else False)
  rw [hi]
  simp only [h1, Nat.beq_refl, Bool.and_self, cond_true]
  rw [ho]
  exact ⟨hl, forceL_intro hk⟩

theorem rad_b (k : Int) : 24576 ≤ kRad k ∧ kRad k ≤ 81920 := by unfold kRad; split <;> (try split) <;> omega

/-- Where a disc stands that is free. -/
theorem free_b {g : Gnd} (hg : gndP g) {l : List Bld} {c : Int} {p : Vc} {k : Int} (h : freeP g l c p (kRad k)) : (24576 ≤ p.1 ∧ p.1 + 24576 ≤ g.W * 65536) ∧ (24576 ≤ p.2 ∧ p.2 + 24576 ≤ g.H * 65536) ∧ (p.1 ≤ 8388608 ∧ p.2 ≤ 8388608) := by
  have h1 := h.1
  have h2 := rad_b k
  obtain ⟨⟨_, h3⟩, ⟨_, h4⟩, _⟩ := hg
  omega

def tileAt (g : Gnd) (p : Vc) : Nat := (p.1 / 65536 + g.W * (p.2 / 65536)).toNat

theorem tileAt_eq {g : Gnd} (hg : gndP g) {p : Vc} (h : (0 ≤ p.1 ∧ p.1 < g.W * 65536) ∧ (0 ≤ p.2 ∧ p.2 < g.H * 65536)) :
    ((tileAt g p : Nat) : Int) = p.1 / 65536 + g.W * (p.2 / 65536) ∧ tileAt g p < g.T.length ∧ ((tileAt g p : Nat) : Int) % g.W = p.1 / 65536 ∧ ((tileAt g p : Nat) : Int) / g.W = p.2 / 65536 := by
  have hs := tile_split hg (x := p.1 / 65536) (y := p.2 / 65536) (by omega) (by omega)
  have ha := gnd_area hg
  unfold tileAt
  generalize p.1 / 65536 = x at *
  generalize p.2 / 65536 = y at *
  have e : ((x + g.W * y).toNat : Int) = x + g.W * y := by omega
  rw [e]
  exact ⟨rfl, by omega, hs.2.2.1, hs.2.2.2⟩

theorem hit_at {g : Gnd} (hg : gndP g) {p : Vc} (h : (0 ≤ p.1 ∧ p.1 < g.W * 65536) ∧ (0 ≤ p.2 ∧ p.2 < g.H * 65536)) {r : Int} (hr : 0 < r) : hitP g (tileAt g p) p r := by
  obtain ⟨h1, h2, h3, h4⟩ := tileAt_eq hg h
  have e1 : off p.1 (tx g (tileAt g p)) = 0 := by
    unfold tx off
    rw [h3]
    generalize hq : p.1 / 65536 = q
    rw [if_neg (by omega), if_neg (by omega)]
  have e2 : off p.2 (ty g (tileAt g p)) = 0 := by
    unfold ty off
    rw [h4]
    generalize hq : p.2 / 65536 = q
    rw [if_neg (by omega), if_neg (by omega)]
  unfold hitP
  rw [e1, e2]
  have := Int.mul_pos hr hr
  omega

theorem free_open {g : Gnd} (hg : gndP g) {l : List Bld} {c : Int} {p : Vc} {k : Int} (h : freeP g l c p (kRad k)) : 0 < price c (g.T.getD (tileAt g p) 0).toNat := by
  have hb := free_b hg h
  have hin : (0 ≤ p.1 ∧ p.1 < g.W * 65536) ∧ (0 ≤ p.2 ∧ p.2 < g.H * 65536) := by omega
  have ht := (tileAt_eq hg hin).2.1
  apply Decidable.byContradiction
  intro hno
  have ho : openB g l c (tileAt g p) = false := by
    unfold openB
    rw [decide_eq_false hno, Bool.and_false]
  exact h.2 _ ht ho (hit_at hg hin (by have := rad_b k; omega))

theorem near_self (p : Vc) (hp : (0 ≤ p.1 ∧ p.1 ≤ 8388608) ∧ (0 ≤ p.2 ∧ p.2 ≤ 8388608)) {r : Int} (hr : 0 < r) : near p p r = true := by
  rw [near_small (by omega) (by omega) (by omega) (by omega) hr, decide_eq_true_iff]
  have := Int.mul_pos hr hr
  simp only [Int.sub_self]
  omega

/-- Onto another one's place. -/
theorem not_onto {w : Wld} (hm : mayP w) {i k : Nat} (hi : i < w.U.length) (hk : k < i) (ha : w.U[i].inn = 0) (hb : (w.U[k]'(by omega)).inn = 0) :
    ¬ clearP w w.U[i].id w.U[i].kind (w.U[k]'(by omega)).pos ∧ ¬ mayP (setUs w (w.U.set i { w.U[i] with pos := (w.U[k]'(by omega)).pos })) := by
  have hg := hm.1.1.2.1.1
  have hlt := risesU_lt' hm.1.2.1 hk hi
  have hkm : w.U[k]'(by omega) ∈ w.U := List.getElem_mem _
  have hfb := free_b hg (hm.2.1 _ hkm hb).1
  have r1 := rad_b w.U[i].kind
  have r2 := rad_b (w.U[k]'(by omega)).kind
  have hself : apart (w.U[k]'(by omega)).pos (kRad w.U[i].kind) (w.U[k]'(by omega)).pos (kRad (w.U[k]'(by omega)).kind) = false := by
    unfold apart
    rw [near_self _ (by omega) (by omega)]
    rfl
  refine ⟨fun h => ?_, fun h => ?_⟩
  · have := h.2 _ hkm hb (by omega)
    rw [hself] at this
    cases this
  · have hmem : { w.U[i] with pos := (w.U[k]'(by omega)).pos } ∈ (setUs w (w.U.set i { w.U[i] with pos := (w.U[k]'(by omega)).pos })).U :=
      List.mem_iff_getElem.2 ⟨i, by show i < (w.U.set i _).length; rw [List.length_set]; exact hi, List.getElem_set_self _⟩
    have hkm2 : w.U[k]'(by omega) ∈ (setUs w (w.U.set i { w.U[i] with pos := (w.U[k]'(by omega)).pos })).U :=
      List.mem_iff_getElem.2 ⟨k, by show k < (w.U.set i _).length; rw [List.length_set]; omega, List.getElem_set_ne (by omega) _⟩
    have := (h.2.1 _ hmem ha).2 _ hkm2 hb (by show (w.U[k]'(by omega)).id ≠ w.U[i].id; omega)
    have this : apart (w.U[k]'(by omega)).pos (kRad w.U[i].kind) (w.U[k]'(by omega)).pos (kRad (w.U[k]'(by omega)).kind) = true := this
    rw [hself] at this
    cases this

/-- Two on the field. -/
theorem apart_far {w : Wld} (hm : mayP w) {i k : Nat} (hi : i < w.U.length) (hk : k < i) (ha : w.U[i].inn = 0) (hb : (w.U[k]'(by omega)).inn = 0) :
    vsub w.U[i].pos (w.U[k]'(by omega)).pos = (w.U[i].pos.1 - (w.U[k]'(by omega)).pos.1, w.U[i].pos.2 - (w.U[k]'(by omega)).pos.2) ∧
    (-8388608 ≤ w.U[i].pos.1 - (w.U[k]'(by omega)).pos.1 ∧ w.U[i].pos.1 - (w.U[k]'(by omega)).pos.1 ≤ 8388608) ∧ (-8388608 ≤ w.U[i].pos.2 - (w.U[k]'(by omega)).pos.2 ∧ w.U[i].pos.2 - (w.U[k]'(by omega)).pos.2 ≤ 8388608) ∧
    ¬ ((w.U[i].pos.1 - (w.U[k]'(by omega)).pos.1) * (w.U[i].pos.1 - (w.U[k]'(by omega)).pos.1) + (w.U[i].pos.2 - (w.U[k]'(by omega)).pos.2) * (w.U[i].pos.2 - (w.U[k]'(by omega)).pos.2) < (kRad w.U[i].kind + kRad (w.U[k]'(by omega)).kind) * (kRad w.U[i].kind + kRad (w.U[k]'(by omega)).kind)) := by
  have hg := hm.1.1.2.1.1
  have hlt := risesU_lt' hm.1.2.1 hk hi
  have hkm : w.U[k]'(by omega) ∈ w.U := List.getElem_mem _
  have hci := hm.2.1 _ (List.getElem_mem hi) ha
  have h1 := free_b hg hci.1
  have h2 := free_b hg (hm.2.1 _ hkm hb).1
  have r1 := rad_b w.U[i].kind
  have r2 := rad_b (w.U[k]'(by omega)).kind
  have h3 := hci.2 _ hkm hb (by omega)
  refine ⟨vsub_small (by omega) (by omega) (by omega) (by omega), by omega, by omega, fun h => ?_⟩
  unfold apart at h3
  rw [near_small (by omega) (by omega) (by omega) (by omega) (by omega), decide_eq_true h] at h3
  cases h3

theorem sq_b {x : Int} (h : -8388608 ≤ x ∧ x ≤ 8388608) : 0 ≤ x * x ∧ x * x ≤ 70368744177664 := by
  have h0 : 0 ≤ x * x := by
    rcases Int.le_total 0 x with h1 | h1
    · exact Int.mul_nonneg h1 h1
    · exact Int.mul_nonneg_of_nonpos_of_nonpos h1 h1
  refine ⟨h0, ?_⟩
  have e : x * x = ((x.natAbs * x.natAbs : Nat) : Int) := Int.natAbs_mul_self.symm
  have h2 : x.natAbs ≤ 8388608 := by omega
  have h3 : x.natAbs * x.natAbs ≤ 8388608 * 8388608 := Nat.mul_le_mul h2 h2
  rw [e]
  omega
end Go.V
namespace Go.V
set_option linter.unusedVariables false

/-- What may be wrong. -/
def eok (e : Int) : Prop := e = 0 ∨ e = 1 ∨ e = 11

theorem must_err {s : Rd} (ok : Bool) (h : eok s.e) : eok (s.must ok).e := by
  unfold Rd.must Rd.fail
  split
  · exact h
  · split
    · exact .inr (.inl rfl)
    · exact h
theorem fail_err {s : Rd} {e : Int} (h : eok s.e) (he : eok e) : eok (s.fail e).e := by
  unfold Rd.fail; split
  · exact he
  · exact h
theorem take_err {s : Rd} {n : Int} {k : Nat} {e : Int} (h : eok s.e) (he : eok e) : eok (s.take n k e).2.e := by
  unfold Rd.take; split
  · exact fail_err h he
  · exact .inl rfl
theorem got_err {s : Rd} {g : Int × Nat × Int} {lo hi : Int} (h : eok s.e) (hg : eok g.2.2) : eok (s.got g lo hi).2.e := by
  unfold Rd.got; split
  · exact h
  · exact must_err _ (take_err h hg)
theorem getNum_err (b : List UInt8) : eok (getNum b).2.2 := by
  rcases getNum_facts b with h | ⟨_, _, h⟩
  · exact .inl h.1
  · exact .inr h
theorem byte_err {s : Rd} (h : eok s.e) : eok s.byte.2.e := by
  unfold Rd.byte; split
  · exact h
  · split
    · exact .inr (.inr rfl)
    · exact .inl rfl
theorem same_err : ∀ (l : List UInt8) {s : Rd}, eok s.e → eok (s.same l).e := by
  intro l
  induction l with
  | nil => intro s h; exact h
  | cons c l ih => intro s h; exact ih (s := s.byte.2.must (s.byte.1 == c)) (must_err _ (byte_err h))
theorem getRaw_err (b : List UInt8) : eok (getRaw b).2.2 := by
  unfold getRaw
  split
  · exact getNum_err b
  · split
    · exact .inr (.inl rfl)
    · split
      · exact .inr (.inr rfl)
      · exact .inl rfl
theorem raw_err {s : Rd} (h : eok s.e) : eok s.raw.2.e := by
  unfold Rd.raw; split
  · exact h
  · exact take_err h (getRaw_err _)

/-- A reader's piece, and how it lays what it reads. -/
structure PL {α : Type} (p : Rd → α × Rd) (enc : α → List UInt8) (ok : α → Prop) : Prop where
  put : ∀ s, (p s).2.e = 0 → s.e = 0 ∧ s.b = enc (p s).1 ++ (p s).2.b
  get : ∀ a rest, ok a → p ⟨enc a ++ rest, 0⟩ = (a, ⟨rest, 0⟩)
  cut : ∀ z s' s, Ct z s' s → (p s).2.e = 0 → Cm z (p s') (p s)
  stick : ∀ s, s.e ≠ 0 → (p s).2 = s
  err : ∀ s, eok s.e → eok (p s).2.e
  len : ∀ s, (p s).2.b.length ≤ s.b.length

theorem PL.stuck {α : Type} {p : Rd → α × Rd} {enc : α → List UInt8} {ok : α → Prop} (h : PL p enc ok) {s : Rd} (hs : s.e = 11) : (p s).2.e = 11 := by
  rw [h.stick s (by rw [hs]; decide)]; exact hs

def anyP (s : Rd) : Int × Rd := s.num 0 9223372036854775807
def signedP (s : Rd) : Int × Rd := s.int (-4611686018427387904) 4611686018427387903
def any64 (n : Int) : Prop := 0 ≤ n ∧ n ≤ 9223372036854775807

theorem num_PL (lo hi : Int) : PL (fun s => s.num lo hi) putZ (fun n => (lo ≤ n ∧ n ≤ hi) ∧ any64 n) where
  put s h := ⟨(num_put h).1, (num_put h).2.1⟩
  get n rest h := num_ok rest h.2.1 h.2.2 h.1.1 h.1.2
  cut z s' s hc h := num_cut hc h
  stick s h := by show (s.num lo hi).2 = s; rw [num_stick h]
  err s h := got_err h (getNum_err _)
  len s := num_len s lo hi
theorem any_PL : PL anyP putZ any64 where
  put s h := (num_PL _ _).put s h
  get n rest h := (num_PL _ _).get n rest ⟨h, h⟩
  cut z s' s hc h := (num_PL _ _).cut z s' s hc h
  stick s h := (num_PL _ _).stick s h
  err s h := (num_PL _ _).err s h
  len s := (num_PL _ _).len s
theorem signed_PL : PL signedP intZ I62 where
  put s h := ⟨(int_put (lo := -4611686018427387904) (hi := 4611686018427387903) h).1, (int_put (lo := -4611686018427387904) (hi := 4611686018427387903) h).2.1⟩
  get n rest h := int_ok rest h (by unfold I62 at h; omega) (by unfold I62 at h; omega)
  cut z s' s hc h := int_cut hc h
  stick s h := by show (s.int _ _).2 = s; rw [int_stick h]
  err s h := got_err h (getNum_err _)
  len s := int_len s _ _

theorem gnd_PL : PL gndR (fun g => putZ (gndL g).length ++ gndL g) gndP where
  put s h := by
    unfold gndR at h ⊢
    by_cases hr : s.raw.2.e = 0
    · rw [if_pos hr] at h ⊢
      obtain ⟨_, h2, h3⟩ := must_e (s := s.raw.2) (ok := decide ((mapParse s.raw.1).2 = 0)) h
      obtain ⟨h4, h5⟩ := raw_put hr
      have h6 := (mapParse_put (of_decide_eq_true h2)).1
      refine ⟨h4, ?_⟩
      dsimp only
      rw [h3, ← h6]
      exact h5
    · rw [if_neg hr] at h
      exact absurd h hr
  get g rest h := by
    have hl := (gndL_len h).2
    unfold gndR
    rw [raw_ok _ _ (by omega)]
    dsimp only
    rw [if_pos rfl, mapParse_ok h]
    rfl
  cut z s' s hc h := by
    unfold gndR at h ⊢
    by_cases hr : s.raw.2.e = 0
    · rw [if_pos hr] at h ⊢
      obtain ⟨_, h2, h3⟩ := must_e (s := s.raw.2) (ok := decide ((mapParse s.raw.1).2 = 0)) h
      rcases raw_cut hc hr with h4 | ⟨h4, h5⟩
      · left
        rw [if_neg (by rw [h4]; decide)]
        exact h4
      · rw [if_pos h5.1, h4, h2]
        exact .inr ⟨rfl, h5⟩
    · rw [if_neg hr] at h
      exact absurd h hr
  stick s h := gndR_stick h
  err s h := by
    unfold gndR
    split
    · show eok (s.raw.2.must (decide ((mapParse s.raw.1).2 = 0))).e
      exact must_err (s := s.raw.2) _ (raw_err h)
    · exact raw_err h
  len s := by
    unfold gndR
    split
    · show (s.raw.2.must (decide ((mapParse s.raw.1).2 = 0))).b.length ≤ _
      rw [must_len]; exact raw_len s
    · exact raw_len s

/-- One piece behind the other. -/
def pairP {α β : Type} (p : Rd → α × Rd) (q : Rd → β × Rd) (s : Rd) : (α × β) × Rd := (((p s).1, (q (p s).2).1), (q (p s).2).2)
theorem pair_PL {α β : Type} {p : Rd → α × Rd} {q : Rd → β × Rd} {enc : α → List UInt8} {enc' : β → List UInt8} {ok : α → Prop} {ok' : β → Prop} (hp : PL p enc ok) (hq : PL q enc' ok') :
    PL (pairP p q) (fun x => enc x.1 ++ enc' x.2) (fun x => ok x.1 ∧ ok' x.2) where
  put s h := by
    obtain ⟨h1, h2⟩ := hq.put _ h
    obtain ⟨h3, h4⟩ := hp.put _ h1
    refine ⟨h3, ?_⟩
    show s.b = enc (p s).1 ++ enc' (q (p s).2).1 ++ (q (p s).2).2.b
    rw [List.append_assoc, ← h2]
    exact h4
  get x rest h := by
    unfold pairP
    rw [List.append_assoc, hp.get x.1 _ h.1]
    dsimp only
    rw [hq.get x.2 rest h.2]
  cut z s' s hc h := by
    have h1 := (hq.put _ h).1
    rcases hp.cut z s' s hc h1 with h2 | ⟨h2, h3⟩
    · exact .inl (hq.stuck h2)
    · rcases hq.cut z _ _ h3 h with h4 | ⟨h4, h5⟩
      · exact .inl h4
      · refine .inr ⟨?_, h5⟩
        show ((p s').1, (q (p s').2).1) = ((p s).1, (q (p s).2).1)
        rw [h2, h4]
  stick s h := by
    show (q (p s).2).2 = s
    rw [hp.stick s h, hq.stick s h]
  err s h := hq.err _ (hp.err _ h)
  len s := Nat.le_trans (hq.len _) (hp.len _)

theorem map_PL {α β : Type} {p : Rd → α × Rd} {enc : α → List UInt8} {ok : α → Prop} (hp : PL p enc ok) (f : α → β) (g : β → α) (h1 : ∀ a, g (f a) = a) (h2 : ∀ b, f (g b) = b) :
    PL (fun s => (f (p s).1, (p s).2)) (fun b => enc (g b)) (fun b => ok (g b)) where
  put s h := by
    dsimp only
    rw [h1]
    exact hp.put s h
  get b rest h := by
    rw [hp.get _ rest h]
    dsimp only
    rw [h2]
  cut z s' s hc h := (hp.cut z s' s hc h).map f
  stick s h := hp.stick s h
  err s h := hp.err s h
  len s := hp.len s

/-- So many of a kind. -/
def Rd.repGo {α : Type} (p : Rd → α × Rd) : Nat → Rd → List α → List α × Rd
  | 0, s, l => (l, s)
  | n + 1, s, l => if s.e ≠ 0 then (l, s) else Rd.repGo p n (p s).2 (l ++ [(p s).1])
section
variable {α : Type} {p : Rd → α × Rd} {enc : α → List UInt8} {ok : α → Prop}
theorem repGo_ok {n : Nat} {s : Rd} {l : List α} (h : s.e = 0) : Rd.repGo p (n + 1) s l = Rd.repGo p n (p s).2 (l ++ [(p s).1]) := by
  rw [Rd.repGo, if_neg (by simpa using h)]
theorem repGo_bad {n : Nat} {s : Rd} {l : List α} (h : s.e ≠ 0) : Rd.repGo p n s l = (l, s) := by
  cases n with
  | zero => rfl
  | succ n => rw [Rd.repGo, if_pos h]
theorem repGo_put (hp : PL p enc ok) : ∀ (n : Nat) (s : Rd) (l : List α), (Rd.repGo p n s l).2.e = 0 → s.e = 0 ∧ ∃ m, (Rd.repGo p n s l).1 = l ++ m ∧ m.length = n ∧ s.b = m.flatMap enc ++ (Rd.repGo p n s l).2.b := by
  intro n
  induction n with
  | zero => intro s l h; exact ⟨h, [], by simp [Rd.repGo], rfl, by simp [Rd.repGo]⟩
  | succ n ih =>
    intro s l h
    by_cases he : s.e = 0
    · rw [repGo_ok he] at h ⊢
      obtain ⟨h1, m, h2, h3, h4⟩ := ih _ _ h
      obtain ⟨_, h6⟩ := hp.put s h1
      refine ⟨he, (p s).1 :: m, by rw [h2]; simp, by simp [h3], ?_⟩
      rw [h6, h4]; simp
    · rw [repGo_bad he] at h
      exact absurd h he
theorem repGo_get (hp : PL p enc ok) : ∀ (m : List α) (rest : List UInt8) (l : List α), (∀ a ∈ m, ok a) → Rd.repGo p m.length ⟨m.flatMap enc ++ rest, 0⟩ l = (l ++ m, ⟨rest, 0⟩) := by
  intro m
  induction m with
  | nil => intro rest l _; simp [Rd.repGo]
  | cons a m ih =>
    intro rest l h
    rw [List.length_cons, repGo_ok rfl]
    have e : (a :: m).flatMap enc ++ rest = enc a ++ (m.flatMap enc ++ rest) := by simp
    rw [e, hp.get a _ (h a (List.mem_cons_self ..))]
    dsimp only
    rw [ih rest _ fun x hx => h x (List.mem_cons_of_mem _ hx)]
    simp
theorem repGo_cut (hp : PL p enc ok) {z : List UInt8} : ∀ (n : Nat) {s' s : Rd} (l : List α), Ct z s' s → (Rd.repGo p n s l).2.e = 0 → Cm z (Rd.repGo p n s' l) (Rd.repGo p n s l) := by
  intro n
  induction n with
  | zero => intro s' s l hc _; exact .inr ⟨rfl, hc⟩
  | succ n ih =>
    intro s' s l hc h
    have h0 : s.e = 0 := (repGo_put hp _ _ _ h).1
    rw [repGo_ok h0] at h ⊢
    rw [repGo_ok hc.1]
    have h1 := (repGo_put hp _ _ _ h).1
    rcases hp.cut z s' s hc h1 with h4 | ⟨h4, h5⟩
    · left
      rw [repGo_bad (by rw [h4]; decide)]
      exact h4
    · rw [h4]
      exact ih _ h5 h
theorem repGo_stick {n : Nat} {s : Rd} {l : List α} (h : s.e ≠ 0) : (Rd.repGo p n s l).2 = s := by rw [repGo_bad h]
theorem repGo_err (hp : PL p enc ok) : ∀ (n : Nat) (s : Rd) (l : List α), eok s.e → eok (Rd.repGo p n s l).2.e := by
  intro n
  induction n with
  | zero => intro s l h; exact h
  | succ n ih =>
    intro s l h
    by_cases he : s.e = 0
    · rw [repGo_ok he]; exact ih _ _ (hp.err s h)
    · rw [repGo_bad he]; exact h
theorem repGo_len (hp : PL p enc ok) : ∀ (n : Nat) (s : Rd) (l : List α), (Rd.repGo p n s l).2.b.length ≤ s.b.length := by
  intro n
  induction n with
  | zero => intro s l; exact Nat.le_refl _
  | succ n ih =>
    intro s l
    by_cases he : s.e = 0
    · rw [repGo_ok he]; exact Nat.le_trans (ih _ _) (hp.len s)
    · rw [repGo_bad he]; exact Nat.le_refl _
end

def cntP {α : Type} (hi : Int) (p : Rd → α × Rd) (s : Rd) : List α × Rd := Rd.repGo p (s.num 0 hi).1.toNat (s.num 0 hi).2 []
theorem cnt_PL {α : Type} {p : Rd → α × Rd} {enc : α → List UInt8} {ok : α → Prop} (hp : PL p enc ok) {hi : Int} (hhi : hi ≤ 9223372036854775807) :
    PL (cntP hi p) (fun l => putZ l.length ++ l.flatMap enc) (fun l => (l.length : Int) ≤ hi ∧ ∀ a ∈ l, ok a) where
  put s h := by
    obtain ⟨h1, m, h2, h3, h4⟩ := repGo_put hp _ _ _ h
    obtain ⟨h5, h6⟩ := (num_PL 0 hi).put s h1
    have h7 := (num_I64 s 0 hi).1
    refine ⟨h5, ?_⟩
    have e : (cntP hi p s).1 = m := by unfold cntP; rw [h2]; rfl
    rw [e, h3, List.append_assoc]
    have e2 : (((s.num 0 hi).1.toNat : Nat) : Int) = (s.num 0 hi).1 := by omega
    rw [e2]
    exact h6.trans (congrArg _ h4)
  get l rest h := by
    have h1 := (num_PL 0 hi).get (l.length : Int) (l.flatMap enc ++ rest) ⟨⟨by omega, h.1⟩, by unfold any64; omega⟩
    unfold cntP
    rw [List.append_assoc]
    rw [h1]
    dsimp only
    rw [Int.toNat_natCast, repGo_get hp _ _ _ h.2]
    simp
  cut z s' s hc h := by
    have h1 := (repGo_put hp _ _ _ h).1
    rcases (num_PL 0 hi).cut z s' s hc h1 with h2 | ⟨h2, h3⟩
    · left
      have h2 : (s'.num 0 hi).2.e = 11 := h2
      unfold cntP
      rw [repGo_stick (by rw [h2]; decide)]
      exact h2
    · have h2 : (s'.num 0 hi).1 = (s.num 0 hi).1 := h2
      unfold cntP
      rw [h2]
      exact repGo_cut hp _ _ h3 h
  stick s h := by
    unfold cntP
    have e : (s.num 0 hi).2 = s := (num_PL 0 hi).stick s h
    rw [e, repGo_stick h]
  err s h := repGo_err hp _ _ _ ((num_PL 0 hi).err s h)
  len s := Nat.le_trans (repGo_len hp _ _ _) ((num_PL 0 hi).len s)

def sameP (l : List UInt8) (s : Rd) : Unit × Rd := ((), s.same l)
theorem same_PL (l : List UInt8) : PL (sameP l) (fun _ => l) (fun _ => True) where
  put s h := same_put l s h
  get _ rest _ := by unfold sameP; rw [same_ok]
  cut z s' s hc h := by
    rcases same_cut l hc h with h1 | h1
    · exact .inl h1
    · exact .inr ⟨rfl, h1⟩
  stick s h := same_stick l h
  err s h := same_err l h
  len s := same_len s l
end Go.V
namespace Go.V
set_option linter.unusedVariables false

/-- A building, a unit, of their bytes. -/
def bldT (s : Rd) := pairP anyP (pairP anyP (pairP anyP (pairP anyP (pairP anyP anyP)))) s
def bldP_ (s : Rd) : Bld × Rd := ((fun t : Int × Int × Int × Int × Int × Int => (⟨t.1, t.2.1, t.2.2.1, t.2.2.2.1, t.2.2.2.2.1, t.2.2.2.2.2⟩ : Bld)) (bldT s).1, (bldT s).2)
def untT (s : Rd) := pairP anyP (pairP anyP (pairP anyP (pairP signedP (pairP signedP (pairP anyP (pairP anyP (pairP anyP (pairP anyP anyP)))))))) s
def untP_ (s : Rd) : Unt × Rd := ((fun t : Int × Int × Int × Int × Int × Int × Int × Int × Int × Int => (⟨t.1, t.2.1, t.2.2.1, (t.2.2.2.1, t.2.2.2.2.1), t.2.2.2.2.2.1 - 1, t.2.2.2.2.2.2.1 - 1, t.2.2.2.2.2.2.2.1, t.2.2.2.2.2.2.2.2.1, t.2.2.2.2.2.2.2.2.2⟩ : Unt)) (untT s).1, (untT s).2)

def bldL (b : Bld) : List UInt8 := numsL [b.id, b.owner, b.x, b.y, b.w, b.h]
def untL (u : Unt) : List UInt8 := numsL [u.id, u.owner, u.kind] ++ intZ u.pos.1 ++ intZ u.pos.2 ++ numsL [u.goal + 1, u.next + 1, u.stuck, u.inn, u.state]
def worldL (w : Wld) : List UInt8 :=
  [84, 87] ++ numsL [w.tick, w.players, w.next] ++ (putZ (gndL w.G).length ++ gndL w.G) ++ (putZ w.B.length ++ w.B.flatMap bldL) ++ (putZ w.U.length ++ w.U.flatMap untL)
def imgL (w : Wld) : List UInt8 := worldL w ++ eightL (fnvSum fnvStart (worldL w))

def bldN (b : Bld) : Prop := any64 b.id ∧ any64 b.owner ∧ any64 b.x ∧ any64 b.y ∧ any64 b.w ∧ any64 b.h
def untN (u : Unt) : Prop := any64 u.id ∧ any64 u.owner ∧ any64 u.kind ∧ I62 u.pos.1 ∧ I62 u.pos.2 ∧ any64 (u.goal + 1) ∧ any64 (u.next + 1) ∧ any64 u.stuck ∧ any64 u.inn ∧ any64 u.state

theorem PL.of {α : Type} {p q : Rd → α × Rd} {enc enc' : α → List UInt8} {ok ok' : α → Prop} (h : PL p enc ok) (e1 : ∀ s, q s = p s) (e2 : ∀ a, enc' a = enc a) (e3 : ∀ a, ok' a → ok a) : PL q enc' ok' where
  put s hs := by rw [e1] at hs ⊢; rw [e2]; exact h.put s hs
  get a rest ha := by rw [e1, e2]; exact h.get a rest (e3 a ha)
  cut z s' s hc hs := by rw [e1] at hs; rw [e1, e1]; exact h.cut z s' s hc hs
  stick s hs := by rw [e1]; exact h.stick s hs
  err s hs := by rw [e1]; exact h.err s hs
  len s := by rw [e1]; exact h.len s

theorem bld_PL : PL bldP_ bldL bldN :=
  (map_PL (pair_PL any_PL (pair_PL any_PL (pair_PL any_PL (pair_PL any_PL (pair_PL any_PL any_PL)))))
    (fun t : Int × Int × Int × Int × Int × Int => (⟨t.1, t.2.1, t.2.2.1, t.2.2.2.1, t.2.2.2.2.1, t.2.2.2.2.2⟩ : Bld)) (fun b => (b.id, b.owner, b.x, b.y, b.w, b.h)) (fun _ => rfl) (fun _ => rfl)).of
    (fun s => rfl) (fun b => by simp [bldL, numsL]) (fun b h => h)
theorem unt_PL : PL untP_ untL untN :=
  (map_PL (pair_PL any_PL (pair_PL any_PL (pair_PL any_PL (pair_PL signed_PL (pair_PL signed_PL (pair_PL any_PL (pair_PL any_PL (pair_PL any_PL (pair_PL any_PL any_PL)))))))))
    (fun t : Int × Int × Int × Int × Int × Int × Int × Int × Int × Int => (⟨t.1, t.2.1, t.2.2.1, (t.2.2.2.1, t.2.2.2.2.1), t.2.2.2.2.2.1 - 1, t.2.2.2.2.2.2.1 - 1, t.2.2.2.2.2.2.2.1, t.2.2.2.2.2.2.2.2.1, t.2.2.2.2.2.2.2.2.2⟩ : Unt))
    (fun u => (u.id, u.owner, u.kind, u.pos.1, u.pos.2, u.goal + 1, u.next + 1, u.stuck, u.inn, u.state)) (fun t => by obtain ⟨a, b, c, d, e, f, g, h, i, j⟩ := t; simp) (fun u => by obtain ⟨a, b, c, ⟨d, e⟩, f, g, h, i, j⟩ := u; simp)).of
    (fun s => rfl) (fun u => by simp [untL, numsL]) (fun u h => h)

abbrev WT := Unit × Int × Int × Int × Gnd × List Bld × List Unt
def worldT (s : Rd) : WT × Rd := pairP (sameP [84, 87]) (pairP anyP (pairP anyP (pairP anyP (pairP gndR (pairP (cntP 256 bldP_) (cntP 4096 untP_)))))) s
def wldOf (t : WT) : Wld := ⟨t.2.1, t.2.2.1, t.2.2.2.1, t.2.2.2.2.1, t.2.2.2.2.2.1, t.2.2.2.2.2.2⟩
def worldP_ (s : Rd) : Wld × Rd := (wldOf (worldT s).1, (worldT s).2)
def wldN (w : Wld) : Prop := any64 w.tick ∧ any64 w.players ∧ any64 w.next ∧ gndP w.G ∧ ((w.B.length : Int) ≤ 256 ∧ ∀ b ∈ w.B, bldN b) ∧ (w.U.length : Int) ≤ 4096 ∧ ∀ u ∈ w.U, untN u
theorem world_PL : PL worldP_ worldL wldN :=
  (map_PL (pair_PL (same_PL [84, 87]) (pair_PL any_PL (pair_PL any_PL (pair_PL any_PL (pair_PL gnd_PL (pair_PL (cnt_PL bld_PL (by decide)) (cnt_PL unt_PL (by decide))))))))
    wldOf (fun w : Wld => ((), w.tick, w.players, w.next, w.G, w.B, w.U)) (fun _ => rfl) (fun _ => rfl)).of
    (fun s => rfl) (fun w => by simp [worldL, numsL]) (fun w h => ⟨trivial, h⟩)

/-- What any bytes are: the world, up to its sum; what is wrong. -/
def imgW (b : List UInt8) : Wld := (worldP_ ⟨b, 0⟩).1
def imgS (b : List UInt8) : Rd := (worldP_ ⟨b, 0⟩).2
def imgE (b : List UInt8) : Int := (((imgS b).same (eightL (fnvSum fnvStart (b.take (b.length - (imgS b).b.length))))).fin).e

theorem imgS_len (b : List UInt8) : (imgS b).b.length ≤ b.length := world_PL.len ⟨b, 0⟩

theorem img_put {b : List UInt8} (h : imgE b = 0) : b = imgL (imgW b) := by
  unfold imgE at h
  obtain ⟨h1, h2, _⟩ := fin_put h
  obtain ⟨h3, h4⟩ := same_put _ _ h1
  obtain ⟨_, h6⟩ := world_PL.put ⟨b, 0⟩ h3
  have h6 : b = worldL (imgW b) ++ (imgS b).b := h6
  rw [h2, List.append_nil] at h4
  have hlen : b.length - (imgS b).b.length = (worldL (imgW b)).length := by
    have := congrArg List.length h6
    rw [List.length_append] at this
    omega
  have htk : b.take (b.length - (imgS b).b.length) = worldL (imgW b) := by
    rw [hlen]
    have e := congrArg (List.take (worldL (imgW b)).length) h6
    rw [List.take_left] at e
    exact e
  rw [htk] at h4
  unfold imgL
  rw [← h4]
  exact h6

theorem img_get {w : Wld} (h : wldN w) (rest : List UInt8) : imgW (imgL w ++ rest) = w ∧ imgS (imgL w ++ rest) = ⟨eightL (fnvSum fnvStart (worldL w)) ++ rest, 0⟩ := by
  have h1 := world_PL.get w (eightL (fnvSum fnvStart (worldL w)) ++ rest) h
  have e : imgL w ++ rest = worldL w ++ (eightL (fnvSum fnvStart (worldL w)) ++ rest) := by unfold imgL; rw [List.append_assoc]
  unfold imgW imgS
  rw [e, h1]
  exact ⟨rfl, rfl⟩
theorem img_same {w : Wld} (h : wldN w) (rest : List UInt8) : imgE (imgL w ++ rest) = (Rd.fin ⟨rest, 0⟩).e := by
  obtain ⟨_, h2⟩ := img_get h rest
  unfold imgE
  rw [h2]
  have e1 : (imgL w ++ rest).length - (eightL (fnvSum fnvStart (worldL w)) ++ rest).length = (worldL w).length := by
    unfold imgL
    simp only [List.length_append]
    omega
  have e2 : (imgL w ++ rest).take ((imgL w ++ rest).length - (eightL (fnvSum fnvStart (worldL w)) ++ rest).length) = worldL w := by
    rw [e1]
    unfold imgL
    rw [List.append_assoc, List.take_left]
  dsimp only
  rw [e2, same_ok]
theorem img_ok {w : Wld} (h : wldN w) : imgW (imgL w) = w ∧ imgE (imgL w) = 0 := by
  have h1 := (img_get h []).1
  have h2 := img_same h []
  rw [List.append_nil] at h1 h2
  exact ⟨h1, h2⟩
theorem img_more {w : Wld} (h : wldN w) (c : UInt8) (rest : List UInt8) : imgE (imgL w ++ c :: rest) = 1 := by
  rw [img_same h]
  rfl
theorem img_err (b : List UInt8) : eok (imgE b) := must_err _ (same_err _ (world_PL.err _ (.inl rfl)))

theorem img_cut {w : Wld} (h : wldN w) {b z : List UInt8} (hb : imgL w = b ++ z) (hz : z ≠ []) : imgE b = 11 := by
  have h0 := (img_ok h).2
  rw [hb] at h0
  unfold imgE at h0
  obtain ⟨h1, h2, _⟩ := fin_put h0
  have h3 := (same_put _ _ h1).1
  unfold imgE
  rcases world_PL.cut z ⟨b, 0⟩ ⟨b ++ z, 0⟩ ⟨rfl, rfl⟩ h3 with h4 | ⟨_, h4⟩
  · exact must_stuck (same_stuck _ h4)
  · have h4 : Ct z (imgS b) (imgS (b ++ z)) := h4
    rw [cut_take rfl h4.2 (imgS_len b)] at h1 h2
    rcases same_cut _ h4 h1 with h5 | h5
    · exact must_stuck h5
    · have := h5.2
      rw [h2] at this
      simp at this
      exact absurd this.2 hz

theorem ride_pos {w : Wld} (hm : mayP w) {u : Unt} (hu : u ∈ w.U) : (0 ≤ u.pos.1 ∧ u.pos.1 ≤ 8388608) ∧ (0 ≤ u.pos.2 ∧ u.pos.2 ≤ 8388608) ∧ (0 ≤ u.inn ∧ u.inn ≤ 1099511627776) := by
  by_cases h : u.inn = 0
  · have := free_b hm.1.1.2.1.1 (hm.2.1 u hu h).1
    omega
  · obtain ⟨x, hx, e, _, _, _, e2, _⟩ := hm.2.2 u hu h
    have h1 := (hm.1.2.2 x hx).1.1.1
    have h2 := hm.1.1.1.2.2.2
    rw [e2]
    refine ⟨⟨by decide, by decide⟩, ⟨by decide, by decide⟩, ?_⟩
    omega

theorem may_nums {w : Wld} (hm : mayP w) : wldN w := by
  have hh := hm.1.1
  have hg := hh.2.1.1
  have hbl := hh.2.1.2.1
  have ha := gnd_area hg
  obtain ⟨⟨q1, q2⟩, ⟨q3, q4⟩, _⟩ := id hg
  obtain ⟨⟨a1, a2⟩, ⟨a3, a4⟩, a5, a6⟩ := hh.1
  refine ⟨⟨a1, by omega⟩, ⟨by omega, by omega⟩, ⟨by omega, by omega⟩, hg, ⟨?_, fun b hb => ?_⟩, ?_, fun u hu => ?_⟩
  · have := hbl.1; omega
  · obtain ⟨⟨⟨b1, b2⟩, ⟨b3, b4⟩, ⟨b5, b6⟩, b7, b8⟩, ⟨⟨c1, c2⟩, c3, c4⟩, _⟩ := hbl.2.2.1 b hb
    unfold bldN any64
    omega
  · have := hh.2.1.2.2; omega
  · obtain ⟨⟨⟨⟨u1, u2⟩, ⟨u3, u4⟩, u5, u6⟩, ⟨u7, u8, u9, u10⟩, ⟨⟨u11, u12⟩, _⟩, _⟩, _⟩ := hm.1.2.2 u hu
    have hp := ride_pos hm hu
    unfold tileN at u7 u8
    unfold untN any64 I62
    omega
end Go.V
namespace Go.V
set_option linter.unusedVariables false

theorem signed_bd (s : Rd) : InI64 (signedP s).1 := by
  have h0 : InI64 0 := ⟨by decide, by decide⟩
  have h : ∀ g : Int × Nat × Int, InI64 g.1 → InI64 (s.got g (-4611686018427387904) 4611686018427387903).1 := fun g hg => by
    unfold Rd.got
    split
    · exact h0
    · unfold Rd.take
      split
      · exact h0
      · exact hg
  refine h _ ?_
  have hz : 0 ≤ (getNum s.b).1 ∧ (getNum s.b).1 < 9223372036854775808 := by
    rcases getNum_facts s.b with h | h
    · omega
    · omega
  have := zig_bd hz.1 hz.2
  show InI64 (zig (getNum s.b).1)
  unfold InI64
  omega

theorem repGo_all {α : Type} {p : Rd → α × Rd} {Q : α → Prop} (hp : ∀ s, Q (p s).1) : ∀ (n : Nat) (s : Rd) (l : List α), (∀ x ∈ l, Q x) → ∀ x ∈ (Rd.repGo p n s l).1, Q x := by
  intro n
  induction n with
  | zero => intro s l h; exact h
  | succ n ih =>
    intro s l h
    by_cases he : s.e = 0
    · rw [repGo_ok he]
      refine ih _ _ fun x hx => ?_
      rcases List.mem_append.1 hx with hx | hx
      · exact h x hx
      · simp at hx; subst hx; exact hp s
    · rw [repGo_bad he]; exact h

theorem img_pos (b : List UInt8) : ∀ u ∈ (imgW b).U, u.pos.ok := by
  have : ∀ s, ∀ u ∈ (cntP 4096 untP_ s).1, u.pos.ok := fun s => repGo_all (p := untP_) (Q := fun u => u.pos.ok) (fun s => ⟨signed_bd _, signed_bd _⟩) _ _ _ (fun x hx => by cases hx)
  exact this _

theorem cnt_count {α : Type} {p : Rd → α × Rd} {enc : α → List UInt8} {ok : α → Prop} (hp : PL p enc ok) {hi : Int} {s : Rd} (h : (cntP hi p s).2.e = 0) : ((cntP hi p s).1.length : Int) ≤ hi := by
  obtain ⟨h1, m, h2, h3, _⟩ := repGo_put hp _ _ _ h
  have h5 := (num_put h1).2.2.2
  have h7 := (num_I64 s 0 hi).1
  have e : (cntP hi p s).1 = m := by unfold cntP; rw [h2]; rfl
  rw [e, h3]
  omega

theorem img_fits {b : List UInt8} (h : imgE b = 0) : (imgW b).fits := by
  unfold imgE at h
  have h3 := (same_put _ _ (fin_put h).1).1
  have eU : (imgS b) = (cntP 4096 untP_ (cntP 256 bldP_ (gndR (anyP (anyP (anyP (Rd.same ⟨b, 0⟩ [84, 87])).2).2).2).2).2).2 := rfl
  rw [eU] at h3
  have u1 := cnt_count unt_PL h3
  have hB := ((cnt_PL unt_PL (hi := 4096) (by decide)).put _ h3).1
  have u2 := cnt_count bld_PL hB
  have hg := ((cnt_PL bld_PL (hi := 256) (by decide)).put _ hB).1
  have eG : (imgW b).G = (gndR (anyP (anyP (anyP (Rd.same ⟨b, 0⟩ [84, 87])).2).2).2).1 := rfl
  have eB : (imgW b).B = (cntP 256 bldP_ (gndR (anyP (anyP (anyP (Rd.same ⟨b, 0⟩ [84, 87])).2).2).2).2).1 := rfl
  have eU2 : (imgW b).U = (cntP 4096 untP_ (cntP 256 bldP_ (gndR (anyP (anyP (anyP (Rd.same ⟨b, 0⟩ [84, 87])).2).2).2).2).2).1 := rfl
  refine ⟨?_, by rw [eB]; omega, by rw [eU2]; omega⟩
  rw [eG]
  generalize (anyP (anyP (anyP (Rd.same ⟨b, 0⟩ [84, 87])).2).2).2 = s at hg
  have hr : s.raw.2.e = 0 := by
    apply Decidable.byContradiction
    intro hn
    unfold gndR at hg
    rw [if_neg hn] at hg
    exact hn hg
  have e5 : gndR s = ((mapParse s.raw.1).1, s.raw.2.must (decide ((mapParse s.raw.1).2 = 0))) := by unfold gndR; rw [if_pos hr]
  rw [e5] at hg
  have h2 := (must_e (s := s.raw.2) (ok := decide ((mapParse s.raw.1).2 = 0)) hg).2.1
  have hgp := (mapParse_put (of_decide_eq_true h2)).2
  have e6 : (gndR s).1 = (mapParse s.raw.1).1 := by rw [e5]
  rw [e6]
  have ha := gnd_area hgp
  unfold Gnd.fits
  omega
end Go.V
namespace Go.V
set_option linter.unusedVariables false

/-- What a call has made and hands back is plain from then on. -/
theorem ACalls.frozen {P : Program} {f : FuncId} {xs : List AV} {Q : AV → Store → Prop} {R : AV → Prop} (h : ACalls P f xs Store.empty Q)
    (hQ : ∀ r S, Q r S → ∃ r2, R r2 ∧ ∀ (Oth M : Nat → Nat → Prop) (w : World) (v : Value), StoreOK S Oth M w → VRel w (fun b o => M b o ∨ Oth b o) r v → VRel w (fun b o => (M b o ∨ Oth b o) ∧ S.obj b = none) r2 v) :
    ACalls P f xs Store.empty fun r _ => R r := by
  refine ⟨fun Oth M w vs sto hr => ?_⟩
  have h1 := h.out Oth M w vs sto hr
  have key : ∀ v w', CallPost Store.empty Q Oth M w v w' → CallPost Store.empty (fun r _ => R r) Oth M w v w' := by
    rintro v w' ⟨r, S, M', hq, hv, hs, hc⟩
    obtain ⟨r2, hr2, hk⟩ := hQ r S hq
    refine ⟨r2, Store.empty, fun b o => M' b o ∧ S.obj b = none, hr2, (hk Oth M' w' v hs hv).mono fun b o hT => ?_, ?_, ?_⟩
    · rcases hT with ⟨h1, h2⟩ | h1
      · exact ⟨.inl h1, h2⟩
      · refine ⟨.inr h1, ?_⟩
        cases hb : S.obj b with
        | none => rfl
        | some y => exact absurd ((hs.obj b y hb).2 o) (hs.dis b o h1)
    · exact { obj := fun b x hx => (by cases hx), tok := fun b x hx => (by cases hx), mlt := fun b o hm => hs.mlt b o hm.1, olt := hs.olt, dis := fun b o ho hm => hs.dis b o ho hm.1 }
    · exact { size := hc.size, keep := hc.keep, blk := hc.blk, shp := hc.shp, sub := fun b o hm hb => hc.sub b o hm.1 hb, tape := hc.tape, os := hc.os, output := hc.output }
  generalize (callFunc f vs).run P w = res at h1
  cases res with
  | ok n w' =>
    cases n with
    | enter g args => exact Calls.mono h1 fun e w'' ⟨v, he, hv⟩ => ⟨v, he, key _ _ hv⟩
    | value v => exact key _ _ h1
    | _ => exact h1
  | _ => exact h1
end Go.V
