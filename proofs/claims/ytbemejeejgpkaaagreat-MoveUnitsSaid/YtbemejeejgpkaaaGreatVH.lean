/- The ground on which laws of thronglaw24 are proved: contracts of functions and plain lemmas; no condition beyond the row's own. -/
import Derived.Test.YtbemejeejgpkaaaGreatVG
set_option linter.unusedSimpArgs false
set_option linter.unusedVariables false
namespace Go.V
/-- A slice over an object: its elements, and how much room. -/
def RowsO {α : Type} (k : Nat) (f : α -> List AV) (st : Store) (v : AV) (l : List α) : Prop :=
 (v = .s (.slice none 0 0) /\ l = []) \/ ∃ b cap L, v = .s (.slice (some ⟨b, 0, none⟩) l.length cap) /\ st.obj b = some (.cells ((rws f l).flatten ++ L)) /\ l.length <= cap /\ cap * k <= l.length * k + L.length /\ cap <= 9223372036854775807
section
variable {α : Type} {f : α -> List AV} {k : Nat}
theorem y9 (hf : ∀ x, (f x).length = k) (l : List α) : (rws f l).flatten.length = l.length * k := by
 induction l with
 | nil => simp [rws]
 | cons a l ih =>
  show (f a ++ (rws f l).flatten).length = (l.length + 1) * k
  rw [List.length_append, hf, ih, Nat.succ_mul]; omega
theorem za1 (a b : List α) : (rws f (a ++ b)).flatten = (rws f a).flatten ++ (rws f b).flatten := by
 rw [<- zuu, List.flatten_append]
theorem zcw {l : List α} {i : Nat} (hi : i < l.length) : (rws f l).flatten = (rws f (l.take i)).flatten ++ (f l[i] ++ (rws f (l.drop (i + 1))).flatten) := by
 have e : l = l.take i ++ (l[i] :: l.drop (i + 1)) := by
  rw [<- List.drop_eq_getElem_cons hi, List.take_append_drop]
 have e2 : (rws f (l[i] :: l.drop (i + 1))).flatten = f l[i] ++ (rws f (l.drop (i + 1))).flatten := rfl
 rw [<- e2, <- za1, <- e]
theorem zn3 {X Y ys : List AV} {j : Nat} (h : j + ys.length <= X.length) : zo (X ++ Y) j ys = zo X j ys ++ Y := by
 unfold zo
 rw [List.take_append_of_le_length (by omega), List.drop_append_of_le_length (by omega)]
 simp only [List.append_assoc]
/-- One cell of an element is stored. -/
theorem w9 (hf : ∀ x, (f x).length = k) {l : List α} {i j : Nat} (hi : i < l.length) {x' : α} {ys L : List AV} (hj : j + ys.length <= k) (hx : f x' = zo (f l[i]) j ys) :
  zo ((rws f l).flatten ++ L) (i * k + j) ys = (rws f (l.set i x')).flatten ++ L := by
 have h1 : (rws f (l.take i)).flatten.length = i * k := by rw [y9 hf, List.length_take, Nat.min_eq_left (by omega)]
 have hi2 : i < (l.set i x').length := by rw [List.length_set]; exact hi
 rw [zcw hi, zcw hi2, List.append_assoc, List.append_assoc, <- h1, zf0]
 have e1 : (l.set i x').take i = l.take i := by rw [List.take_set_of_le (Nat.le_refl i)]
 have e2 : (l.set i x').drop (i + 1) = l.drop (i + 1) := by rw [List.drop_set_of_lt (by omega)]
 rw [e1, e2, List.getElem_set_self, hx]
 have h3 := hf l[i]
 rw [List.append_assoc, zn3 (by omega)]
 simp only [List.append_assoc]
theorem RowsO.un {a g : Store} {v : AV} {l : List α} (h : RowsO k f g v l) : RowsO k f (a.un g) v l := by
 rcases h with h | ⟨b1, cap, L, h1, h2, h3⟩
 ·exact .inl h
 ·exact .inr ⟨b1, cap, L, h1, un_r h2, h3⟩
theorem RowsO.unL {a g : Store} {v : AV} {l : List α} (h : RowsO k f a v l) (hd : Disj a g) : RowsO k f (a.un g) v l := by
 rcases h with h | ⟨b1, cap, L, h1, h2, h3⟩
 ·exact .inl h
 ·exact .inr ⟨b1, cap, L, h1, un_l hd h2, h3⟩
/-- Where an element stands, and what is left when one cell of it is stored. -/
theorem RowsO.at {st : Store} {v : AV} {l : List α} (h : RowsO k f st v l) {i : Nat} (hi : i < l.length) :
  ∃ b cap L, v = .s (.slice (some ⟨b, 0, none⟩) l.length cap) /\ st.obj b = some (.cells ((rws f l).flatten ++ L)) /\ l.length <= cap /\ cap * k <= l.length * k + L.length /\ cap <= 9223372036854775807 := by
 rcases h with ⟨_, rfl⟩ | h
 ·exact absurd hi (Nat.not_lt_zero i)
 ·exact h
theorem RowsO.borrow {st : Store} {v : AV} {l : List α} (hf : ∀ x, (f x).length = k) (hs : ∀ x, ∀ y ∈ f x, ∃ u, y = AV.s u /\ z8 u = true) (hv : RowsO k f st v l) {Oth M : Nat -> Nat -> Prop} {w : World} (sto : StoreOK st Oth M w) {x : Value} (hx : VRel w (fun b o => M b o \/ Oth b o) v x) :
  VRel w (fun b o => (M b o \/ Oth b o) /\ st.obj b = none) (lst k f l) x := by
 rcases hv with ⟨rfl, rfl⟩ | ⟨b, cap, L, rfl, ho, h1, h2, h3⟩
 ·cases hx
  exact AV.le_nil k _ _ _ (.s _)
 ·cases hx
  exact zi7 (sto.obj b _ ho).1 (fun o hT => by rw [ho] at hT; exact absurd hT.2 (by simp)) (zi l) h1
   (fun row hr => by obtain ⟨n, _, rfl⟩ := List.mem_map.1 hr; exact hf n) (fun row hr y hy => by
    obtain ⟨n, _, rfl⟩ := List.mem_map.1 hr
    exact hs n y hy)
/-- An append of one element to elements over an object. -/
theorem zpm {P : Program} {c : Cfg} {e : TypeId} {ie : TI} (hie : c.I e = some ie) (hf : ∀ x, (f x).length = ie.size) (hby : ie.bytes <= 1000) {st : Store} {v : AV} {l : List α} (hv : RowsO ie.size f st v l) (x : α) {src : AV} (hsrc : qf ie.size (.av src) = some [f x]) (hlen : l.length <= 1000000000) {K : AV -> Store -> Prop}
  (h : ∀ b cap L, (Fresh st b \/ ∃ c0, v = .s (.slice (some ⟨b, 0, none⟩) l.length c0)) -> (l ++ [x]).length <= cap -> cap * ie.size <= (l ++ [x]).length * ie.size + L.length -> cap <= 9223372036854775807 ->
   K (.s (.slice (some ⟨b, 0, none⟩) (l ++ [x]).length cap)) (st.setObj b (.cells ((rws f (l ++ [x])).flatten ++ L)))) : appendK P c st e (.av v) (.av src) K := by
 refine ⟨.inr ⟨v, _, rfl, rfl, ?_⟩⟩
 have hl : (l ++ [x]).length = l.length + 1 := by simp
 have hfl := y9 hf l
 have hmul : (l.length + 1) * ie.bytes <= 1000000001 * 1000 := Nat.mul_le_mul (by omega) hby
 have happ : (rws f (l ++ [x])).flatten = (rws f l).flatten ++ f x := by
  rw [za1]
  show _ ++ (f x ++ []) = _
  rw [List.append_nil]
 rcases hv with ⟨rfl, rfl⟩ | ⟨b, cap, L, rfl, ho, h1, h2, h3⟩
 ·refine zkx hie hsrc ⟨by simp at hmul ⊢; omega, by simp⟩ (by simp) (fun b' cap' hb hc hc2 => ?_)
  have := h b' cap' (List.replicate ((cap' - [f x].length) * ie.size) .any) (.inl hb) (by simpa using hc) (by
   simp only [List.length_replicate, List.nil_append, List.length_singleton, <- Nat.add_mul]
   exact Nat.mul_le_mul_right _ (by omega)) hc2
  exact this
 ·refine zq2 hie (cap := cap) ho (by rw [List.length_append, hfl]; exact h2) h1 hsrc ⟨by simp; omega, by simp; omega⟩ (fun hc => ?_) (fun hc b' cap' hb hc1 hc2 => ?_)
  ·have hc : l.length + 1 <= cap := hc
   have hcm : (l.length + 1) * ie.size <= cap * ie.size := Nat.mul_le_mul_right _ hc
   rw [Nat.succ_mul] at hcm
   have e1 : zo ((rws f l).flatten ++ L) (l.length * ie.size) [f x].flatten = (rws f (l ++ [x])).flatten ++ L.drop ie.size := by
    rw [ku hfl, happ]
    simp [hf x]
   have := h b cap (L.drop ie.size) (.inr ⟨cap, rfl⟩) (by omega) (by rw [hl, Nat.succ_mul, List.length_drop]; omega) h3
   rw [hl, <- e1] at this
   exact this
  ·have hc1 : l.length + 1 <= cap' := hc1
   have e1 : ((rws f l).flatten ++ L).take (l.length * ie.size) ++ [f x].flatten ++ List.replicate ((cap' - (l.length + 1)) * ie.size) .any = (rws f (l ++ [x])).flatten ++ List.replicate ((cap' - (l.length + 1)) * ie.size) .any := by
    rw [List.take_append_of_le_length (by omega), List.take_of_length_le (by omega), happ]
    simp
   have := h b' cap' (List.replicate ((cap' - (l.length + 1)) * ie.size) .any) (.inl hb) (by omega) (by
    rw [hl, List.length_replicate, <- Nat.add_mul]
    exact Nat.mul_le_mul_right _ (by omega)) hc2
   rw [hl, <- e1] at this
   exact this
end
theorem y5 (u : Unt) : (untC u).length = 10 := rfl
theorem yji (u : Unt) : ∀ y ∈ untC u, ∃ x, y = AV.s x /\ z8 x = true := by
 intro y hy
 simp [untC] at hy
 rcases hy with rfl | rfl | rfl | rfl | rfl | rfl | rfl | rfl | rfl | rfl <;> exact ⟨_, rfl, rfl⟩
/-- A world whose units stand in an object. -/
def wldV (w : Wld) (v : AV) : List AV := [int w.tick, int w.players, int w.next, int w.G.W, int w.G.H, byts w.G.T, lst 6 bldC w.B, v]
end Go.V
namespace Go.V
theorem xd {l : List Unt} (hr : yf l) {a b : Nat} (hab : a < b) (hb : b < l.length) : (l[a]'(by omega)).id < l[b].id := by
 induction b with
 | zero => omega
 | succ b ih =>
  have h3 := hr (b + 1) hb (by omega)
  simp only [Nat.add_sub_cancel] at h3
  by_cases e : a = b
  ·subst e; exact h3
  ·have := ih (by omega) (by omega)
   omega
end Go.V
namespace Go.V
/-- A store of many cells into an object. -/
theorem yw {i : TI} {A : Fr} {st : Store} {b o : Nat} {v : AV} {xs l : List AV} {K : Fr -> Store -> Prop} (hc : cellsOf v = some xs) (h1 : xs.all AV.one = true) (hi : i.size = xs.length) (ho : st.obj b = some (.cells l)) (hl : o + xs.length <= l.length)
  (hk : K A (st.setObj b (.cells (zo l o xs)))) : zcs i A st (.av (.s (.pointer (some ⟨b, o, none⟩)))) v K := by
 unfold zcs
 rw [hc]
 show (bif Nat.beq xs.length i.size && (xs.all AV.one) then _ else False)
 rw [hi]
 simp only [h1, Nat.beq_refl, Bool.and_self, cond_true]
 rw [ho]
 exact ⟨hl, xa hk⟩
theorem zoe (k : Int) : 24576 <= kRad k /\ kRad k <= 81920 := by unfold kRad; split <;> (try split) <;> omega
/-- Where a disc stands that is free. -/
theorem zqr {g : Gnd} (hg : gndP g) {l : List Bld} {c : Int} {p : Vc} {k : Int} (h : ze5 g l c p (kRad k)) : (24576 <= p.1 /\ p.1 + 24576 <= g.W * 65536) /\ (24576 <= p.2 /\ p.2 + 24576 <= g.H * 65536) /\ (p.1 <= 8388608 /\ p.2 <= 8388608) := by
 have h1 := h.1
 have h2 := zoe k
 obtain ⟨⟨_, h3⟩, ⟨_, h4⟩, _⟩ := hg
 omega
def qm (g : Gnd) (p : Vc) : Nat := (p.1 / 65536 + g.W * (p.2 / 65536)).toNat
theorem zfw {g : Gnd} (hg : gndP g) {p : Vc} (h : (0 <= p.1 /\ p.1 < g.W * 65536) /\ (0 <= p.2 /\ p.2 < g.H * 65536)) :
  ((qm g p : Nat) : Int) = p.1 / 65536 + g.W * (p.2 / 65536) /\ qm g p < g.T.length /\ ((qm g p : Nat) : Int) % g.W = p.1 / 65536 /\ ((qm g p : Nat) : Int) / g.W = p.2 / 65536 := by
 have hs := ji hg (x := p.1 / 65536) (y := p.2 / 65536) (by omega) (by omega)
 have ha := zr hg
 unfold qm
 generalize p.1 / 65536 = x at *
 generalize p.2 / 65536 = y at *
 have e : ((x + g.W * y).toNat : Int) = x + g.W * y := by omega
 rw [e]
 exact ⟨rfl, by omega, hs.2.2.1, hs.2.2.2⟩
end Go.V
namespace Go.V
/-- What a call has made and hands back is plain from then on. -/
theorem ACalls.frozen {P : Program} {f : FuncId} {xs : List AV} {Q : AV -> Store -> Prop} {R : AV -> Prop} (h : ACalls P f xs Store.empty Q)
  (hQ : ∀ r S, Q r S -> ∃ r2, R r2 /\ ∀ (Oth M : Nat -> Nat -> Prop) (w : World) (v : Value), StoreOK S Oth M w -> VRel w (fun b o => M b o \/ Oth b o) r v -> VRel w (fun b o => (M b o \/ Oth b o) /\ S.obj b = none) r2 v) :
  ACalls P f xs Store.empty fun r _ => R r := by
 refine ⟨fun Oth M w vs sto hr => ?_⟩
 have h1 := h.out Oth M w vs sto hr
 have key : ∀ v w', zt Store.empty Q Oth M w v w' -> zt Store.empty (fun r _ => R r) Oth M w v w' := by
  rintro v w' ⟨r, S, M', hq, hv, hs, hc⟩
  obtain ⟨r2, hr2, hk⟩ := hQ r S hq
  refine ⟨r2, Store.empty, fun b o => M' b o /\ S.obj b = none, hr2, (hk Oth M' w' v hs hv).mono fun b o hT => ?_, ?_, ?_⟩
  ·rcases hT with ⟨h1, h2⟩ | h1
   ·exact ⟨.inl h1, h2⟩
   ·refine ⟨.inr h1, ?_⟩
    cases hb : S.obj b with
    | none => rfl
    | some y => exact absurd ((hs.obj b y hb).2 o) (hs.dis b o h1)
  ·exact { obj := fun b x hx => (by cases hx), tok := fun b x hx => (by cases hx), mlt := fun b o hm => hs.mlt b o hm.1, olt := hs.olt, dis := fun b o ho hm => hs.dis b o ho hm.1 }
  ·exact { size := hc.size, keep := hc.keep, blk := hc.blk, shp := hc.shp, sub := fun b o hm hb => hc.sub b o hm.1 hb, tape := hc.tape, os := hc.os, output := hc.output }
 generalize (callFunc f vs).run P w = res at h1
 cases res with
 | ok n w' =>
  cases n with
  | enter g args => exact Calls.mono h1 fun e w'' ⟨v, he, hv⟩ => ⟨v, he, key _ _ hv⟩
  | value v => exact key _ _ h1
  | _ => exact h1
 | _ => exact h1
end Go.V
namespace Go.V
/-- What a call has made and hands back: a part of it may still be written, the rest is plain from then on. -/
theorem ACalls.frozenTo {P : Program} {f : FuncId} {xs : List AV} {st0 : Store} {Q : AV -> Store -> Prop} {R : AV -> Store -> Prop} (h : ACalls P f xs st0 Q)
    (hQ : ∀ r S, Q r S -> ∃ r2 S2, R r2 S2 /\ (∀ b x, S2.obj b = some x -> S.obj b = some x) /\ (∀ b x, S2.tok b ≠ some x) ∧
      ∀ (Oth M : Nat -> Nat -> Prop) (w : World) (v : Value), StoreOK S Oth M w -> VRel w (fun b o => M b o \/ Oth b o) r v -> VRel w (fun b o => (M b o \/ Oth b o) /\ (S.obj b = none \/ S2.obj b ≠ none)) r2 v) :
    ACalls P f xs st0 R := by
  refine ⟨fun Oth M w vs sto hr => ?_⟩
  have h1 := h.out Oth M w vs sto hr
  have key : ∀ v w', zt st0 Q Oth M w v w' -> zt st0 R Oth M w v w' := by
    rintro v w' ⟨r, S, M', hq, hv, hs, hc⟩
    obtain ⟨r2, S2, hr2, hsub, htok, hk⟩ := hQ r S hq
    have hT : ∀ b o, ((M' b o /\ (S.obj b = none \/ S2.obj b ≠ none)) \/ Oth b o) -> (M' b o \/ Oth b o) := fun b o h => h.imp (·.1) id
    refine ⟨r2, S2, fun b o => M' b o /\ (S.obj b = none \/ S2.obj b ≠ none), hr2, (hk Oth M' w' v hs hv).mono fun b o hT => ?_, ?_, ?_⟩
    · rcases hT with ⟨h1, h2⟩ | h1
      · exact ⟨.inl h1, h2⟩
      · refine ⟨.inr h1, ?_⟩
        cases hb : S.obj b with
        | none => exact .inl rfl
        | some y => exact absurd ((hs.obj b y hb).2 o) (hs.dis b o h1)
    · exact { obj := fun b x hx => ⟨(hs.obj b x (hsub b x hx)).1.mono hT, fun o => ⟨(hs.obj b x (hsub b x hx)).2 o, .inr (by rw [hx]; simp)⟩⟩
              tok := fun b x hx => absurd hx (htok b x), mlt := fun b o hm => hs.mlt b o hm.1, olt := hs.olt, dis := fun b o ho hm => hs.dis b o ho hm.1 }
    · exact { size := hc.size, keep := hc.keep, blk := hc.blk, shp := hc.shp, sub := fun b o hm hb => hc.sub b o hm.1 hb, tape := hc.tape, os := hc.os, output := hc.output }
  generalize (callFunc f vs).run P w = res at h1
  cases res with
  | ok n w' =>
    cases n with
    | enter g args => exact Calls.mono h1 fun e w'' ⟨v, he, hv⟩ => ⟨v, he, key _ _ hv⟩
    | value v => exact key _ _ h1
    | _ => exact h1
  | _ => exact h1
end Go.V
namespace Go.V
def zp3 (a : Option Addr) : Prop := ∀ x, a = some x -> x.spot = none
section
variable {P : Program} {c : Cfg} {st : Store}
/-- An append to any empty slice, that makes an object. -/
theorem zx9 {e : TypeId} {ie : TI} (hie : c.I e = some ie) {a : Option Addr} {x : AV} {rows : List (List AV)} (hx : qf ie.size (.av x) = some rows) (hroom : room rows.length ie.bytes) (hne : 0 < rows.length) {K : AV -> Store -> Prop}
  (h2 : ∀ b' cap', Fresh st b' -> rows.length <= cap' -> cap' <= 9223372036854775807 -> K (.s (.slice (some ⟨b', 0, none⟩) rows.length cap')) (st.setObj b' (.cells (rows.flatten ++ List.replicate ((cap' - rows.length) * ie.size) .any)))) :
  AppX P c st e (.s (.slice a 0 0)) x K := by
 refine ⟨⟨ie, hie⟩, fun ie' hie' Oth M w sv xv argTypes ty args t sto hs hxv hat ht1 hu hti h0 h1' => ?_⟩
 rw [hie] at hie'
 cases hie'
 have hs := VRel.eq_s hs
 subst hs
 have A : AppArgs P c argTypes args t e ie a 0 0 xv := ⟨hat, ht1, hu, hti, h0, h1'⟩
 obtain ⟨hl1, hl2, new, hnew, hone, hnsz, hfc⟩ := ks (P := P) (β := fun _ => 0) (k := ie.size) (x := .av x) hxv hx
 obtain ⟨newCap, rest, g1, g0, g2, g3⟩ := jv (old := #[]) ty A hl1 (hfc w.drew rfl) (by cases a <;> simp [Builtin.firstCells, loadCells, loadCellsFrom]) (by omega) (by simpa using hroom)
 have gd : Grow w w.drew := Grow.drew w
 have sto1 := sto.grow gd
 obtain ⟨f1, f2, f3⟩ := qy sto1 (#[] ++ new ++ rest) e (l := rows.flatten ++ List.replicate rest.size .any) (by
  rw [Array.toList_append, Array.toList_append]
  refine ((show Reads w _ rows.flatten ([] ++ new.toList) from hnew).append ⟨by simp, fun i x y hx hy => ?_⟩).keep (gd.keeps _)
  rw [List.getElem?_replicate] at hx
  split at hx
  ·cases hx; exact .any _
  ·cases hx)
 rw [g2] at f2
 simp only [Nat.zero_add] at g1 g3 f2
 exact ⟨_, _, g3, _, _, _, h2 _ newCap f1 g1 g0, .s _, f2, (gd.chg M).trans f3⟩
/-- An append to an empty literal. -/
theorem yi9 {e : TypeId} {ie : TI} (hie : c.I e = some ie) {x : AV} {rows : List (List AV)} (hx : qf ie.size (.av x) = some rows) (hroom : room rows.length ie.bytes) {K : AV -> Store -> Prop}
  (h1 : rows = [] -> ∀ a, zp3 a -> K (.s (.slice a 0 0)) st)
  (h2 : 0 < rows.length -> ∀ b' cap', Fresh st b' -> rows.length <= cap' -> cap' <= 9223372036854775807 -> K (.s (.slice (some ⟨b', 0, none⟩) rows.length cap')) (st.setObj b' (.cells (rows.flatten ++ List.replicate ((cap' - rows.length) * ie.size) .any)))) :
  AppX P c st e .emp x K := by
 refine ⟨⟨ie, hie⟩, fun ie' hie' Oth M w sv xv argTypes ty args t sto hs hxv hat ht1 hu hti h0 h1' => ?_⟩
 cases hs with
 | emp a ha =>
  by_cases hr : 0 < rows.length
  ·exact (zx9 hie hx hroom hr (h2 hr)).out ie' hie' Oth M w _ xv argTypes ty args t sto (.s _) hxv hat ht1 hu hti h0 h1'
  ·rw [hie] at hie'
   cases hie'
   have hr0 : rows = [] := List.eq_nil_of_length_eq_zero (by omega)
   subst hr0
   have A : AppArgs P c argTypes args t e ie a 0 0 xv := ⟨hat, ht1, hu, hti, h0, h1'⟩
   obtain ⟨hl1, hl2, new, hnew, hone, hnsz, hfc⟩ := ks (P := P) (β := fun _ => 0) (k := ie.size) (x := .av x) hxv hx
   have hn0 : new.toList = [] := by
    have : new.toList.length = 0 := by rw [Array.length_toList, hnsz]; simp
    exact List.eq_nil_of_length_eq_zero this
   have hrun := vh (w' := w) ty A hl1 (hfc w rfl) (by simp) (fun b hb => by rw [hn0]; simp [storeCells]) (fun _ => rfl)
   exact ⟨_, _, hrun, _, _, M, h1 rfl a ha, .s _, sto, Chg.refl M w⟩
end
/-- As RowsO; an empty one may lie anywhere. -/
def RowsQ {α : Type} (k : Nat) (f : α -> List AV) (st : Store) (v : AV) (l : List α) : Prop :=
 RowsO k f st v l \/ ∃ a, zp3 a /\ v = .s (.slice a 0 0) /\ l = []
section
variable {α : Type} {f : α -> List AV} {k : Nat}
theorem RowsO.q {st : Store} {v : AV} {l : List α} (h : RowsO k f st v l) : RowsQ k f st v l := .inl h
theorem RowsQ.un {a g : Store} {v : AV} {l : List α} (h : RowsQ k f g v l) : RowsQ k f (a.un g) v l := h.imp (·.un) id
theorem RowsQ.unL {a g : Store} {v : AV} {l : List α} (h : RowsQ k f a v l) (hd : Disj a g) : RowsQ k f (a.un g) v l := h.imp (·.unL hd) id
theorem RowsQ.form {st : Store} {v : AV} {l : List α} (h : RowsQ k f st v l) : ∃ oa cap, v = .s (.slice oa l.length cap) /\ ∀ i, i < l.length -> ∃ b L, oa = some ⟨b, 0, none⟩ /\ st.obj b = some (.cells ((rws f l).flatten ++ L)) := by
 rcases h with (⟨rfl, rfl⟩ | ⟨b, cap, L, rfl, ho, _⟩) | ⟨a, _, rfl, rfl⟩
 ·exact ⟨none, 0, rfl, fun i hi => absurd hi (Nat.not_lt_zero i)⟩
 ·exact ⟨_, cap, rfl, fun i _ => ⟨b, L, rfl, ho⟩⟩
 ·exact ⟨a, 0, rfl, fun i hi => absurd hi (Nat.not_lt_zero i)⟩
theorem RowsQ.borrow {st : Store} {v : AV} {l : List α} (hf : ∀ x, (f x).length = k) (hs : ∀ x, ∀ y ∈ f x, ∃ u, y = AV.s u /\ z8 u = true) (hv : RowsQ k f st v l) {Oth M : Nat -> Nat -> Prop} {w : World} (sto : StoreOK st Oth M w) {x : Value} (hx : VRel w (fun b o => M b o \/ Oth b o) v x) :
  VRel w (fun b o => (M b o \/ Oth b o) /\ st.obj b = none) (lst k f l) x := by
 rcases hv with hv | ⟨a, ha, rfl, rfl⟩
 ·exact hv.borrow hf hs sto hx
 ·cases hx
  exact .nil k a
/-- Its block, if it has any elements. -/
theorem RowsQ.sub {S S2 : Store} {v : AV} {l : List α} (h : RowsQ k f S v l) (hk : ∀ b n c, v = .s (.slice (some ⟨b, 0, none⟩) n c) -> S2.obj b = S.obj b) : RowsQ k f S2 v l := by
 rcases h with (h | ⟨b, cap, L, rfl, ho, h2⟩) | h
 ·exact .inl (.inl h)
 ·exact .inl (.inr ⟨b, cap, L, rfl, by rw [hk b _ _ rfl]; exact ho, h2⟩)
 ·exact .inr h
/-- A copy of a list, by an append to an empty literal. -/
theorem zhd {P : Program} {c : Cfg} {e : TypeId} {ie : TI} (hie : c.I e = some ie) (hf : ∀ x, (f x).length = ie.size) (hby : ie.bytes <= 1000) {st : Store} {l : List α} (hlen : l.length <= 1000000000) {K : AV -> Store -> Prop}
  (h : ∀ v N, RowsQ ie.size f N v l -> Disj N st -> K v (N.un st)) : appendK P c st e (.av .emp) (.av (lst ie.size f l)) K := by
 refine ⟨.inr ⟨_, _, rfl, rfl, ?_⟩⟩
 have hmul : l.length * ie.bytes <= 1000000000 * 1000 := Nat.mul_le_mul (by omega) hby
 refine yi9 hie (rows := rws f l) (by simp [qf, lst]) ⟨by rw [zi]; omega, by rw [zi]; omega⟩ (fun hr a ha => ?_) (fun hr b cap hb hc hc2 => ?_)
 ·have hl : l = [] := by
   have := congrArg List.length hr
   rw [zi] at this
   exact List.eq_nil_of_length_eq_zero this
  subst hl
  have := h (.s (.slice a 0 0)) Store.empty (.inr ⟨a, ha, rfl, rfl⟩) (fun b hb => (hb.elim (fun h => h rfl) (fun h => h rfl) : False).elim)
  rwa [xf] at this
 ·rw [zi] at hc ⊢
  have := h (.s (.slice (some ⟨b, 0, none⟩) l.length cap)) (Store.empty.setObj b (.cells ((rws f l).flatten ++ List.replicate ((cap - l.length) * ie.size) .any))) (.inl (.inr ⟨b, cap, _, rfl, zb _ _ _, hc, by
   simp only [List.length_replicate, <- Nat.add_mul]
   exact Nat.mul_le_mul_right _ (by omega), hc2⟩)) (fun i hi hs => by
    have : i = b := Decidable.byContradiction fun hne => by
     rcases hi with hi | hi
     ·rw [zf hne] at hi; exact hi rfl
     ·exact hi rfl
    subst this
    exact fresh_iff.1 hb hs)
  have e : (Store.empty.setObj b (.cells ((rws f l).flatten ++ List.replicate ((cap - l.length) * ie.size) .any))).un st = st.setObj b (.cells ((rws f l).flatten ++ List.replicate ((cap - l.length) * ie.size) .any)) := by
   rw [<- we (fresh_iff.1 hb), xf]
  rw [e] at this
  exact this
end
end Go.V
namespace Go.V
theorem kp {st : Store} {w : Wld} {v : AV} (hv : RowsQ 10 untC st v w.U) {Oth M : Nat -> Nat -> Prop} {W : World} (sto : StoreOK st Oth M W) {x : Value} (hx : VRel W (fun b o => M b o \/ Oth b o) (.agg (wldV w v)) x) :
  VRel W (fun b o => (M b o \/ Oth b o) /\ st.obj b = none) (.agg (wldC w)) x := by
 cases hx with
 | agg _ c hl hc =>
  refine .agg _ c hl fun i x y hx hy => ?_
  match i with
  | 0 => simp only [wldC, List.getElem?_cons_zero, Option.some.injEq] at hx; subst hx; exact yd (hc 0 _ y rfl hy)
  | 1 => simp only [wldC, List.getElem?_cons_succ, List.getElem?_cons_zero, Option.some.injEq] at hx; subst hx; exact yd (hc 1 _ y rfl hy)
  | 2 => simp only [wldC, List.getElem?_cons_succ, List.getElem?_cons_zero, Option.some.injEq] at hx; subst hx; exact yd (hc 2 _ y rfl hy)
  | 3 => simp only [wldC, List.getElem?_cons_succ, List.getElem?_cons_zero, Option.some.injEq] at hx; subst hx; exact yd (hc 3 _ y rfl hy)
  | 4 => simp only [wldC, List.getElem?_cons_succ, List.getElem?_cons_zero, Option.some.injEq] at hx; subst hx; exact yd (hc 4 _ y rfl hy)
  | 5 => simp only [wldC, List.getElem?_cons_succ, List.getElem?_cons_zero, Option.some.injEq] at hx; subst hx; exact yd (hc 5 _ y rfl hy)
  | 6 => simp only [wldC, List.getElem?_cons_succ, List.getElem?_cons_zero, Option.some.injEq] at hx; subst hx; exact yd (hc 6 _ y rfl hy)
  | 7 => simp only [wldC, List.getElem?_cons_succ, List.getElem?_cons_zero, Option.some.injEq] at hx; subst hx; exact hv.borrow y5 yji sto (hc 7 _ y rfl hy)
  | i + 8 => simp [wldC] at hx
/-- A slice with room that lies not in a block. -/
def offB (v : AV) (p : Nat) : Prop := ∀ b n c, v = .s (.slice (some ⟨b, 0, none⟩) n c) -> 0 < c -> b ≠ p
theorem RowsQ.set {α : Type} {f : α -> List AV} {k : Nat} {S : Store} {v : AV} {l : List α} (h : RowsQ k f S v l) {p : Nat} (hp : offB v p) (x : AObj) : RowsQ k f (S.setObj p x) v l := by
 rcases h with (h | ⟨b, cap, L, rfl, ho, h2, h3⟩) | h
 ·exact .inl (.inl h)
 ·by_cases hc : 0 < cap
  ·exact .inl (.inr ⟨b, cap, L, rfl, by rw [zf (hp b _ _ rfl hc)]; exact ho, h2, h3⟩)
  ·have h0 : cap = 0 := by omega
   subst h0
   have hl : l = [] := List.eq_nil_of_length_eq_zero (by omega)
   subst hl
   exact .inr ⟨_, fun x hx => by cases hx; rfl, rfl, rfl⟩
 ·exact .inr h
theorem zil {α : Type} {f : α -> List AV} {k : Nat} {S : Store} {v : AV} {l : List α} (h : RowsQ k f S v l) {p : Nat} (hp : S.obj p = none) : offB v p := by
 rcases h with (⟨rfl, rfl⟩ | ⟨b, cap, L, rfl, ho, h2⟩) | ⟨a, ha, rfl, rfl⟩
 ·intro b n c e
  simp at e
 ·intro b' n c e _
  simp only [AV.s.injEq, Value.slice.injEq, Option.some.injEq, Addr.mk.injEq] at e
  obtain ⟨⟨rfl, _⟩, _⟩ := e
  intro e2
  subst e2
  rw [hp] at ho
  cases ho
 ·intro b n c e hc
  simp only [AV.s.injEq, Value.slice.injEq] at e
  omega
/-- What a unit more makes of a world. -/
def spU (w : Wld) (c : Cmd) : Unt := ⟨w.next, c.P, c.N, (c.X, c.Y), -1, -1, 0, 0, 0⟩
def spW (w : Wld) (c : Cmd) : Wld := { w with U := w.U ++ [spU w c], next := w.next + 1 }
def yoa (w : Wld) : Prop := 4096 <= w.U.length \/ 1099511627776 <= w.next
open Classical in
noncomputable def spE (w : Wld) (c : Cmd) : Int := if yoa w then 4 else if ym w 0 c.N (c.X, c.Y) then 0 else 5
end Go.V
namespace Go.V
end Go.V
namespace Go.V
end Go.V
