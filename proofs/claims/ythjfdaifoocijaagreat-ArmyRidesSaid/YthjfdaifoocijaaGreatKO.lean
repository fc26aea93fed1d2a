/- Ground of laws of thronglaw21: contracts and plain lemmas; no condition beyond the row's own. -/
import Derived.Test.YthjfdaifoocijaaGreatKE
set_option linter.unusedSimpArgs false
set_option linter.unusedVariables false
namespace Go.V
def onG (g : Gnd) (x y : Int) : Prop := (0 <= x /\ x < g.W) /\ (0 <= y /\ y < g.H)
instance (g : Gnd) (x y : Int) : Decidable (onG g x y) := inferInstanceAs (Decidable (_ /\ _))
def tl (g : Gnd) (x y : Int) : Nat := (x + g.W * y).toNat
def m5 (a b c d e : Int) : Int := min (min (min (min a (b + 1)) (c + 1)) (d + 1)) (e + 1)
/-- How far by rows and columns. -/
def zev (i j : Int) : Int := max (max i (-i)) (max j (-j))
/-- A tile at just this way from a place, by steps of k. -/
def sl (g : Gnd) (x y k d : Int) (t : Nat) : Bool := decide (zev ((t : Int) % g.W - x) ((t : Int) / g.W - y) = d /\ ((t : Int) % g.W - x).tmod k = 0 /\ ((t : Int) / g.W - y).tmod k = 0)
def sk (g : Gnd) (x y k d : Int) : List Nat := (List.range g.T.length).filter (sl g x y k d)
/-- Places about a goal: all that are less than d away, by ways. -/
def pb (g : Gnd) (f : Nat -> Bool) (x y k d : Int) : List Nat := (sk g x y k d).filter f
def Ii (g : Gnd) (f : Nat -> Bool) (x y k : Int) : Nat -> List Nat
 | 0 => []
 | d + 1 => Ii g f x y k d ++ pb g f x y k d
/-- Places about a goal. -/
def o9 (g : Gnd) (f : Nat -> Bool) (size goal : Int) (n : Nat) : List Nat := (Ii g f (goal % g.W) (goal / g.W) (2 * size + 1) (g.W + g.H + 1).toNat).take n
def setI (f : Nat -> Int) (t : Nat) (v : Int) : Nat -> Int := fun s => if s = t then v else f s
def sqB (g : Gnd) (f : Nat -> Bool) (s : Nat) (x y : Int) : Bool := (List.range (2 * s + 1)).all fun a => (List.range (2 * s + 1)).all fun b => decide (onG g (x - s + a) (y - s + b)) && f (tl g (x - s + a) (y - s + b))
/-- Is a tile good for a size? -/
def zbq (g : Gnd) (l : List Bld) (c s : Int) (t : Nat) : Bool := sqB g (yj g l c) s.toNat ((t : Int) % g.W) ((t : Int) / g.W)
end Go.V
namespace Go.V
/-- A slice over an object: its elements, and how much room. -/
def RowsO {α : Type} (k : Nat) (f : α -> List AV) (st : Store) (v : AV) (l : List α) : Prop :=
 (v = .s (.slice none 0 0) /\ l = []) \/ ∃ b cap L, v = .s (.slice (some ⟨b, 0, none⟩) l.length cap) /\ st.obj b = some (.cells ((rws f l).flatten ++ L)) /\ l.length <= cap /\ cap * k <= l.length * k + L.length /\ cap <= 9223372036854775807
section
variable {α : Type} {f : α -> List AV} {k : Nat}
theorem F5 (hf : ∀ x, (f x).length = k) (l : List α) : (rws f l).flatten.length = l.length * k := by
 induction l with
 | nil => simp [rws]
 | cons a l ih =>
  show (f a ++ (rws f l).flatten).length = (l.length + 1) * k
  rw [List.length_append, hf, ih, Nat.succ_mul]; omega
theorem Ir (a b : List α) : (rws f (a ++ b)).flatten = (rws f a).flatten ++ (rws f b).flatten := by
 rw [<- rt, List.flatten_append]
theorem Iq {l : List α} {i : Nat} (hi : i < l.length) : (rws f l).flatten = (rws f (l.take i)).flatten ++ (f l[i] ++ (rws f (l.drop (i + 1))).flatten) := by
 have e : l = l.take i ++ (l[i] :: l.drop (i + 1)) := by
  rw [<- List.drop_eq_getElem_cons hi, List.take_append_drop]
 have e2 : (rws f (l[i] :: l.drop (i + 1))).flatten = f l[i] ++ (rws f (l.drop (i + 1))).flatten := rfl
 rw [<- e2, <- Ir, <- e]
theorem ow {X Y ys : List AV} {j : Nat} (h : j + ys.length <= X.length) : z6 (X ++ Y) j ys = z6 X j ys ++ Y := by
 unfold z6
 rw [List.take_append_of_le_length (by omega), List.drop_append_of_le_length (by omega)]
 simp only [List.append_assoc]
/-- One cell of an element is stored. -/
theorem ov (hf : ∀ x, (f x).length = k) {l : List α} {i j : Nat} (hi : i < l.length) {x' : α} {ys L : List AV} (hj : j + ys.length <= k) (hx : f x' = z6 (f l[i]) j ys) :
  z6 ((rws f l).flatten ++ L) (i * k + j) ys = (rws f (l.set i x')).flatten ++ L := by
 have h1 : (rws f (l.take i)).flatten.length = i * k := by rw [F5 hf, List.length_take, Nat.min_eq_left (by omega)]
 have hi2 : i < (l.set i x').length := by rw [List.length_set]; exact hi
 rw [Iq hi, Iq hi2, List.append_assoc, List.append_assoc, <- h1, Ic]
 have e1 : (l.set i x').take i = l.take i := by rw [List.take_set_of_le (Nat.le_refl i)]
 have e2 : (l.set i x').drop (i + 1) = l.drop (i + 1) := by rw [List.drop_set_of_lt (by omega)]
 rw [e1, e2, List.getElem_set_self, hx]
 have h3 := hf l[i]
 rw [List.append_assoc, ow (by omega)]
 simp only [List.append_assoc]
theorem RowsO.un {a g : Store} {v : AV} {l : List α} (h : RowsO k f g v l) : RowsO k f (a.un g) v l := by
 rcases h with h | ⟨b1, cap, L, h1, h2, h3⟩
 ·exact .inl h
 ·exact .inr ⟨b1, cap, L, h1, zf h2, h3⟩
theorem RowsO.unL {a g : Store} {v : AV} {l : List α} (h : RowsO k f a v l) (hd : zv a g) : RowsO k f (a.un g) v l := by
 rcases h with h | ⟨b1, cap, L, h1, h2, h3⟩
 ·exact .inl h
 ·exact .inr ⟨b1, cap, L, h1, y5 hd h2, h3⟩
/-- Where an element stands, and what is left when one cell of it is stored. -/
theorem RowsO.at {st : Store} {v : AV} {l : List α} (h : RowsO k f st v l) {i : Nat} (hi : i < l.length) :
  ∃ b cap L, v = .s (.slice (some ⟨b, 0, none⟩) l.length cap) /\ st.obj b = some (.cells ((rws f l).flatten ++ L)) /\ l.length <= cap /\ cap * k <= l.length * k + L.length /\ cap <= 9223372036854775807 := by
 rcases h with ⟨_, rfl⟩ | h
 ·exact absurd hi (Nat.not_lt_zero i)
 ·exact h
theorem RowsO.borrow {st : Store} {v : AV} {l : List α} (hf : ∀ x, (f x).length = k) (hs : ∀ x, ∀ y ∈ f x, ∃ u, y = AV.s u /\ yk u = true) (hv : RowsO k f st v l) {Oth M : Nat -> Nat -> Prop} {w : World} (sto : StoreOK st Oth M w) {x : Value} (hx : VRel w (fun b o => M b o \/ Oth b o) v x) :
  VRel w (fun b o => (M b o \/ Oth b o) /\ st.obj b = none) (lst k f l) x := by
 rcases hv with ⟨rfl, rfl⟩ | ⟨b, cap, L, rfl, ho, h1, h2, h3⟩
 ·cases hx
  exact AV.le_nil k _ _ _ (.s _)
 ·cases hx
  exact L9 (sto.obj b _ ho).1 (fun o hT => by rw [ho] at hT; exact absurd hT.2 (by simp)) (zr l) h1
   (fun row hr => by obtain ⟨n, _, rfl⟩ := List.mem_map.1 hr; exact hf n) (fun row hr y hy => by
    obtain ⟨n, _, rfl⟩ := List.mem_map.1 hr
    exact hs n y hy)
/-- An append of one element to elements over an object. -/
theorem Hl {P : Program} {c : Cfg} {e : TypeId} {ie : TI} (hie : c.I e = some ie) (hf : ∀ x, (f x).length = ie.size) (hby : ie.bytes <= 1000) {st : Store} {v : AV} {l : List α} (hv : RowsO ie.size f st v l) (x : α) {src : AV} (hsrc : xk ie.size (.av src) = some [f x]) (hlen : l.length <= 1000000000) {K : AV -> Store -> Prop}
  (h : ∀ b cap L, (Fresh st b \/ ∃ c0, v = .s (.slice (some ⟨b, 0, none⟩) l.length c0)) -> (l ++ [x]).length <= cap -> cap * ie.size <= (l ++ [x]).length * ie.size + L.length -> cap <= 9223372036854775807 ->
   K (.s (.slice (some ⟨b, 0, none⟩) (l ++ [x]).length cap)) (st.setObj b (.cells ((rws f (l ++ [x])).flatten ++ L)))) : appendK P c st e (.av v) (.av src) K := by
 refine ⟨.inr ⟨v, _, rfl, rfl, ?_⟩⟩
 have hl : (l ++ [x]).length = l.length + 1 := by simp
 have hfl := F5 hf l
 have hmul : (l.length + 1) * ie.bytes <= 1000000001 * 1000 := Nat.mul_le_mul (by omega) hby
 have happ : (rws f (l ++ [x])).flatten = (rws f l).flatten ++ f x := by
  rw [Ir]
  show _ ++ (f x ++ []) = _
  rw [List.append_nil]
 rcases hv with ⟨rfl, rfl⟩ | ⟨b, cap, L, rfl, ho, h1, h2, h3⟩
 ·refine Mi hie hsrc ⟨by simp at hmul ⊢; omega, by simp⟩ (by simp) (fun b' cap' hb hc hc2 => ?_)
  have := h b' cap' (List.replicate ((cap' - [f x].length) * ie.size) .any) (.inl hb) (by simpa using hc) (by
   simp only [List.length_replicate, List.nil_append, List.length_singleton, <- Nat.add_mul]
   exact Nat.mul_le_mul_right _ (by omega)) hc2
  exact this
 ·refine Mh hie (cap := cap) ho (by rw [List.length_append, hfl]; exact h2) h1 hsrc ⟨by simp; omega, by simp; omega⟩ (fun hc => ?_) (fun hc b' cap' hb hc1 hc2 => ?_)
  ·have hc : l.length + 1 <= cap := hc
   have hcm : (l.length + 1) * ie.size <= cap * ie.size := Nat.mul_le_mul_right _ hc
   rw [Nat.succ_mul] at hcm
   have e1 : z6 ((rws f l).flatten ++ L) (l.length * ie.size) [f x].flatten = (rws f (l ++ [x])).flatten ++ L.drop ie.size := by
    rw [wh hfl, happ]
    simp [hf x]
   have := h b cap (L.drop ie.size) (.inr ⟨cap, rfl⟩) (by omega) (by rw [hl, Nat.succ_mul, List.length_drop]; omega) h3
   rw [hl, <- e1] at this
   exact this
  ·have hc1 : l.length + 1 <= cap' := hc1
   have e1 : ((rws f l).flatten ++ L).take (l.length * ie.size) ++ [f x].flatten ++ List.replicate ((cap' - (l.length + 1)) * ie.size) .any = (rws f (l ++ [x])).flatten ++ List.replicate ((cap' - (l.length + 1)) * ie.size) .any := by
    rw [List.take_append_of_le_length (by omega), List.take_of_length_le (by omega), happ]
    simp
   have := h b' cap' (List.replicate ((cap' - (l.length + 1)) * ie.size) .any) (.inl hb) (by omega) (by
    rw [hl, List.length_replicate, <- Nat.add_mul]
    exact Nat.mul_le_mul_right _ (by omega)) hc2
   rw [hl, <- e1] at this
   exact this
end
theorem Fk (u : Unt) : (zi u).length = 10 := rfl
theorem H1 (u : Unt) : ∀ y ∈ zi u, ∃ x, y = AV.s x /\ yk x = true := by
 intro y hy
 simp [zi] at hy
 rcases hy with rfl | rfl | rfl | rfl | rfl | rfl | rfl | rfl | rfl | rfl <;> exact ⟨_, rfl, rfl⟩
/-- A world whose units stand in an object. -/
def xh (w : Wld) (v : AV) : List AV := [int w.tick, int w.players, int w.next, int w.G.W, int w.G.H, xl w.G.T, lst 6 zo w.B, v]
theorem Mx {st : Store} {w : Wld} {v : AV} (hv : RowsO 10 zi st v w.U) {Oth M : Nat -> Nat -> Prop} {W : World} (sto : StoreOK st Oth M W) {x : Value} (hx : VRel W (fun b o => M b o \/ Oth b o) (.agg (xh w v)) x) :
  VRel W (fun b o => (M b o \/ Oth b o) /\ st.obj b = none) (.agg (zp w)) x := by
 cases hx with
 | agg _ c hl hc =>
  refine .agg _ c hl fun i x y hx hy => ?_
  match i with
  | 0 => simp only [zp, List.getElem?_cons_zero, Option.some.injEq] at hx; subst hx; exact vn (hc 0 _ y rfl hy)
  | 1 => simp only [zp, List.getElem?_cons_succ, List.getElem?_cons_zero, Option.some.injEq] at hx; subst hx; exact vn (hc 1 _ y rfl hy)
  | 2 => simp only [zp, List.getElem?_cons_succ, List.getElem?_cons_zero, Option.some.injEq] at hx; subst hx; exact vn (hc 2 _ y rfl hy)
  | 3 => simp only [zp, List.getElem?_cons_succ, List.getElem?_cons_zero, Option.some.injEq] at hx; subst hx; exact vn (hc 3 _ y rfl hy)
  | 4 => simp only [zp, List.getElem?_cons_succ, List.getElem?_cons_zero, Option.some.injEq] at hx; subst hx; exact vn (hc 4 _ y rfl hy)
  | 5 => simp only [zp, List.getElem?_cons_succ, List.getElem?_cons_zero, Option.some.injEq] at hx; subst hx; exact vn (hc 5 _ y rfl hy)
  | 6 => simp only [zp, List.getElem?_cons_succ, List.getElem?_cons_zero, Option.some.injEq] at hx; subst hx; exact vn (hc 6 _ y rfl hy)
  | 7 => simp only [zp, List.getElem?_cons_succ, List.getElem?_cons_zero, Option.some.injEq] at hx; subst hx; exact hv.borrow Fk H1 sto (hc 7 _ y rfl hy)
  | i + 8 => simp [zp] at hx
theorem Iz {l : List Unt} (hr : y6 l) {a b : Nat} (hab : a < b) (hb : b < l.length) : (l[a]'(by omega)).id < l[b].id := by
 induction b with
 | zero => omega
 | succ b ih =>
  have h3 := hr (b + 1) hb (by omega)
  simp only [Nat.add_sub_cancel] at h3
  by_cases e : a = b
  ·subst e; exact h3
  ·have := ih (by omega) (by omega)
   omega
/-- A store of many cells into an object. -/
theorem oo {i : TI} {A : Fr} {st : Store} {b o : Nat} {v : AV} {xs l : List AV} {K : Fr -> Store -> Prop} (hc : cellsOf v = some xs) (h1 : xs.all AV.one = true) (hi : i.size = xs.length) (ho : st.obj b = some (.cells l)) (hl : o + xs.length <= l.length)
  (hk : K A (st.setObj b (.cells (z6 l o xs)))) : j1 i A st (.av (.s (.pointer (some ⟨b, o, none⟩)))) v K := by
 unfold j1
 rw [hc]
 show (bif Nat.beq xs.length i.size && (xs.all AV.one) then _ else False)
 rw [hi]
 simp only [h1, Nat.beq_refl, Bool.and_self, cond_true]
 rw [ho]
 exact ⟨hl, Di hk⟩
/-- What a call has made and hands back is plain from then on. -/
theorem ACalls.frozen {P : Program} {f : FuncId} {xs : List AV} {Q : AV -> Store -> Prop} {R : AV -> Prop} (h : ACalls P f xs Store.empty Q)
  (hQ : ∀ r S, Q r S -> ∃ r2, R r2 /\ ∀ (Oth M : Nat -> Nat -> Prop) (w : World) (v : Value), StoreOK S Oth M w -> VRel w (fun b o => M b o \/ Oth b o) r v -> VRel w (fun b o => (M b o \/ Oth b o) /\ S.obj b = none) r2 v) :
  ACalls P f xs Store.empty fun r _ => R r := by
 refine ⟨fun Oth M w vs sto hr => ?_⟩
 have h1 := h.out Oth M w vs sto hr
 have key : ∀ v w', yi Store.empty Q Oth M w v w' -> yi Store.empty (fun r _ => R r) Oth M w v w' := by
  rintro v w' ⟨r, S, M', hq, hv, hs, hc⟩
  obtain ⟨r2, hr2, hk⟩ := hQ r S hq
  refine ⟨r2, Store.empty, fun b o => M' b o /\ S.obj b = none, hr2, (hk Oth M' w' v hs hv).mono fun b o hT => ?_, ?_, ?_⟩
  ·rcases hT with ⟨h1, h2⟩ | h1
   ·exact ⟨.inl h1, h2⟩
   ·refine ⟨.inr h1, ?_⟩
    cases hb : S.obj b with
    | none => rfl
    | some y => exact absurd ((hs.obj b y hb).2 o) (hs.dis b o h1)
  ·exact { obj := fun b x hx => (by cases hx), tok := fun b x hx => (by cases hx), mlt := fun b o hm => hs.mlt b o hm.1, olt := hs.olt, dis := fun b o ho hm => hs.dis b o ho hm.1 }
  ·exact { size := hc.size, keep := hc.keep, blk := hc.blk, shp := hc.shp, sub := fun b o hm hb => hc.sub b o hm.1 hb, tape := hc.tape, os := hc.os, output := hc.output }
 generalize (callFunc f vs).run P w = res at h1
 cases res with
 | ok n w' =>
  cases n with
  | enter g args => exact Calls.mono h1 fun e w'' ⟨v, he, hv⟩ => ⟨v, he, key _ _ hv⟩
  | value v => exact key _ _ h1
  | _ => exact h1
 | _ => exact h1
end Go.V
namespace Go.V
def ou (a : Option Addr) : Prop := ∀ x, a = some x -> x.spot = none
section
variable {P : Program} {c : Cfg} {st : Store}
end
/-- As RowsO; an empty one may lie anywhere. -/
def RowsQ {α : Type} (k : Nat) (f : α -> List AV) (st : Store) (v : AV) (l : List α) : Prop :=
 RowsO k f st v l \/ ∃ a, ou a /\ v = .s (.slice a 0 0) /\ l = []
section
variable {α : Type} {f : α -> List AV} {k : Nat}
theorem RowsO.q {st : Store} {v : AV} {l : List α} (h : RowsO k f st v l) : RowsQ k f st v l := .inl h
theorem RowsQ.un {a g : Store} {v : AV} {l : List α} (h : RowsQ k f g v l) : RowsQ k f (a.un g) v l := h.imp (·.un) id
theorem RowsQ.unL {a g : Store} {v : AV} {l : List α} (h : RowsQ k f a v l) (hd : zv a g) : RowsQ k f (a.un g) v l := h.imp (·.unL hd) id
theorem RowsQ.form {st : Store} {v : AV} {l : List α} (h : RowsQ k f st v l) : ∃ oa cap, v = .s (.slice oa l.length cap) /\ ∀ i, i < l.length -> ∃ b L, oa = some ⟨b, 0, none⟩ /\ st.obj b = some (.cells ((rws f l).flatten ++ L)) := by
 rcases h with (⟨rfl, rfl⟩ | ⟨b, cap, L, rfl, ho, _⟩) | ⟨a, _, rfl, rfl⟩
 ·exact ⟨none, 0, rfl, fun i hi => absurd hi (Nat.not_lt_zero i)⟩
 ·exact ⟨_, cap, rfl, fun i _ => ⟨b, L, rfl, ho⟩⟩
 ·exact ⟨a, 0, rfl, fun i hi => absurd hi (Nat.not_lt_zero i)⟩
theorem RowsQ.borrow {st : Store} {v : AV} {l : List α} (hf : ∀ x, (f x).length = k) (hs : ∀ x, ∀ y ∈ f x, ∃ u, y = AV.s u /\ yk u = true) (hv : RowsQ k f st v l) {Oth M : Nat -> Nat -> Prop} {w : World} (sto : StoreOK st Oth M w) {x : Value} (hx : VRel w (fun b o => M b o \/ Oth b o) v x) :
  VRel w (fun b o => (M b o \/ Oth b o) /\ st.obj b = none) (lst k f l) x := by
 rcases hv with hv | ⟨a, ha, rfl, rfl⟩
 ·exact hv.borrow hf hs sto hx
 ·cases hx
  exact .nil k a
/-- Its block, if it has any elements. -/
theorem RowsQ.sub {S S2 : Store} {v : AV} {l : List α} (h : RowsQ k f S v l) (hk : ∀ b n c, v = .s (.slice (some ⟨b, 0, none⟩) n c) -> S2.obj b = S.obj b) : RowsQ k f S2 v l := by
 rcases h with (h | ⟨b, cap, L, rfl, ho, h2⟩) | h
 ·exact .inl (.inl h)
 ·exact .inl (.inr ⟨b, cap, L, rfl, by rw [hk b _ _ rfl]; exact ho, h2⟩)
 ·exact .inr h
end
/-- A slice with room that lies not in a block. -/
def ui (v : AV) (p : Nat) : Prop := ∀ b n c, v = .s (.slice (some ⟨b, 0, none⟩) n c) -> 0 < c -> b ≠ p
theorem RowsQ.set {α : Type} {f : α -> List AV} {k : Nat} {S : Store} {v : AV} {l : List α} (h : RowsQ k f S v l) {p : Nat} (hp : ui v p) (x : AObj) : RowsQ k f (S.setObj p x) v l := by
 rcases h with (h | ⟨b, cap, L, rfl, ho, h2, h3⟩) | h
 ·exact .inl (.inl h)
 ·by_cases hc : 0 < cap
  ·exact .inl (.inr ⟨b, cap, L, rfl, by rw [zj (hp b _ _ rfl hc)]; exact ho, h2, h3⟩)
  ·have h0 : cap = 0 := by omega
   subst h0
   have hl : l = [] := List.eq_nil_of_length_eq_zero (by omega)
   subst hl
   exact .inr ⟨_, fun x hx => by cases hx; rfl, rfl, rfl⟩
 ·exact .inr h
/-- What a unit more makes of a world. -/
def spU (w : Wld) (c : Cmd) : Unt := ⟨w.next, c.P, c.N, (c.X, c.Y), -1, -1, 0, 0, 0⟩
def spW (w : Wld) (c : Cmd) : Wld := { w with U := w.U ++ [spU w c], next := w.next + 1 }
def Gx (w : Wld) : Prop := 4096 <= w.U.length \/ 1099511627776 <= w.next
open Classical in
noncomputable def spE (w : Wld) (c : Cmd) : Int := if Gx w then 4 else if y8 w 0 c.N (c.X, c.Y) then 0 else 5
end Go.V
namespace Go.V
/-- The first thing that is not right of several ones. -/
def Bx (f : Int -> Int) : List Int -> Int
 | [] => 0
 | a :: l => if f a = 0 then Bx f l else f a
def findU (l : List Unt) (id : Int) : Option Nat := l.findIdx? fun u => decide (u.id = id)
def unt0 : Unt := ⟨0, 0, 0, (0, 0), 0, 0, 0, 0, 0⟩
theorem findU_some {l : List Unt} {id : Int} {i : Nat} (h : findU l id = some i) : ∃ hi : i < l.length, l[i].id = id := by
 unfold findU at h
 rw [List.findIdx?_eq_some_iff_getElem] at h
 obtain ⟨h1, h2, _⟩ := h
 exact ⟨h1, of_decide_eq_true h2⟩
theorem findU_none {l : List Unt} {id : Int} (h : findU l id = none) : ∀ u ∈ l, u.id ≠ id := by
 unfold findU at h
 rw [List.findIdx?_eq_none_iff] at h
 exact fun u hu => of_decide_eq_false (h u hu)
theorem findU_mk {l : List Unt} (hr : y6 l) {id : Int} {i : Nat} (hi : i < l.length) (e : l[i].id = id) : findU l id = some i := by
 cases h : findU l id with
 | none => exact absurd e (findU_none h _ (List.getElem_mem hi))
 | some k =>
  obtain ⟨hk, e2⟩ := findU_some h
  by_cases h1 : k < i
  ·have := Iz hr h1 hi; omega
  ·by_cases h2 : i < k
   ·have := Iz hr h2 hk; omega
   ·rw [show k = i by omega]
/-- The unit of an ID. -/
def uAt (w : Wld) (id : Int) : Unt := match findU w.U id with | none => unt0 | some i => w.U.getD i unt0
/-- What a player is told who asks for a unit. -/
def Ae (w : Wld) (P id : Int) : Int := match findU w.U id with | none => 3 | some i => if (w.U.getD i unt0).owner = P then (if (w.U.getD i unt0).inn = 0 then 0 else 9) else 6
def sa (u : Unt) : Unt := { u with goal := -1, next := -1, stuck := 0, state := 0 }
/-- Some units are changed. -/
def Il (l : List Int) (g : Unt -> Unt) (U : List Unt) : List Unt := U.map fun u => if u.id ∈ l then g u else u
/-- Units that are stopped. -/
def stW (w : Wld) (c : Cmd) : Wld := { w with U := Il c.U sa w.U }
def stE (w : Wld) (c : Cmd) : Int := Bx (Ae w c.P) c.U
section
variable {P : Program} {c : Cfg} {st : Store}
/-- What an append's source reads as. -/
structure SrcOK (P : Program) (st : Store) (k m : Nat) (x : AV) (xs : List AV) : Prop where
  out : ∀ (Oth M : Nat -> Nat -> Prop) (w : World) (xv : Value), StoreOK st Oth M w -> VRel w (fun b o => M b o \/ Oth b o) x xv ->
    (Builtin.lenOf xv).run P w = .ok m w /\ ∃ new : Array Value, Reads w (fun b o => M b o \/ Oth b o) xs new.toList /\ (∀ v ∈ new.toList, yk v = true) /\ new.size = m * k /\ ∀ w', w'.heap = w.heap -> (Builtin.firstCells k m xv).run P w' = .ok new w'
/-- A slice over an object, anywhere in it. -/
theorem SrcOK.obj {k m o b cp : Nat} {l : List AV} (ho : st.obj b = some (.cells l)) (hl : o + m * k <= l.length) (h1 : ∀ y ∈ (l.drop o).take (m * k), y.one = true) : SrcOK P st k m (.s (.slice (some ⟨b, o, none⟩) m cp)) ((l.drop o).take (m * k)) := by
  refine ⟨fun Oth M w xv sto hxv => ?_⟩
  have hxv := VRel.eq_s hxv
  subst hxv
  obtain ⟨cs, e, fr, hb, _, hlen, hrel⟩ := (sto.obj b _ ho).1
  have hreads : Reads w (fun b o => M b o \/ Oth b o) ((l.drop o).take (m * k)) ((List.range' 0 (m * k)).map fun i => cs.getD (o + i) undef) := by
    refine ⟨by simp; omega, fun i x y hx hy => ?_⟩
    have hi : i < m * k := by
      have := (List.getElem?_eq_some_iff.1 hx).1
      simp at this; omega
    rw [List.getElem?_take_of_lt hi, List.getElem?_drop] at hx
    simp [hi] at hy
    subst hy
    refine hrel (o + i) x _ hx ?_
    rw [Array.getElem?_eq_getElem (by omega)]
    simp [show o + i < cs.size by omega]
  refine ⟨by simp [Builtin.lenOf], ((List.range' 0 (m * k)).map fun i => cs.getD (o + i) undef).toArray, by simpa using hreads, by simpa using ug hreads h1, by simp, fun w' hw => ?_⟩
  have := Ax (P := P) ⟨b, o, none⟩ w' (fun i => cs.getD (o + i) undef) (m * k) 0 #[] (fun p hp0 hp => by
    rw [qv, Gt hw]
    simp only [World.cell?, hb]
    have : o + p < cs.size := by omega
    simp [this])
  simp only [Builtin.firstCells, loadCells]
  simpa using this
end
section
variable {P : Program} {c : Cfg} {st : Store}
end
section
variable {α : Type} {f : α -> List AV} {k : Nat}
end
instance (a b : Bld) : Decidable (x4 a b) := inferInstanceAs (Decidable (_ /\ _))
/-- The building that is to come. -/
def bdB (w : Wld) (c : Cmd) : Bld := ⟨w.next, c.P, c.T.tmod w.G.W, c.T.tdiv w.G.W, c.W, c.H⟩
open Classical in
noncomputable def I9 (g : Gnd) (l : List Bld) (b : Bld) : Int := if ¬ onP g b then 3 else if ∃ x ∈ l, x4 x b then 12 else if ¬ jv g b then 5 else if 256 <= l.length then 4 else 0
def u9 (w : Wld) (b : Bld) : Prop := ∃ t : Nat, ((t : Int) < w.G.W * w.G.H /\ qe w.G b t) /\ ∃ u ∈ w.U, u.inn = 0 /\ qd w.G t u.pos (yc u.kind)
open Classical in
noncomputable def bdE (w : Wld) (c : Cmd) : Int := if ¬ (0 <= c.T /\ c.T < w.G.W * w.G.H) then 3 else if 1099511627776 <= w.next then 4 else if I9 w.G w.B (bdB w c) = 0 then (if u9 w (bdB w c) then 5 else 0) else I9 w.G w.B (bdB w c)
def bdW (w : Wld) (c : Cmd) : Wld := { w with B := w.B ++ [bdB w c], next := w.next + 1 }
def zd1 : Bld := ⟨0, 0, 0, 0, 0, 0⟩
def Lc (l : List Bld) (id : Int) : Option Nat := l.findIdx? fun b => decide (b.id = id)
/-- A building less. -/
def drE (w : Wld) (c : Cmd) : Int := match Lc w.B c.N with | none => 3 | some i => if (w.B.getD i zd1).owner = c.P then 0 else 6
def drW (w : Wld) (c : Cmd) : Wld := match Lc w.B c.N with | none => w | some i => { w with B := w.B.eraseIdx i }
end Go.V
namespace Go.V
/-- Farther than 2? -/
def G4 (p q : Vc) : Prop := 17180131329 <= sqr (x9 p q)
instance (p q : Vc) : Decidable (G4 p q) := inferInstanceAs (Decidable (_ <= _))
/-- Loading. -/
def D1 (w : Wld) (P N : Int) : Int := if Ae w P N = 0 then (if yv (uAt w N).kind = 0 then 7 else 0) else Ae w P N
def u3 (x u : Unt) : Int := if 0 < yv u.kind then 7 else if G4 u.pos x.pos then 8 else 0
def ldA (w : Wld) (P N id : Int) : Int := if Ae w P id = 0 then u3 (uAt w N) (uAt w id) else Ae w P id
def ldE (w : Wld) (c : Cmd) : Int := if D1 w c.P c.N = 0 then (if Bx (ldA w c.P c.N) c.U = 0 then (if yv (uAt w c.N).kind < ((zq w.U c.N).length : Int) + (c.U.length : Int) then 4 else 0) else Bx (ldA w c.P c.N) c.U) else D1 w c.P c.N
def ldU (n : Int) (u : Unt) : Unt := { u with pos := (0, 0), goal := -1, next := -1, stuck := 0, inn := n, state := 0 }
def ldW (w : Wld) (c : Cmd) : Wld := { w with U := Il c.U (ldU c.N) w.U }
def va (g : Gnd) (t : Nat) : Vc := (tx g t + 32768, ty g t + 32768)
/-- Good places for a kind about a tile. -/
def Ih (w : Wld) (k tile : Int) (n : Nat) : List Nat := o9 w.G (zbq w.G w.B (xq k) (Bh k)) (Bh k) tile n
open Classical in
/-- Where a unit comes out. -/
noncomputable def t8 (w : Wld) (u : Unt) (tile : Int) : Option Nat := (Ih w u.kind tile 64).find? fun t => decide (y8 w u.id u.kind (va w.G t))
def Nd (u : Unt) (p : Vc) : Unt := { u with pos := p, inn := 0 }
/-- One behind the other comes out. -/
noncomputable def unl (tile : Int) : List Int -> Wld -> Option Wld
 | [], w => some w
 | id :: l, w => match findU w.U id with
  | none => none
  | some i => match t8 w (w.U.getD i unt0) tile with
   | none => none
   | some t => unl tile l { w with U := w.U.set i (Nd (w.U.getD i unt0) (va w.G t)) }
open Classical in
noncomputable def ulE (w : Wld) (c : Cmd) : Int :=
 if D1 w c.P c.N = 0 then
  (if 0 <= c.T /\ c.T < w.G.W * w.G.H then
   (if G4 (va w.G c.T.toNat) (uAt w c.N).pos then 8 else (match unl c.T (zq w.U c.N) w with | none => 5 | some _ => 0))
  else 3)
 else D1 w c.P c.N
noncomputable def ulW (w : Wld) (c : Cmd) : Wld := (unl c.T (zq w.U c.N) w).getD w
def mvG (g : Int) (u : Unt) : Unt := { u with goal := g, next := -1, stuck := 0, state := 1 }
def u0 (w : Wld) (c : Cmd) (k : Nat) (kd : Int) : Int := match (Ih w kd c.T c.U.length)[k]? with | some t => (t : Int) | none => c.T
def mvL (w : Wld) (c : Cmd) : Nat -> List Unt
 | 0 => w.U
 | k + 1 => match findU w.U (c.U.getD k 0) with
  | some i => (mvL w c k).set i (mvG (u0 w c k (w.U.getD i unt0).kind) (w.U.getD i unt0))
  | none => mvL w c k
def mvE (w : Wld) (c : Cmd) : Int := if 0 <= c.T /\ c.T < w.G.W * w.G.H then Bx (Ae w c.P) c.U else 3
def mvW (w : Wld) (c : Cmd) : Wld := { w with U := mvL w c c.U.length }
noncomputable def aE (w : Wld) (c : Cmd) : Int := if c.K = 1 then spE w c else if c.K = 2 then mvE w c else if c.K = 3 then stE w c else if c.K = 4 then bdE w c else if c.K = 5 then drE w c else if c.K = 6 then ldE w c else ulE w c
noncomputable def aW (w : Wld) (c : Cmd) : Wld := if c.K = 1 then spW w c else if c.K = 2 then mvW w c else if c.K = 3 then stW w c else if c.K = 4 then bdW w c else if c.K = 5 then drW w c else if c.K = 6 then ldW w c else ulW w c
theorem a1 {w : Wld} {c : Cmd} (h : c.K = 1) : aE w c = spE w c /\ aW w c = spW w c := by unfold aE aW; rw [h]; exact ⟨rfl, rfl⟩
theorem a2 {w : Wld} {c : Cmd} (h : c.K = 2) : aE w c = mvE w c /\ aW w c = mvW w c := by unfold aE aW; rw [h]; exact ⟨rfl, rfl⟩
theorem a3 {w : Wld} {c : Cmd} (h : c.K = 3) : aE w c = stE w c /\ aW w c = stW w c := by unfold aE aW; rw [h]; exact ⟨rfl, rfl⟩
theorem a4 {w : Wld} {c : Cmd} (h : c.K = 4) : aE w c = bdE w c /\ aW w c = bdW w c := by unfold aE aW; rw [h]; exact ⟨rfl, rfl⟩
theorem a5 {w : Wld} {c : Cmd} (h : c.K = 5) : aE w c = drE w c /\ aW w c = drW w c := by unfold aE aW; rw [h]; exact ⟨rfl, rfl⟩
theorem a6 {w : Wld} {c : Cmd} (h : c.K = 6) : aE w c = ldE w c /\ aW w c = ldW w c := by unfold aE aW; rw [h]; exact ⟨rfl, rfl⟩
theorem a7 {w : Wld} {c : Cmd} (h : c.K = 7) : aE w c = ulE w c /\ aW w c = ulW w c := by unfold aE aW; rw [h]; exact ⟨rfl, rfl⟩
instance (g : Gnd) (t : Nat) (p : Vc) (r : Int) : Decidable (qd g t p r) := by unfold qd; infer_instance
instance (g : Gnd) (b : Bld) : Decidable (jv g b) := by unfold jv; infer_instance
instance (g : Gnd) (b : Bld) : Decidable (onP g b) := by unfold onP; infer_instance
instance (b : Bld) : Decidable (zy b) := by unfold zy; infer_instance
instance (a b : Bld) : Decidable (x4 a b) := by unfold x4; infer_instance
instance (l : List Bld) : Decidable (Az l) := by unfold Az; infer_instance
instance (l : List Bld) : Decidable (D6 l) := by unfold D6; infer_instance
instance (g : Gnd) : Decidable (zt g) := by unfold zt; infer_instance
instance (g : Gnd) (l : List Bld) : Decidable (vd g l) := by unfold vd; infer_instance
instance (g : Gnd) (l : List Bld) (c : Int) (p : Vc) (r : Int) : Decidable (kg g l c p r) := by unfold kg; infer_instance
instance (w : Wld) (id k : Int) (p : Vc) : Decidable (y8 w id k p) := by unfold y8; infer_instance
instance (k : Int) : Decidable (qy k) := by unfold qy; infer_instance
instance (g : Gnd) (t : Int) : Decidable (xp g t) := by unfold xp; infer_instance
instance (w : Wld) (u : Unt) : Decidable (jl w u) := by unfold jl; infer_instance
instance (w : Wld) : Decidable (k5 w) := by unfold k5; infer_instance
instance (l : List Unt) : Decidable (y6 l) := by unfold y6; infer_instance
instance (w : Wld) : Decidable (vh w) := by unfold vh; infer_instance
instance (w : Wld) (u : Unt) : Decidable (qx w u) := by unfold qx; infer_instance
instance (w : Wld) : Decidable (yu w) := by unfold yu; infer_instance
instance (x y : Int) : Decidable (yo x y) := by unfold yo; infer_instance
instance (t : Int) : Decidable (we t) := by unfold we; infer_instance
instance (t : Int) : Decidable (idP t) := by unfold idP; infer_instance
instance (l : List Int) : Decidable (wa l) := by unfold wa; infer_instance
instance (w : Wld) : Decidable (Gx w) := by unfold Gx; infer_instance
def rdG : Gnd := ⟨6, 2, [0, 0, 0, 0, 0, 0, 0, 0, 0, 0, 0, 0]⟩
def rdC : Unt := ⟨1, 1, 3, (32768, 32768), -1, -1, 0, 0, 0⟩
def rdR (i : Int) : Unt := ⟨i, 1, 0, (0, 0), -1, -1, 0, 1, 0⟩
def rdU : Nat -> List Unt
 | 0 => [rdC]
 | n + 1 => rdU n ++ [rdR (2 + (n : Int))]
def rdW (l : List Unt) : Wld := ⟨0, 2, 20, rdG, [], l⟩
theorem th : zt rdG := by decide +kernel
theorem rd_cen : va rdG 0 = (32768, 32768) /\ va rdG 3 = (229376, 32768) := by decide +kernel
theorem I5 (n : Nat) : (rdU n).length = n + 1 := by
 induction n with
 | zero => rfl
 | succ n ih => simp [rdU, ih]
theorem F9 : ∀ n, n < 7 -> (yu (rdW (rdU n)) ↔ n <= 4) := by decide +kernel
theorem I4 : ∀ n, n < 7 -> (zq (rdU n) 1).length = n /\ (findU (rdU n) 1).isSome = true := by decide +kernel
theorem tb : ¬ yu (rdW [rdC, { rdR 2 with owner := 2 }]) /\ ¬ yu (rdW [rdC, { rdR 2 with pos := (229376, 32768) }]) /\ ¬ yu (rdW [{ rdC with kind := 1 }, rdR 2]) /\ ¬ yu (rdW [rdC, { rdR 2 with kind := 3 }]) := by decide +kernel
theorem Cq (n : Nat) : ∀ u ∈ rdU n, u.pos.ok := by
 induction n with
 | zero => intro u hu; simp [rdU] at hu; subst hu; exact (show zl 32768 /\ zl 32768 from ⟨⟨by decide, by decide⟩, by decide, by decide⟩)
 | succ n ih =>
  intro u hu
  simp only [rdU, List.mem_append, List.mem_singleton] at hu
  rcases hu with hu | rfl
  ·exact ih u hu
  ·exact (show zl 0 /\ zl 0 from ⟨⟨by decide, by decide⟩, by decide, by decide⟩)
/-- What may come next in a state: values at once, then the effects that may come, each with the state behind it. -/
inductive Sch2 where
  | done
  | v (i : Nat) (r : Sch2)
  | e (i : Nat) (chk : List Nat) (s : Nat) (alt : Sch2)
  | stop
/-- A state of a region: what has been carried out, what may come, and the slots and boxes that are known. -/
structure Stt (σ : Type) where
  L : List Nat
  S : Sch2
  t : σ -> List (Nat × LV)
  bx : σ -> List (Nat × List AV)
  inv : σ -> Store -> Prop
def Bw : Sch2 -> List Nat
  | .e i _ _ alt => i :: Bw alt
  | _ => []
def qi (c : Cfg) (ops : Array Oper) (n : Nat) (F : Nat -> List Nat) : Sch2 -> List Nat -> Bool -> Bool
  | .done, L, first => first && (List.range ops.size).all fun i => mem i L
  | .v i r, L, first => first && (!mem i L && Nat.blt i ops.size && (match ops[i]? with | some o => isV c o | none => false) && sub (ye ops i) L && qi c ops n F r (i :: L) true)
  | .e i chk s alt, L, first => k8 c ops i chk L && (Nat.blt s n && sub (i :: L) (F s) && sub (F s) (i :: L)) && qi c ops n F alt L false &&
      (!first || (List.range ops.size).all fun j => mem j L || !sub (ye ops j) L || mem j (i :: Bw alt))
  | .stop, _, first => !first
/-- The values among the operations. -/
def Na (c : Cfg) (ops : Array Oper) (L : List Nat) : List Nat := L.filter fun i => match ops[i]? with | some o => isV c o | none => false
def atS {σ : Type} (c : Cfg) (ops : Array Oper) (X : Stt σ) (A : Fr) (st : Store) : Prop :=
  ∃ y, X.inv y st /\ (ki A (X.t y) /\ kj A (X.bx y)) /\ kp c ops (xe (X.t y) (X.bx y)) st (Na c ops X.L)
def vc2 {σ : Type} (P : Program) (c : Cfg) (ops : Array Oper) (K : Fr -> Store -> Prop) (X : Nat -> Stt σ) : Sch2 -> Fr -> Store -> Prop
  | .done, A, st => K A st
  | .v i r, A, st => optK ops[i]? fun o => optK o.dst fun d =>
      j9 ops o A (fun A => vcW c A.ev A.bx st d o.op fun x => vc2 P c ops K X r (A.put d x) st) (fun A => vc2 P c ops K X r (A.put d .und) st)
  | .e i chk s alt, A, st => Dt P c ops (atS c ops (X s)) i chk .done A st /\ vc2 P c ops K X alt A st
  | .stop, _, _ => True
section
variable {P : Program} {c : Cfg} {ops : Array Oper} {Oth M0 : Nat -> Nat -> Prop} {w0 : World} {n : Nat} {σ : Type} {X : Nat -> Stt σ}
theorem sub_iff {l m : List Nat} : sub l m = true ↔ ∀ i ∈ l, i ∈ m := by
  unfold sub
  rw [List.all_eq_true]
  exact ⟨fun h i hi => (yq _ _).1 (h i hi), fun h i hi => (yq _ _).2 (h i hi)⟩
theorem zen {K : Fr -> Store -> Prop} {A : Fr} {st : Store} {i : Nat} {L : List Nat} {F : Nat -> List Nat} : ∀ (S : Sch2) (first : Bool), qi c ops n F S L first = true -> vc2 P c ops K X S A st -> i ∈ Bw S ->
    ∃ chk s, k8 c ops i chk L = true /\ (s < n /\ ∀ j, j ∈ F s ↔ j ∈ i :: L) /\ Dt P c ops (atS c ops (X s)) i chk .done A st := by
  intro S
  induction S with
  | done => intro _ _ _ h; cases h
  | stop => intro _ _ _ h; cases h
  | v j r _ => intro _ _ _ h; cases h
  | e j chk s alt ih =>
    intro first hs hv hi
    simp only [qi, Bool.and_eq_true] at hs
    obtain ⟨⟨⟨h1, ⟨h2, h3⟩, h4⟩, h5⟩, _⟩ := hs
    simp only [Bw, List.mem_cons] at hi
    rcases hi with rfl | hi
    · exact ⟨chk, s, h1, ⟨Nat.le_of_ble_eq_true h2, fun j => ⟨sub_iff.1 h4 j, sub_iff.1 h3 j⟩⟩, hv.1⟩
    · exact ih false h5 hv.2 hi
theorem DInv.labs {listed : Array Bool} {Lab L U : List Nat} {A : Fr} {st : Store} {M : Nat -> Nat -> Prop} {a : Act} {w : World} (h : DInv c ops Oth M0 w0 listed Lab U A st M a w) (e : ∀ j, j ∈ L ↔ j ∈ Lab) : DInv c ops Oth M0 w0 listed L U A st M a w :=
  ⟨h.lsz, fun i hi => by rw [h.lst i hi, e], fun i hi => (e i).2 (h.usub i hi), fun i hi => ⟨(h.lab i ((e i).1 hi)).1, fun j hj => (e j).2 ((h.lab i ((e i).1 hi)).2 j hj)⟩, h.uv, h.std, h.sim, h.chg, h.cls⟩
theorem K7 {A : Fr} {st : Store} {M : Nat -> Nat -> Prop} {N : SN} {a : Act} {w : World} {t : List (Nat × LV)} {bx : List (Nat × List AV)} {D : List Nat} (ht : ki A t) (hb : kj A bx) (h : Sim N Oth (zx A D) st M a w) : Sim N Oth (zx (xe t bx) D) st M a w := by
  obtain ⟨β, s⟩ := h
  have hbx : ∀ k x, jr bx k = some x -> A.bx k = some x := K9 hb
  have hne : ∀ k, jr bx k ≠ none -> A.bx k ≠ none := fun k hk => by
    cases hl : jr bx k with
    | none => exact absurd hl hk
    | some x => rw [hbx k x hl]; simp
  refine ⟨β, { tsz := s.tsz, dfr := s.dfr, tm := fun i => ?_, bx := fun k x hk => s.bx k x (hbx k x hk), inj := fun k k' h1 h2 => s.inj k k' (hne k h1) (hne k' h2), sep := fun k b hk hb => s.sep k b (hne k hk) hb, sto := s.sto }⟩
  have h1 := s.tm i
  by_cases hi : i ∈ D
  · simp only [zx, (yq _ _).2 hi, cond_true]; trivial
  · rw [Bn hi] at h1 ⊢
    exact K8 ht i _ _ _ _ h1
/-- A value moves to the pending ones. -/
theorem DInv.move2 (hI : zu P c.I) (hops : qq c ops = true) {K : Fr -> Store -> Prop} {F : Nat -> List Nat} {listed : Array Bool} {Lab U : List Nat} {A : Fr} {st : Store} {M : Nat -> Nat -> Prop} {a : Act} {w : World} (h : DInv c ops Oth M0 w0 listed Lab U A st M a w) {j : Nat} {r : Sch2} (hs : qi c ops n F (.v j r) Lab true = true) (hv : vc2 P c ops K X (.v j r) A st) :
    ∃ A', qi c ops n F r (j :: Lab) true = true /\ vc2 P c ops K X r A' st /\ DInv c ops Oth M0 w0 listed (j :: Lab) (j :: U) A' st M a w := by
  simp only [qi, Bool.and_eq_true, Bool.not_eq_true', true_and] at hs
  obtain ⟨⟨⟨⟨hn, hlt⟩, hV⟩, hdep⟩, hs⟩ := hs
  have hjL : j ∉ Lab := fun hm => by rw [(yq _ _).2 hm] at hn; cases hn
  have hlt : j < ops.size := Nat.le_of_ble_eq_true hlt
  obtain ⟨o, hi, hv⟩ := ze hv
  obtain ⟨d, hd, hv⟩ := ze hv
  rw [hi] at hV
  replace hV : isV c o = true := hV
  have hf := jd hops hi
  have hdl : ∀ k ∈ ye ops j, k ∈ Lab := fun k hk => (yq _ _).1 (List.all_eq_true.1 hdep k hk)
  have key : ∀ x, vc2 P c ops K X r (A.put d x) st -> ((ql ops o A = some true /\ vcW c A.ev A.bx st d o.op fun y => y = x) \/ (ql ops o A = some false /\ x = .und)) ->
      ∃ A', qi c ops n F r (j :: Lab) true = true /\ vc2 P c ops K X r A' st /\ DInv c ops Oth M0 w0 listed (j :: Lab) (j :: U) A' st M a w := by
    intro x hx hst
    have hout : ∀ t, t ≠ d -> (A.put d x).t t = A.t t := fun t ht => by simp [Fr.put, ya ht]
    refine ⟨A.put d x, hs, hx, h.lsz, fun k hk => ?_, fun k hk => ?_, fun k hk => ?_, fun k hk => ?_, fun k hk => ?_, ?_, h.chg, h.cls⟩
    · rw [h.lst k hk]
      grind
    · rcases List.mem_cons.1 hk with rfl | hk
      · simp
      · exact List.mem_cons_of_mem _ (h.usub k hk)
    · rcases List.mem_cons.1 hk with rfl | hk
      · grind
      · exact ⟨(h.lab k hk).1, fun k' hk' => List.mem_cons_of_mem _ ((h.lab k hk).2 k' hk')⟩
    · rcases List.mem_cons.1 hk with rfl | hk
      · grind
      · exact h.uv k hk
    · rcases List.mem_cons.1 hk with rfl | hk
      · have hl : ∀ t ∈ o.looksAt ops, (A.put d x).t t = A.t t := fun t ht => hout t fun hh => hf.own d hd (hh ▸ ht)
        refine stands_iff.2 ⟨o, d, hi, hd, ?_⟩
        rw [vw hl, show (A.put d x).t d = x by simp [Fr.put]]
        exact hst.imp (fun h => ⟨h.1, Cc (ev' := (A.put d x).ev) (Dq hl) h.2⟩) id
      · obtain ⟨o', ho', hV'⟩ := h.uv k hk
        have hkj : k ≠ j := fun hh => hjL (hh ▸ h.usub k hk)
        refine Fx ho' (h.std k hk) (fun t ht => hout t fun hh => ?_) (fun d' hd' => hout d' fun hh => hf.one d hd k o' ho' hkj (hh ▸ hd')) (.inl ⟨rfl, rfl⟩)
        subst hh
        rcases hf.look t hd k o' ho' hkj ht with h5 | ⟨h5, _⟩
        · exact hjL ((h.lab k (h.usub k hk)).2 j h5)
        grind
    · obtain ⟨β, sim⟩ := h.sim
      refine ⟨β, sim.weaken rfl fun t => ?_⟩
      grind[qh,zx,yq]
  rcases guardK_iff.1 hv with ⟨hg, hv⟩ | ⟨hg, hv⟩
  · grind[Hv]
  grind
theorem DInv.done2 (hops : qq c ops = true) {K : Fr -> Store -> Prop} {F : Nat -> List Nat} {S : Sch2} {listed : Array Bool} {Lab U : List Nat} {A : Fr} {st : Store} {M : Nat -> Nat -> Prop} {a : Act} {w : World} (h : DInv c ops Oth M0 w0 listed Lab U A st M a w) (hs : qi c ops n F S Lab true = true) (hv : vc2 P c ops K X S A st)
    (hl : left ops listed = 0) : qm c Oth M0 w0 K .normal a w := by
  have hall : ∀ i, i < ops.size -> i ∈ Lab /\ i ∉ U := fun i hi => by
    have := C0 hl hi
    rw [Gw (by rw [h.lsz]; exact hi)] at this
    exact (h.lst i hi).1 this
  have hU : U = [] := by
    cases U with
    | nil => rfl
    | cons u U => exact absurd (List.mem_cons_self) (hall u (h.lab u (h.usub u List.mem_cons_self)).1).2
  subst hU
  cases S with
  | done => exact ⟨A, st, M, hv, h.sim, h.chg⟩
  | stop => cases hs
  | v i r =>
    simp only [qi, Bool.and_eq_true, Bool.not_eq_true'] at hs
    grind[yq]
  | e i chk r alt =>
    simp only [qi, k8, Bool.and_eq_true, Bool.not_eq_true'] at hs
    grind[yq]
theorem zce (hI : zu P c.I) (hops : qq c ops = true) {K : Fr -> Store -> Prop} {fuel : Nat} (hc : ∀ s, s < n -> qi c ops n (fun s => (X s).L) (X s).S (X s).L true = true) (hJ : ∀ s, s < n -> ∀ y st, (X s).inv y st -> vc2 P c ops K X (X s).S (xe ((X s).t y) ((X s).bx y)) st)
    (ih : ∀ (S : Sch2) (listed : Array Bool) (Lab U : List Nat) (A : Fr) (st : Store) (M : Nat -> Nat -> Prop) (a : Act) (w : World), qi c ops n (fun s => (X s).L) S Lab true = true -> vc2 P c ops K X S A st -> DInv c ops Oth M0 w0 listed Lab U A st M a w -> left ops listed = fuel ->
      wpAny P .any ops (qm c Oth M0 w0 K) fuel listed a w) {listed : Array Bool} {M : Nat -> Nat -> Prop} {a : Act} {w : World} {st : Store} (hl : left ops listed = fuel + 1) {i : Nat} (hr : i ∈ Region.ready .any ops listed) :
    ∀ (S : Sch2) (Lab U : List Nat) (A : Fr), qi c ops n (fun s => (X s).L) S Lab true = true -> vc2 P c ops K X S A st -> DInv c ops Oth M0 w0 listed Lab U A st M a w ->
      wpOp P ops (qm c Oth M0 w0 K) i (wpAny P .any ops (qm c Oth M0 w0 K) fuel (listed.setIfInBounds i true)) a w := by
  obtain ⟨hun, hilt, hdeps⟩ := ready_iff.1 hr
  intro S
  induction S with
  | done =>
    intro Lab U A hs hv h
    by_cases hU : i ∈ U
    · exact h.pend hI hops hr hU fun U' M' a' w' h' => ih .done _ _ _ _ _ _ _ _ hs hv h' (by have := ku h.lsz hilt hun; omega)
    · simp only [qi, Bool.true_and] at hs
      exact absurd ⟨(yq _ _).1 (all_range.1 hs i hilt), hU⟩ ((h.listed_iff hilt).1 hun)
  | stop => intro Lab U A hs; cases hs
  | v j r ihr =>
    intro Lab U A hs hv h
    by_cases hU : i ∈ U
    · exact h.pend hI hops hr hU fun U' M' a' w' h' => ih (.v j r) _ _ _ _ _ _ _ _ hs hv h' (by have := ku h.lsz hilt hun; omega)
    · obtain ⟨A', h1, h2, h3⟩ := h.move2 hI hops hs hv
      exact ihr _ _ _ h1 h2 h3
  | e j chk s alt _ =>
    intro Lab U A hs hv h
    by_cases hU : i ∈ U
    · exact h.pend hI hops hr hU fun U' M' a' w' h' => ih (.e j chk s alt) _ _ _ _ _ _ _ _ hs hv h' (by have := ku h.lsz hilt hun; omega)
    · have hiL : i ∉ Lab := fun hm => (h.listed_iff hilt).1 hun ⟨hm, hU⟩
      have hin : i ∈ Bw (.e j chk s alt) := by
        have hs2 := hs
        simp only [qi, Bool.and_eq_true, Bool.not_true, Bool.false_or] at hs2
        have h1 := all_range.1 hs2.2 i hilt
        simp only [Bool.or_eq_true, Bool.not_eq_true', j7 hiL, Bool.false_eq_true, false_or] at h1
        rcases h1 with h1 | h1
        · have : sub (ye ops i) Lab = true := sub_iff.2 fun k hk => by
            have hlt : k < ops.size := by
              have := (jd hops (Array.getElem?_eq_getElem hilt)).lt k hk
              omega
            exact ((h.lst k hlt).1 (hdeps k hk)).1
          rw [this] at h1; cases h1
        · exact (yq _ _).1 h1
      obtain ⟨chk', s', h1, ⟨hlt, hse⟩, h3⟩ := zen _ true hs hv hin
      refine h.eff (K2 := K) hI hops hr h1 h3 fun A' st' M' a' w' h4 h5 => ?_
      obtain ⟨y, k1, ⟨k2, k3⟩, k4⟩ : atS c ops (X s') A' st' := h4
      have h6 := h5.labs hse
      refine ih _ _ _ _ _ _ _ _ _ (hc s' hlt) (hJ s' hlt y st' k1) ⟨h6.lsz, h6.lst, h6.usub, h6.lab, h6.uv, fun k hk => Ib k4 k (List.mem_filter.2 ⟨h6.usub k hk, ?_⟩), K7 k2 k3 h6.sim, h6.chg, h6.cls⟩ (by have := ku h.lsz hilt hun; omega)
      obtain ⟨o, ho, hV⟩ := h6.uv k hk
      rw [ho]; exact hV
theorem zcg (hI : zu P c.I) (hops : qq c ops = true) {K : Fr -> Store -> Prop} (hc : ∀ s, s < n -> qi c ops n (fun s => (X s).L) (X s).S (X s).L true = true) (hJ : ∀ s, s < n -> ∀ y st, (X s).inv y st -> vc2 P c ops K X (X s).S (xe ((X s).t y) ((X s).bx y)) st) : ∀ (fuel : Nat) (S : Sch2) (listed : Array Bool) (Lab U : List Nat) (A : Fr) (st : Store) (M : Nat -> Nat -> Prop) (a : Act) (w : World), qi c ops n (fun s => (X s).L) S Lab true = true -> vc2 P c ops K X S A st -> DInv c ops Oth M0 w0 listed Lab U A st M a w -> left ops listed = fuel ->
      wpAny P .any ops (qm c Oth M0 w0 K) fuel listed a w := by
  intro fuel
  induction fuel with
  | zero =>
    intro S listed Lab U A st M a w hs hv h hl
    refine ⟨?_, h.done2 hops hs hv hl⟩
    cases hr : Region.ready .any ops listed with
    | nil => rfl
    | cons i rs =>
      grind[List.mem_cons_self,ready_iff,C0]
  | succ fuel ih =>
    intro S listed Lab U A st M a w hs hv h hl
    exact ⟨fun hr => absurd hr (h.ready_ne hops hl), fun i hi => zce hI hops hc hJ ih hl hi S Lab U A hs hv h⟩
/-- A region whose order is drawn, by its states. -/
theorem ADraw.of_states (hI : zu P c.I) (hm : P.follows .mixedOrders = true) (hops : qq c ops = true) {K : Fr -> Store -> Prop} {A : Fr} {st : Store} (n : Nat) (X : Nat -> Stt σ)
    (hc : (List.range n).all (fun s => qi c ops n (fun s => (X s).L) (X s).S (X s).L true) = true) (hJ : ∀ s, s < n -> ∀ y st, (X s).inv y st -> vc2 P c ops K X (X s).S (xe ((X s).t y) ((X s).bx y)) st)
    (h0 : Nat.blt 0 n = true /\ (X 0).L = []) (h : ∃ y, (X 0).inv y st /\ ki A ((X 0).t y) /\ kj A ((X 0).bx y)) : ADraw P c ops K A st := by
  refine ⟨fun id => ⟨fun Oth M a w sim => wpIn_region_any hm (Hs (fun i o hi => (jd hops hi).nd) ?_ _ _ _ _ ?_)⟩⟩
  · grind
  obtain ⟨β, sim⟩ := sim
  obtain ⟨y, h⟩ := h
  have g := Grow.drew w
  have hc' := fun s hs => all_range.1 hc s hs
  have h1 : 0 < n := Nat.le_of_ble_eq_true h0.1
  have hsim : Sim c.N Oth (zx (xe ((X 0).t y) ((X 0).bx y)) []) st M a w.drew := K7 (D := []) h.2.1 h.2.2 ⟨β, sim.grow g⟩
  have hinv : DInv c ops Oth M w (Array.replicate ops.size false) [] [] (xe ((X 0).t y) ((X 0).bx y)) st M a w.drew :=
    ⟨by simp, fun i hi => by simp [hi], fun i h => (by cases h), fun i h => (by cases h), fun i h => (by cases h), fun i h => (by cases h), hsim, g.chg M, fun i hi hl => by simp_all⟩
  have hl : left ops (Array.replicate ops.size false) = ops.size := by
    unfold left
    have : (List.range ops.size).countP (fun i => !(Array.replicate ops.size false).getD i true) = (List.range ops.size).length := by
      rw [List.countP_eq_length]
      simp_all
    grind
  have h2 := hc' 0 h1
  rw [h0.2] at h2
  exact zcg hI hops hc' hJ ops.size _ _ [] [] _ st M a w.drew h2 (hJ 0 h1 y st h.1) hinv hl
end
/-- An object that is done with is a plain list in a box. -/
theorem AWp.freezeBx {P : Program} {c : Cfg} {code : Code} {Q : Exit -> Fr -> Store -> Prop} {A : Fr} {st : Store} {d j b n cap k : Nat} {l : List AV} {rows : List (List AV)} {pad : List AV}
    (hA : A.bx d = some l) (hl : l[j]? = some (.s (.slice (some ⟨b, 0, none⟩) n cap))) (ho : st.obj b = some (.cells (rows.flatten ++ pad))) (ht : st.tok b = none) (hn : rows.length = n) (hcap : n <= cap)
    (hk : ∀ row ∈ rows, row.length = k) (hall : ∀ row ∈ rows, ∀ x ∈ row, ∃ v, x = AV.s v /\ yk v = true)
    (h : AWp P c code Q (A.setBx d (l.set j (.lst k rows none))) (st.delObj b)) : AWp P c code Q A st := by
  refine ⟨fun Oth M a w ⟨β, sim⟩ => ?_⟩
  have hs : ∀ b' o, ((M b' o /\ b' ≠ b) \/ Oth b' o) -> (M b' o \/ Oth b' o) := fun _ _ h => h.imp (·.1) id
  have hbd : β d ≠ b := sim.sep d b (fun e => by rw [hA] at e; cases e) (.inl (by rw [ho]; simp))
  obtain ⟨hcell, hM⟩ := sim.sto.obj b _ ho
  have sim' : SimB c.N Oth β (A.setBx d (l.set j (.lst k rows none))) (st.delObj b) (fun b' o => M b' o /\ b' ≠ b) a w := by
    refine { tsz := sim.tsz, dfr := sim.dfr.sub fun _ _ h => h.1, tm := fun i => ?_, bx := fun q l' hq => ?_, inj := fun q q' h1 h2 => ?_, sep := fun q b' hq hb' => ?_, sto := ?_ }
    · have h1 := sim.tm i
      show LRel w _ β (A.t i) _
      generalize A.t i = x at h1
      cases x with
      | any => trivial
      | und => exact h1
      | av x => exact VRel.mono hs h1
      | bx k off => exact h1
    · have hq2 : (bif Nat.beq q d then some (l.set j (.lst k rows none)) else A.bx q) = some l' := hq
      clear hq
      cases hb : Nat.beq q d with
      | true =>
        rw [hb] at hq2
        have hqd := (yr _ _).1 hb
        subst hqd
        have hq3 : l.set j (.lst k rows none) = l' := Option.some.inj hq2
        subst hq3
        obtain ⟨⟨cs, e, fr, h1, h2, h3, h4⟩, h5⟩ := sim.bx q l hA
        refine ⟨⟨cs, e, fr, h1, h2, by rw [List.length_set]; exact h3, fun i x y hx hy => ?_⟩, fun o => ⟨h5 o, hbd⟩⟩
        rw [List.getElem?_set] at hx
        by_cases e9 : j = i
        · subst e9
          rw [if_pos rfl] at hx
          have hjl := (List.getElem?_eq_some_iff.1 hl).1
          rw [if_pos hjl] at hx
          have hx := Option.some.inj hx
          subst hx
          have h6 := h4 j _ y hl hy
          cases h6
          exact L9 hcell (fun o hT => hT.elim (fun q => q.2 rfl) (fun q => sim.sto.dis _ _ q (hM o))) hn hcap hk hall
        · rw [if_neg e9] at hx
          exact (h4 i x y hx hy).mono hs
      | false =>
        rw [hb] at hq2
        have hqb : β q ≠ b := sim.sep q b (fun e => by rw [show A.bx q = some l' from hq2] at e; cases e) (.inl (by rw [ho]; simp))
        obtain ⟨⟨cs, e, fr, h1, h2, h3, h4⟩, h5⟩ := sim.bx q l' hq2
        exact ⟨⟨cs, e, fr, h1, h2, h3, fun i x y hx hy => (h4 i x y hx hy).mono hs⟩, fun o => ⟨h5 o, hqb⟩⟩
    · refine sim.inj q q' (fun e => ?_) (fun e => ?_)
      · refine h1 ?_
        show (bif Nat.beq q d then some (l.set j (.lst k rows none)) else A.bx q) = none
        cases hb : Nat.beq q d with
        | true =>
          have := (yr _ _).1 hb
          subst this
          rw [hA] at e; cases e
        | false => exact e
      · refine h2 ?_
        show (bif Nat.beq q' d then some (l.set j (.lst k rows none)) else A.bx q') = none
        cases hb : Nat.beq q' d with
        | true =>
          have := (yr _ _).1 hb
          subst this
          rw [hA] at e; cases e
        | false => exact e
    · refine sim.sep q b' (fun e => ?_) ?_
      · refine hq ?_
        show (bif Nat.beq q d then some (l.set j (.lst k rows none)) else A.bx q) = none
        cases hb : Nat.beq q d with
        | true =>
          have := (yr _ _).1 hb
          subst this
          rw [hA] at e; cases e
        | false => exact e
      · rcases hb' with hb' | hb'
        · cases hx : (st.delObj b).obj b' with
          | none => exact absurd hx hb'
          | some y => exact .inl (by rw [(k9 hx).2]; simp)
        · exact .inr hb'
    · exact { obj := fun b' y hy => ⟨(sim.sto.obj b' y (k9 hy).2).1.mono hs, fun o => ⟨(sim.sto.obj b' y (k9 hy).2).2 o, (k9 hy).1⟩⟩
              tok := fun b' top htk => by
                obtain ⟨c, e, fr, h1, h2, h3, h4⟩ := sim.sto.tok b' top htk
                exact ⟨c, e, fr, h1, h2, h3, fun o ho => ⟨h4 o ho, fun e => by subst e; rw [show st.tok b' = some top from htk] at ht; cases ht⟩⟩
              mlt := fun b' o hm => sim.sto.mlt b' o hm.1, olt := sim.sto.olt, dis := fun b' o ho hm => sim.sto.dis b' o ho hm.1 }
  refine Code.wpF_mono ?_ (h.out Oth _ a w ⟨β, sim'⟩)
  rintro e a' w' ⟨A', st', M', h1, h2, h3⟩
  exact ⟨A', st', M', h1, h2, { size := h3.size, keep := fun b' o hb hm => h3.keep b' o hb fun h => hm h.1, blk := fun b' hb hm => h3.blk b' hb fun o h => hm o h.1, shp := h3.shp, sub := fun b' o hm hb => (h3.sub b' o hm hb).1, tape := h3.tape, os := h3.os, output := h3.output }⟩
end Go.V
