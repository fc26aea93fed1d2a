/- The ground on which laws of thronglaw24 are proved: contracts of functions and plain lemmas; no condition beyond the row's own. -/
import Derived.Test.YtbemejeejgpkaaaGreatVD
import Derived.Test.YtbemejeejgpkaaaGreatVE
set_option linter.unusedSimpArgs false
set_option linter.unusedVariables false
namespace Go.V
theorem zq (a g : Store) (b : Nat) (x : AObj) : (a.un g).setObj b x = a.un (g.setObj b x) := by
 unfold Store.un Store.setObj
 congr
 funext i
 by_cases h : i = b
 ·subst h; simp
 ·simp [nbeq h]
theorem zcn (a : Store) : a.un Store.empty = a := by
 unfold Store.un Store.empty
 rfl
theorem zta (a : Store) : Disj a Store.empty := fun b _ h => h.elim (fun h => h rfl) (fun h => h rfl)
theorem zaf {a g : Store} {b : Nat} (h : Fresh (a.un g) b) : Fresh a b /\ Fresh g b := by
 rw [fresh_iff, un_has] at h
 rw [fresh_iff, fresh_iff]
 exact ⟨fun h1 => h (.inl h1), fun h1 => h (.inr h1)⟩
theorem has_setObj_iff {g : Store} {b i : Nat} {x : AObj} : (g.setObj b x).has i ↔ i = b \/ g.has i := by
 unfold Store.has
 by_cases h : i = b
 ·subst h; simp [zb]
 ·simp [h, nbeq h, Store.setObj]
theorem zbi {a g : Store} {b : Nat} {x : AObj} (h : Disj a g) (hb : Fresh a b) : Disj a (g.setObj b x) := by
 intro i hi hg
 rcases has_setObj_iff.1 hg with rfl | hg
 ·exact (fresh_iff.1 hb) hi
 ·exact h i hi hg
theorem kn {a g : Store} {b : Nat} {x y : AObj} (h : Disj a g) (hb : g.obj b = some y) : Disj a (g.setObj b x) := by
 intro i hi hg
 rcases has_setObj_iff.1 hg with rfl | hg
 ·exact h i hi (js hb)
 ·exact h i hi hg
/-- In which cell. -/
def zp (p : Vc) : Int × Int := (nrm p.1 / 131072, nrm p.2 / 131072)
abbrev Ent := Int × Vc
def entA (e : Ent) : AV × AV := (int e.1, .agg (vecC e.2))
structure Grp where
 x : Int
 y : Int
 ns : List Int
 b : Nat
 cap : Nat
 L : List AV
def Grp.key (g : Grp) : Int × Int := (g.x, g.y)
def entG (g : Grp) : AV × AV := (.agg [int g.x, int g.y], .s (.slice (some ⟨g.b, 0, none⟩) g.ns.length g.cap))
def Grp.fits (g : Grp) : Prop := g.ns.length <= g.cap /\ g.cap <= g.ns.length + g.L.length /\ g.cap <= 9223372036854775807
/-- The cells in a store: the struct 'p', two maps, a slice for each cell. -/
structure CellsAt (a : Store) (p ma mi : Nat) (l : List Ent) (bs1 : List Nat) (c1 : Nat) (G : List Grp) (bs2 : List Nat) (c2 : Nat) : Prop where
 hp : a.obj p = some (.cells [.s (.map (some ma)), .s (.map (some mi))])
 ha : a.obj ma = some (.map (l.map entA) bs1 c1)
 hi : a.obj mi = some (.map (G.map entG) bs2 c2)
 ne : ma ≠ mi
 hg : ∀ g ∈ G, a.obj g.b = some (.cells (g.ns.map aI ++ g.L)) /\ g.fits /\ g.b ≠ p
 nd : (G.map (·.b)).Nodup
structure Inv (l : List Ent) (G : List Grp) : Prop where
 n1 : (l.map (·.1)).Nodup
 n2 : (G.map (·.key)).Nodup
 s : ∀ g ∈ G, g.ns.Pairwise (· < ·) /\ g.ns ≠ []
 m1 : ∀ g ∈ G, ∀ id, id ∈ g.ns ↔ ∃ e ∈ l, e.1 = id /\ zp e.2 = g.key
 m2 : ∀ e ∈ l, ∃ g ∈ G, g.key = zp e.2
def CellsOf (a : Store) (p : Nat) (l : List Ent) : Prop := ∃ ma mi bs1 c1 G bs2 c2, CellsAt a p ma mi l bs1 c1 G bs2 c2 /\ Inv l G
/-- A sorted list, cut at a number. -/
theorem zi0 (x : Int) : ∀ {ns : List Int}, ns.Pairwise (· < ·) -> ns.take (ns.countP (· < x)) = ns.filter (· < x) /\ ns.drop (ns.countP (· < x)) = ns.filter (x <= ·) := by
 intro ns
 induction ns with
 | nil => intro _; simp
 | cons a ns ih =>
  intro h
  obtain ⟨h1, h2⟩ := List.pairwise_cons.1 h
  obtain ⟨i1, i2⟩ := ih h2
  by_cases ha : a < x
  ·have hna : ¬ x <= a := by omega
   rw [List.countP_cons_of_pos (by simpa using ha)]
   refine ⟨?_, ?_⟩
   ·rw [List.take_succ_cons, i1, List.filter_cons_of_pos (by simpa using ha)]
   ·rw [List.drop_succ_cons, i2, List.filter_cons_of_neg (by simpa using hna)]
  ·have hall : ∀ y ∈ ns, ¬ y < x := fun y hy => by have := h1 y hy; omega
   have h0 : (a :: ns).countP (· < x) = 0 := by
    rw [List.countP_eq_zero]
    intro y hy
    rcases List.mem_cons.1 hy with rfl | hy
    ·simpa using ha
    ·simpa using hall y hy
   rw [h0]
   refine ⟨?_, ?_⟩
   ·rw [List.take_zero]
    symm
    rw [List.filter_eq_nil_iff]
    intro y hy
    rcases List.mem_cons.1 hy with rfl | hy
    ·simpa using ha
    ·simpa using hall y hy
   ·rw [List.drop_zero]
    symm
    rw [List.filter_eq_self]
    intro y hy
    rcases List.mem_cons.1 hy with rfl | hy
    ·simp; omega
    ·have := hall y hy; simp; omega
theorem yi2 (x : Int) (ns : List Int) : ns.countP (· < x) <= ns.length := List.countP_le_length
theorem zsn {ns : List Int} (h : ns.Pairwise (· < ·)) {x : Int} (hx : x ∉ ns) :
  (ns.take (ns.countP (· < x)) ++ x :: ns.drop (ns.countP (· < x))).Pairwise (· < ·) /\ ∀ y, y ∈ ns.take (ns.countP (· < x)) ++ x :: ns.drop (ns.countP (· < x)) ↔ y = x \/ y ∈ ns := by
 obtain ⟨h1, h2⟩ := zi0 x h
 rw [h1, h2]
 refine ⟨?_, fun y => ?_⟩
 ·rw [List.pairwise_append, List.pairwise_cons]
  refine ⟨h.filter _, ⟨fun y hy => ?_, h.filter _⟩, fun a ha b hb => ?_⟩
  ·have h3 := List.mem_filter.1 hy
   have h4 : x <= y := by simpa using h3.2
   have h5 : y ≠ x := fun e => hx (e ▸ h3.1)
   omega
  ·have h3 := (List.mem_filter.1 ha).2
   have h3 : a < x := by simpa using h3
   rcases List.mem_cons.1 hb with rfl | hb
   ·exact h3
   ·have h4 : x <= b := by simpa using (List.mem_filter.1 hb).2
    omega
 ·simp only [List.mem_append, List.mem_cons, List.mem_filter, decide_eq_true_eq]
  constructor
  ·rintro (h3 | h3 | h3)
   ·exact .inr h3.1
   ·exact .inl h3
   ·exact .inr h3.1
  ·rintro (h3 | h3)
   ·exact .inr (.inl h3)
   ·by_cases h4 : y < x
    ·exact .inl ⟨h3, h4⟩
    ·exact .inr (.inr ⟨h3, by omega⟩)
theorem ztd {ns : List Int} (h : ns.Pairwise (· < ·)) {x : Int} (hx : x ∈ ns) :
  ns.countP (· < x) + 1 <= ns.length /\ (ns.take (ns.countP (· < x)) ++ ns.drop (ns.countP (· < x) + 1)).Pairwise (· < ·) /\ ∀ y, y ∈ ns.take (ns.countP (· < x)) ++ ns.drop (ns.countP (· < x) + 1) ↔ y ≠ x /\ y ∈ ns := by
 obtain ⟨h1, h2⟩ := zi0 x h
 have hsub : (ns.take (ns.countP (· < x)) ++ ns.drop (ns.countP (· < x) + 1)).Sublist ns := by
  conv => rhs; rw [<- List.take_append_drop (ns.countP (· < x)) ns]
  refine List.Sublist.append (List.Sublist.refl _) ?_
  rw [<- List.drop_drop]
  exact List.drop_sublist _ _
 have h3 : ns.filter (x <= ·) = x :: ns.filter (x < ·) := by
  clear h1 h2 hsub
  induction ns with
  | nil => cases hx
  | cons a ns ih =>
   obtain ⟨k1, k2⟩ := List.pairwise_cons.1 h
   rcases List.mem_cons.1 hx with rfl | hx
   ·rw [List.filter_cons_of_pos (by simp), List.filter_cons_of_neg (by simp)]
    congr 1
    apply List.filter_congr
    intro y hy
    have := k1 y hy
    simp; omega
   ·have := k1 x hx
    rw [List.filter_cons_of_neg (by simp; omega), List.filter_cons_of_neg (by simp; omega)]
    exact ih k2 hx
 have h4 : ns.drop (ns.countP (· < x) + 1) = ns.filter (x < ·) := by
  rw [<- List.drop_drop, h2, h3]; rfl
 refine ⟨?_, h.sublist hsub, fun y => ?_⟩
 ·have h5 : (ns.drop (ns.countP (· < x))).length = (ns.filter (x <= ·)).length := by rw [h2]
  rw [h3, List.length_drop, List.length_cons] at h5
  omega
 ·rw [h1, h4]
  simp only [List.mem_append, List.mem_filter, decide_eq_true_eq]
  constructor
  ·rintro (h5 | h5)
   ·exact ⟨by omega, h5.1⟩
   ·exact ⟨by omega, h5.1⟩
  ·rintro ⟨h5, h6⟩
   by_cases h7 : y < x
   ·exact .inl ⟨h6, h7⟩
   ·exact .inr ⟨h6, by omega⟩
theorem qn {α β : Type} {f : α -> β} : ∀ {G : List α} {i j : Nat} {a b : α}, (G.map f).Nodup -> G[i]? = some a -> G[j]? = some b -> f a = f b -> i = j := by
 intro G i j a b hn hi hj h
 have hi' : (G.map f)[i]? = some (f a) := by simp [hi]
 have hj' : (G.map f)[j]? = some (f b) := by simp [hj]
 have li := (List.getElem?_eq_some_iff.1 hi').1
 exact (List.getElem?_inj li hn).1 (by rw [hi', hj', h])
theorem y3 {α β : Type} {f : α -> β} {G : List α} {j : Nat} {g g' g1 : α} (hn : (G.map f).Nodup) (hj : G[j]? = some g) : g1 ∈ G.set j g' ↔ g1 = g' \/ (g1 ∈ G /\ f g1 ≠ f g) := by
 have hlt := (List.getElem?_eq_some_iff.1 hj).1
 constructor
 ·intro h
  obtain ⟨i, hi⟩ := List.mem_iff_getElem?.1 h
  by_cases hij : j = i
  ·subst hij
   rw [List.getElem?_set_self hlt] at hi
   cases hi
   exact .inl rfl
  ·rw [List.getElem?_set_ne hij] at hi
   exact .inr ⟨List.mem_of_getElem? hi, fun he => hij (qn hn hi hj he).symm⟩
 ·rintro (rfl | ⟨h1, h2⟩)
  ·exact List.mem_iff_getElem?.2 ⟨j, List.getElem?_set_self hlt⟩
  ·obtain ⟨i, hi⟩ := List.mem_iff_getElem?.1 h1
   have hij : j ≠ i := fun e => by subst e; rw [hj] at hi; cases hi; exact h2 rfl
   exact List.mem_iff_getElem?.2 ⟨i, by rw [List.getElem?_set_ne hij]; exact hi⟩
theorem kg {α β : Type} {f : α -> β} {G : List α} {j : Nat} {g g1 : α} (hn : (G.map f).Nodup) (hj : G[j]? = some g) : g1 ∈ G.eraseIdx j ↔ (g1 ∈ G /\ f g1 ≠ f g) := by
 constructor
 ·intro h
  obtain ⟨i, hi⟩ := List.mem_iff_getElem?.1 h
  rw [List.getElem?_eraseIdx] at hi
  split at hi
  ·rename_i hij
   exact ⟨List.mem_of_getElem? hi, fun he => by have := qn hn hi hj he; omega⟩
  ·rename_i hij
   exact ⟨List.mem_of_getElem? hi, fun he => by have := qn hn hi hj he; omega⟩
 ·rintro ⟨h1, h2⟩
  obtain ⟨i, hi⟩ := List.mem_iff_getElem?.1 h1
  have hij : i ≠ j := fun e => by subst e; rw [hj] at hi; cases hi; exact h2 rfl
  refine List.mem_iff_getElem?.2 ?_
  by_cases hlt : i < j
  ·exact ⟨i, by rw [List.getElem?_eraseIdx, if_pos hlt]; exact hi⟩
  ·refine ⟨i - 1, ?_⟩
   rw [List.getElem?_eraseIdx, if_neg (by omega), show i - 1 + 1 = i by omega]
   exact hi
theorem za7 {α β : Type} (f : α -> β) {G : List α} {j : Nat} {g g' : α} (hj : G[j]? = some g) (h : f g' = f g) : (G.set j g').map f = G.map f := by
 rw [List.map_set, h]
 apply List.ext_getElem?
 intro i
 by_cases hij : j = i
 ·subst hij
  have hlt := (List.getElem?_eq_some_iff.1 hj).1
  rw [List.getElem?_set_self (by simpa using hlt), List.getElem?_map, hj]; rfl
 ·rw [List.getElem?_set_ne hij]
theorem ypq {G : List Grp} (hn : (G.map (·.key)).Nodup) {g g1 : Grp} (h : g ∈ G) (h1 : g1 ∈ G) (hk : g1.key = g.key) : g1 = g := by
 obtain ⟨i, hi⟩ := List.mem_iff_getElem?.1 h
 obtain ⟨j, hj⟩ := List.mem_iff_getElem?.1 h1
 have := qn (f := Grp.key) hn hj hi hk
 subst this
 rw [hi] at hj
 cases hj; rfl
theorem zwu {l : List Ent} (hn : (l.map (·.1)).Nodup) {e e1 : Ent} (h : e ∈ l) (h1 : e1 ∈ l) (hk : e1.1 = e.1) : e1 = e := by
 obtain ⟨i, hi⟩ := List.mem_iff_getElem?.1 h
 obtain ⟨j, hj⟩ := List.mem_iff_getElem?.1 h1
 have := qn (f := fun (e : Ent) => e.1) hn hj hi hk
 subst this
 rw [hi] at hj
 cases hj; rfl
/-- All but one. -/
def yh (l : List Ent) (id : Int) : List Ent := l.filter fun e => e.1 != id
theorem mem_dropId {l : List Ent} {id : Int} {e : Ent} : e ∈ yh l id ↔ e ∈ l /\ e.1 ≠ id := by simp [yh]
theorem zeu {l : List Ent} {id : Int} (h : (l.map (·.1)).Nodup) : ((yh l id).map (·.1)).Nodup := h.sublist ((List.filter_sublist).map _)
theorem yn4 {l : List Ent} {G : List Grp} (h : Inv l G) {e : Ent} (he : e ∈ l) {j : Nat} {g : Grp} (hj : G[j]? = some g) (hk : g.key = zp e.2) {ns' : List Int} (hs : ns'.Pairwise (· < ·)) (hm : ∀ y, y ∈ ns' ↔ y ≠ e.1 /\ y ∈ g.ns) :
  (ns' = [] -> Inv (yh l e.1) (G.eraseIdx j)) /\ (ns' ≠ [] -> ∀ g' : Grp, g'.key = g.key -> g'.ns = ns' -> Inv (yh l e.1) (G.set j g')) := by
 have hgm := List.mem_of_getElem? hj
 have key : ∀ g1 ∈ G, g1.key ≠ g.key -> ∀ id, id ∈ g1.ns ↔ ∃ e1 ∈ yh l e.1, e1.1 = id /\ zp e1.2 = g1.key := by
  intro g1 h1 h2 id
  rw [h.m1 g1 h1 id]
  constructor
  ·rintro ⟨e1, h3, h4, h5⟩
   refine ⟨e1, mem_dropId.2 ⟨h3, fun h6 => h2 ?_⟩, h4, h5⟩
   rw [<- h5, zwu h.n1 he h3 h6, hk]
  ·rintro ⟨e1, h3, h4, h5⟩
   exact ⟨e1, (mem_dropId.1 h3).1, h4, h5⟩
 refine ⟨fun hn => ?_, fun hn g' hk' hns => ?_⟩
 ·refine ⟨zeu h.n1, h.n2.sublist ((List.eraseIdx_sublist ..).map _), fun g1 h1 => ?_, fun g1 h1 => ?_, fun e1 h1 => ?_⟩
  ·exact h.s g1 ((kg (f := Grp.key) h.n2 hj).1 h1).1
  ·obtain ⟨h2, h3⟩ := (kg (f := Grp.key) h.n2 hj).1 h1
   exact key g1 h2 h3
  ·obtain ⟨h2, h3⟩ := mem_dropId.1 h1
   obtain ⟨g1, h4, h5⟩ := h.m2 e1 h2
   refine ⟨g1, (kg (f := Grp.key) h.n2 hj).2 ⟨h4, fun h6 => ?_⟩, h5⟩
   have h7 : e1.1 ∈ g.ns := (h.m1 g hgm e1.1).2 ⟨e1, h2, rfl, by rw [<- h5, h6]⟩
   have := (hm e1.1).2 ⟨h3, h7⟩
   rw [hn] at this
   cases this
 ·refine ⟨zeu h.n1, by rw [za7 Grp.key hj hk']; exact h.n2, fun g1 h1 => ?_, fun g1 h1 => ?_, fun e1 h1 => ?_⟩
  ·rcases (y3 (f := Grp.key) h.n2 hj).1 h1 with rfl | ⟨h2, _⟩
   ·rw [hns]; exact ⟨hs, hn⟩
   ·exact h.s g1 h2
  ·rcases (y3 (f := Grp.key) h.n2 hj).1 h1 with rfl | ⟨h2, h3⟩
   ·intro id
    rw [hns, hm, h.m1 g hgm, hk']
    constructor
    ·rintro ⟨h4, e1, h5, h6, h7⟩
     exact ⟨e1, mem_dropId.2 ⟨h5, by rw [h6]; exact h4⟩, h6, h7⟩
    ·rintro ⟨e1, h5, h6, h7⟩
     obtain ⟨h8, h9⟩ := mem_dropId.1 h5
     exact ⟨by rw [<- h6]; exact h9, e1, h8, h6, h7⟩
   ·exact key g1 h2 h3
  ·obtain ⟨h2, h3⟩ := mem_dropId.1 h1
   obtain ⟨g1, h4, h5⟩ := h.m2 e1 h2
   by_cases h6 : g1.key = g.key
   ·exact ⟨g', (y3 (f := Grp.key) h.n2 hj).2 (.inl rfl), by rw [hk', <- h6, h5]⟩
   ·exact ⟨g1, (y3 (f := Grp.key) h.n2 hj).2 (.inr ⟨h4, h6⟩), h5⟩
theorem yn5 {l : List Ent} {G : List Grp} (h : Inv l G) {e : Ent} (he : ∀ e1 ∈ l, e1.1 ≠ e.1) :
  (∀ j g g', G[j]? = some g -> g.key = zp e.2 -> g'.key = g.key -> g'.ns.Pairwise (· < ·) -> (∀ y, y ∈ g'.ns ↔ y = e.1 \/ y ∈ g.ns) -> Inv (l ++ [e]) (G.set j g')) ∧
  ((∀ g ∈ G, g.key ≠ zp e.2) -> ∀ g', g'.key = zp e.2 -> g'.ns = [e.1] -> Inv (l ++ [e]) (G ++ [g'])) := by
 have n1 : ((l ++ [e]).map (·.1)).Nodup := by
  rw [List.map_append, List.nodup_append]
  refine ⟨h.n1, by simp, fun a ha b hb => ?_⟩
  obtain ⟨e1, h1, rfl⟩ := List.mem_map.1 ha
  simp at hb
  subst hb
  exact he e1 h1
 have key : ∀ g1 ∈ G, g1.key ≠ zp e.2 -> ∀ id, id ∈ g1.ns ↔ ∃ e1 ∈ l ++ [e], e1.1 = id /\ zp e1.2 = g1.key := by
  intro g1 h1 h2 id
  rw [h.m1 g1 h1 id]
  constructor
  ·rintro ⟨e1, h3, h4, h5⟩
   exact ⟨e1, by simp [h3], h4, h5⟩
  ·rintro ⟨e1, h3, h4, h5⟩
   rcases List.mem_append.1 h3 with h3 | h3
   ·exact ⟨e1, h3, h4, h5⟩
   ·simp at h3
    subst h3
    exact absurd h5.symm h2
 refine ⟨fun j g g' hj hk hk' hs hm => ?_, fun hno g' hk' hns => ?_⟩
 ·have hgm := List.mem_of_getElem? hj
  refine ⟨n1, by rw [za7 Grp.key hj hk']; exact h.n2, fun g1 h1 => ?_, fun g1 h1 => ?_, fun e1 h1 => ?_⟩
  ·rcases (y3 (f := Grp.key) h.n2 hj).1 h1 with rfl | ⟨h2, _⟩
   ·refine ⟨hs, fun hn => ?_⟩
    have := (hm e.1).2 (.inl rfl)
    rw [hn] at this; cases this
   ·exact h.s g1 h2
  ·rcases (y3 (f := Grp.key) h.n2 hj).1 h1 with rfl | ⟨h2, h3⟩
   ·intro id
    rw [hm, h.m1 g hgm, hk']
    constructor
    ·rintro (rfl | ⟨e1, h5, h6, h7⟩)
     ·exact ⟨e, by simp, rfl, hk.symm⟩
     ·exact ⟨e1, by simp [h5], h6, h7⟩
    ·rintro ⟨e1, h5, h6, h7⟩
     rcases List.mem_append.1 h5 with h5 | h5
     ·exact .inr ⟨e1, h5, h6, h7⟩
     ·simp at h5
      subst h5
      exact .inl h6.symm
   ·exact key g1 h2 (by rw [<- hk]; exact h3)
  ·rcases List.mem_append.1 h1 with h1 | h1
   ·obtain ⟨g1, h4, h5⟩ := h.m2 e1 h1
    by_cases h6 : g1.key = g.key
    ·exact ⟨g', (y3 (f := Grp.key) h.n2 hj).2 (.inl rfl), by rw [hk', <- h6, h5]⟩
    ·exact ⟨g1, (y3 (f := Grp.key) h.n2 hj).2 (.inr ⟨h4, h6⟩), h5⟩
   ·simp at h1
    subst h1
    exact ⟨g', (y3 (f := Grp.key) h.n2 hj).2 (.inl rfl), by rw [hk', hk]⟩
 ·refine ⟨n1, ?_, fun g1 h1 => ?_, fun g1 h1 => ?_, fun e1 h1 => ?_⟩
  ·rw [List.map_append, List.nodup_append]
   refine ⟨h.n2, by simp, fun a ha b hb => ?_⟩
   obtain ⟨g1, h1, rfl⟩ := List.mem_map.1 ha
   simp at hb
   subst hb
   rw [hk']
   exact hno g1 h1
  ·rcases List.mem_append.1 h1 with h1 | h1
   ·exact h.s g1 h1
   ·simp at h1
    subst h1
    rw [hns]
    exact ⟨by simp, by simp⟩
  ·rcases List.mem_append.1 h1 with h1 | h1
   ·exact key g1 h1 (hno g1 h1)
   ·simp at h1
    subst h1
    intro id
    rw [hns, hk']
    constructor
    ·intro h2
     simp at h2
     exact ⟨e, by simp, h2.symm, rfl⟩
    ·rintro ⟨e1, h2, h3, h4⟩
     rcases List.mem_append.1 h2 with h2 | h2
     ·obtain ⟨g2, h5, h6⟩ := h.m2 e1 h2
      exact absurd (h6.trans h4) (hno g2 h5)
     ·simp at h2
      subst h2
      simp [h3]
  ·rcases List.mem_append.1 h1 with h1 | h1
   ·obtain ⟨g1, h4, h5⟩ := h.m2 e1 h1
    exact ⟨g1, by simp [h4], h5⟩
   ·simp at h1
    subst h1
    exact ⟨g', by simp, hk'⟩
end Go.V
namespace Go.V
def qA (id : Int) (e : AV × AV) : Bool := match e.1 with | .s (.int _ n) => id == n | _ => false
def qG (x y : Int) (e : AV × AV) : Bool := match e.1 with | .agg [.s (.int _ a), .s (.int _ b)] => (x == a && (y == b && true)) | _ => false
def atId (id : Int) (e : Ent) : Bool := id == e.1
def zhc (k : Int × Int) (g : Grp) : Bool := (k.1 == g.x && (k.2 == g.y && true))
theorem atKey_iff {k : Int × Int} {g : Grp} : zhc k g = true ↔ g.key = k := by
 obtain ⟨x, y⟩ := k
 unfold zhc Grp.key
 simp
 constructor
 ·rintro ⟨h1, h2⟩; exact ⟨h1.symm, h2.symm⟩
 ·rintro ⟨h1, h2⟩; exact ⟨h1.symm, h2.symm⟩
theorem ypw (l : List Ent) (id : Int) : (l.map entA).find? (qA id) = (l.find? (atId id)).map entA := by
 rw [List.find?_map]; rfl
theorem zff (l : List Ent) (id : Int) : (l.map entA).findIdx? (qA id) = l.findIdx? (atId id) := by
 rw [List.findIdx?_map]; rfl
theorem zxh (G : List Grp) (k : Int × Int) : (G.map entG).find? (qG k.1 k.2) = (G.find? (zhc k)).map entG := by
 rw [List.find?_map]; rfl
theorem zfe (G : List Grp) (k : Int × Int) : (G.map entG).findIdx? (qG k.1 k.2) = G.findIdx? (zhc k) := by
 rw [List.findIdx?_map]; rfl
theorem zdd {α : Type} {q : α -> Bool} {l : List α} {e : α} (h : l.find? q = some e) : e ∈ l /\ q e = true := ⟨List.mem_of_find?_eq_some h, List.find?_some h⟩
theorem zgy {α : Type} {q : α -> Bool} {l : List α} {i : Nat} (h : l.findIdx? q = some i) : ∃ e, l[i]? = some e /\ q e = true /\ l.find? q = some e := by
 have h1 := List.findIdx?_eq_some_iff_getElem.1 h
 obtain ⟨hlt, hq, _⟩ := h1
 exact ⟨l[i], List.getElem?_eq_getElem hlt, hq, zgx h (List.getElem?_eq_getElem hlt)⟩
theorem zkd {α : Type} {q : α -> Bool} {l : List α} {e : α} (h : l.find? q = some e) : ∃ i, l.findIdx? q = some i /\ l[i]? = some e := by
 cases hi : l.findIdx? q with
 | none => rw [zer hi] at h; cases h
 | some i =>
  obtain ⟨e', h1, _, h3⟩ := zgy hi
  rw [h] at h3
  cases h3
  exact ⟨i, rfl, h1⟩
theorem zkg {l : List Ent} (hn : (l.map (·.1)).Nodup) {i : Nat} {e : Ent} (hi : l[i]? = some e) : l.eraseIdx i = yh l e.1 := by
 induction l generalizing i with
 | nil => simp at hi
 | cons a l ih =>
  rw [List.map_cons, List.nodup_cons] at hn
  cases i with
  | zero =>
   simp at hi
   subst hi
   rw [List.eraseIdx_cons_zero]
   unfold yh
   rw [List.filter_cons_of_neg (by simp)]
   symm
   rw [List.filter_eq_self]
   intro e he
   simp
   intro h
   exact hn.1 (List.mem_map.2 ⟨e, he, h⟩)
  | succ i =>
   have hi : l[i]? = some e := by simpa using hi
   rw [List.eraseIdx_cons_succ, ih hn.2 hi]
   unfold yh
   rw [List.filter_cons_of_pos]
   simp
   intro h
   exact hn.1 (List.mem_map.2 ⟨e, List.mem_of_getElem? hi, h.symm⟩)
theorem zo6 {l : List Ent} {id : Int} (h : l.find? (atId id) = none) : yh l id = l := by
 unfold yh
 rw [List.filter_eq_self]
 intro e he
 have := List.find?_eq_none.1 h e he
 simp [atId] at this
 simp
 exact fun h => this h.symm
section
variable {a : Store} {p ma mi : Nat} {l : List Ent} {bs1 : List Nat} {c1 : Nat} {G : List Grp} {bs2 : List Nat} {c2 : Nat}
theorem CellsAt.p_ne (h : CellsAt a p ma mi l bs1 c1 G bs2 c2) : ma ≠ p /\ mi ≠ p := by
 refine ⟨fun e => ?_, fun e => ?_⟩
 ·have := h.ha; rw [e, h.hp] at this; cases this
 ·have := h.hi; rw [e, h.hp] at this; cases this
theorem CellsAt.g_ne (h : CellsAt a p ma mi l bs1 c1 G bs2 c2) {g : Grp} (hg : g ∈ G) : g.b ≠ ma /\ g.b ≠ mi /\ g.b ≠ p := by
 obtain ⟨h1, h2, h3⟩ := h.hg g hg
 refine ⟨fun e => ?_, fun e => ?_, h3⟩
 ·have := h.ha; rw [<- e, h1] at this; cases this
 ·have := h.hi; rw [<- e, h1] at this; cases this
/-- An object that is none of them is laid. -/
theorem CellsAt.other (h : CellsAt a p ma mi l bs1 c1 G bs2 c2) {b : Nat} (x : AObj) (hp : b ≠ p) (hma : b ≠ ma) (hmi : b ≠ mi) (hg : ∀ g ∈ G, b ≠ g.b) : CellsAt (a.setObj b x) p ma mi l bs1 c1 G bs2 c2 :=
 ⟨by rw [zf (Ne.symm hp)]; exact h.hp, by rw [zf (Ne.symm hma)]; exact h.ha, by rw [zf (Ne.symm hmi)]; exact h.hi, h.ne,
  fun g hg' => by rw [zf (Ne.symm (hg g hg'))]; exact h.hg g hg', h.nd⟩
theorem CellsAt.fresh (h : CellsAt a p ma mi l bs1 c1 G bs2 c2) {b : Nat} (x : AObj) (hb : Fresh a b) : CellsAt (a.setObj b x) p ma mi l bs1 c1 G bs2 c2 :=
 h.other x (hb.ne_obj h.hp) (hb.ne_obj h.ha) (hb.ne_obj h.hi) fun g hg => hb.ne_obj (h.hg g hg).1
theorem CellsAt.setA (h : CellsAt a p ma mi l bs1 c1 G bs2 c2) (l' : List Ent) (bs : List Nat) (c : Nat) : CellsAt (a.setObj ma (.map (l'.map entA) bs c)) p ma mi l' bs c G bs2 c2 :=
 ⟨by rw [zf (Ne.symm h.p_ne.1)]; exact h.hp, zb _ _ _, by rw [zf (Ne.symm h.ne)]; exact h.hi, h.ne,
  fun g hg => by rw [zf (h.g_ne hg).1]; exact h.hg g hg, h.nd⟩
theorem CellsAt.setI (h : CellsAt a p ma mi l bs1 c1 G bs2 c2) {G' : List Grp} (bs : List Nat) (c : Nat) (hg : ∀ g ∈ G', a.obj g.b = some (.cells (g.ns.map aI ++ g.L)) /\ g.fits /\ g.b ≠ p) (nd : (G'.map (·.b)).Nodup) :
  CellsAt (a.setObj mi (.map (G'.map entG) bs c)) p ma mi l bs1 c1 G' bs c :=
 ⟨by rw [zf (Ne.symm h.p_ne.2)]; exact h.hp, by rw [zf h.ne]; exact h.ha, zb _ _ _, h.ne,
  fun g hg' => by
   obtain ⟨h1, h2, h3⟩ := hg g hg'
   have : g.b ≠ mi := fun e => by have := h.hi; rw [<- e, h1] at this; cases this
   rw [zf this]
   exact ⟨h1, h2, h3⟩, nd⟩
/-- The slice of one cell is turned, and its entry: before, what stands in the store. -/
structure CellsMid (a : Store) (p ma mi : Nat) (l : List Ent) (bs1 : List Nat) (c1 : Nat) (G : List Grp) (bs2 : List Nat) (c2 : Nat) (b : Nat) : Prop where
 hp : a.obj p = some (.cells [.s (.map (some ma)), .s (.map (some mi))])
 ha : a.obj ma = some (.map (l.map entA) bs1 c1)
 hi : a.obj mi = some (.map (G.map entG) bs2 c2)
 ne : ma ≠ mi
 hg : ∀ g ∈ G, g.b ≠ b -> a.obj g.b = some (.cells (g.ns.map aI ++ g.L)) /\ g.fits /\ g.b ≠ p
 nd : (G.map (·.b)).Nodup
theorem CellsAt.mid (h : CellsAt a p ma mi l bs1 c1 G bs2 c2) {b : Nat} (x : AObj) (hp : b ≠ p) (hma : b ≠ ma) (hmi : b ≠ mi) : CellsMid (a.setObj b x) p ma mi l bs1 c1 G bs2 c2 b :=
 ⟨by rw [zf (Ne.symm hp)]; exact h.hp, by rw [zf (Ne.symm hma)]; exact h.ha, by rw [zf (Ne.symm hmi)]; exact h.hi, h.ne,
  fun g hg' hne => by rw [zf hne]; exact h.hg g hg', h.nd⟩
theorem CellsMid.setI {b : Nat} (h : CellsMid a p ma mi l bs1 c1 G bs2 c2 b) {G' : List Grp} (bs : List Nat) (c : Nat) (hg : ∀ g ∈ G', (g ∈ G /\ g.b ≠ b) \/ (a.obj g.b = some (.cells (g.ns.map aI ++ g.L)) /\ g.fits /\ g.b ≠ p)) (nd : (G'.map (·.b)).Nodup) :
  CellsAt (a.setObj mi (.map (G'.map entG) bs c)) p ma mi l bs1 c1 G' bs c := by
 have hpi : mi ≠ p := fun e => by have := h.hi; rw [e, h.hp] at this; cases this
 refine ⟨by rw [zf (Ne.symm hpi)]; exact h.hp, by rw [zf h.ne]; exact h.ha, zb _ _ _, h.ne, fun g hg' => ?_, nd⟩
 have key : a.obj g.b = some (.cells (g.ns.map aI ++ g.L)) /\ g.fits /\ g.b ≠ p := by
  rcases hg g hg' with ⟨h1, h2⟩ | h1
  ·exact h.hg g h1 h2
  ·exact h1
 obtain ⟨h1, h2, h3⟩ := key
 have : g.b ≠ mi := fun e => by have := h.hi; rw [<- e, h1] at this; cases this
 rw [zf this]
 exact ⟨h1, h2, h3⟩
end
/-- One more in a cell. -/
theorem zvk {a : Store} {p ma mi : Nat} {l : List Ent} {bs1 : List Nat} {c1 : Nat} {G : List Grp} {bs2 : List Nat} {c2 : Nat} (ha : CellsAt a p ma mi l bs1 c1 G bs2 c2) (hi : Inv l G) {id : Int} {pos : Vc} (hno : ∀ e ∈ l, e.1 ≠ id) :
  ∃ cur ns, zc5 false (.s (.slice none 0 0)) ((G.find? (zhc (zp pos))).map entG) = cur /\ Ints a cur ns /\ ns.Pairwise (· < ·) /\ (ns = [] \/ ∃ g ∈ G, ns = g.ns) /\ (∀ b cap, cur = .s (.slice (some ⟨b, 0, none⟩) ns.length cap) -> a.obj b ≠ none) ∧
   ∀ vb lit b cap L, Fresh a vb -> (Fresh (a.setObj vb lit) b \/ ∃ c0, cur = .s (.slice (some ⟨b, 0, none⟩) ns.length c0)) ->
    (ns.take (ns.countP (· < id)) ++ id :: ns.drop (ns.countP (· < id))).length <= cap -> cap <= (ns.take (ns.countP (· < id)) ++ id :: ns.drop (ns.countP (· < id))).length + L.length -> cap <= 9223372036854775807 ->
    ((a.setObj vb lit).setObj b (.cells ((ns.take (ns.countP (· < id)) ++ id :: ns.drop (ns.countP (· < id))).map aI ++ L))).obj mi = some (.map (G.map entG) bs2 c2) ∧
    ((a.setObj vb lit).setObj b (.cells ((ns.take (ns.countP (· < id)) ++ id :: ns.drop (ns.countP (· < id))).map aI ++ L))).obj p = some (.cells [.s (.map (some ma)), .s (.map (some mi))]) ∧
    ∃ G' bs2' c2', jz (G.map entG) bs2 c2 (qG (zp pos).1 (zp pos).2) (.agg [int (zp pos).1, int (zp pos).2]) (.s (.slice (some ⟨b, 0, none⟩) (ns.take (ns.countP (· < id)) ++ id :: ns.drop (ns.countP (· < id))).length cap)) = .map (G'.map entG) bs2' c2' ∧
     CellsAt (((a.setObj vb lit).setObj b (.cells ((ns.take (ns.countP (· < id)) ++ id :: ns.drop (ns.countP (· < id))).map aI ++ L))).setObj mi (.map (G'.map entG) bs2' c2')) p ma mi l bs1 c1 G' bs2' c2' /\ Inv (l ++ [(id, pos)]) G' := by
 obtain ⟨w1, w2⟩ := yn5 (e := (id, pos)) hi hno
 cases hf : G.find? (zhc (zp pos)) with
 | none =>
  refine ⟨_, [], rfl, .inl ⟨rfl, rfl⟩, List.Pairwise.nil, .inl rfl, fun b cap h => ?_, fun vb lit b cap L hvb hb h1 h2 h3 => ?_⟩
  ·simp [zc5] at h
  have hb : Fresh (a.setObj vb lit) b := by
   rcases hb with hb | ⟨c0, hb⟩
   ·exact hb
   ·simp [zc5] at hb
  simp only [List.countP_nil, List.take_nil, List.drop_nil, List.nil_append] at *
  have a1 := ha.fresh lit hvb
  have a2 := a1.fresh (.cells ([id].map aI ++ L)) hb
  refine ⟨a2.hi, a2.hp, G ++ [⟨(zp pos).1, (zp pos).2, [id], b, cap, L⟩], bs2 ++ [c2], c2 + 1, ?_, ?_, ?_⟩
  ·unfold jz
   have : G.findIdx? (zhc (zp pos)) = none := by
    cases hx : G.findIdx? (zhc (zp pos)) with
    | none => rfl
    | some i => obtain ⟨e, _, _, h⟩ := zgy hx; rw [hf] at h; cases h
   rw [zfe, this, List.map_append]
   rfl
  ·refine a2.setI _ _ (fun g hg => ?_) ?_
   ·rcases List.mem_append.1 hg with hg | hg
    ·exact a2.hg g hg
    ·simp at hg
     subst hg
     exact ⟨zb _ _ _, ⟨h1, h2, h3⟩, hb.ne_obj a1.hp⟩
   ·rw [List.map_append, List.nodup_append]
    refine ⟨ha.nd, by simp, fun x hx y hy => ?_⟩
    obtain ⟨g, hg, rfl⟩ := List.mem_map.1 hx
    simp at hy
    subst hy
    exact Ne.symm (hb.ne_obj (a1.hg g hg).1)
  ·refine w2 (fun g hg hk => ?_) _ rfl rfl
   have := List.find?_eq_none.1 hf g hg
   exact this (atKey_iff.2 hk)
 | some g =>
  obtain ⟨hg, hk⟩ := zdd hf
  have hk := atKey_iff.1 hk
  obtain ⟨j, hj1, hj2⟩ := zkd hf
  obtain ⟨k1, k2, k3⟩ := ha.hg g hg
  obtain ⟨s1, s2⟩ := hi.s g hg
  have hnin : id ∉ g.ns := fun h => by
   obtain ⟨e, he, h1, _⟩ := (hi.m1 g hg id).1 h
   exact hno e he h1
  obtain ⟨i1, i2⟩ := zsn s1 hnin
  refine ⟨_, g.ns, rfl, .inr ⟨g.b, g.cap, g.L, rfl, k1, k2⟩, s1, .inr ⟨g, hg, rfl⟩, fun b cap h => ?_, fun vb lit b cap L hvb hb h1 h2 h3 => ?_⟩
  ·simp [zc5, entG] at h
   rw [<- h.1, k1]; simp
  generalize g.ns.take (g.ns.countP (· < id)) ++ id :: g.ns.drop (g.ns.countP (· < id)) = ins at *
  have a1 := ha.fresh lit hvb
  have hbne : b ≠ p /\ b ≠ ma /\ b ≠ mi /\ ∀ g1 ∈ G, g1 ≠ g -> g1.b ≠ b := by
   rcases hb with hb | ⟨c0, hb⟩
   ·exact ⟨hb.ne_obj a1.hp, hb.ne_obj a1.ha, hb.ne_obj a1.hi, fun g1 hg1 _ => Ne.symm (hb.ne_obj (a1.hg g1 hg1).1)⟩
   ·have : g.b = b := by simp [zc5, entG] at hb; exact hb.1
    subst this
    obtain ⟨n1, n2, n3⟩ := ha.g_ne hg
    refine ⟨n3, n1, n2, fun g1 hg1 hne he => hne ?_⟩
    obtain ⟨i, hi1⟩ := List.mem_iff_getElem?.1 hg1
    have := qn (f := fun g : Grp => g.b) ha.nd hi1 hj2 he
    subst this
    rw [hj2] at hi1
    cases hi1; rfl
  obtain ⟨n3, n1, n2, n4⟩ := hbne
  have mid := a1.mid (.cells (ins.map aI ++ L)) n3 n1 n2
  let g2 : Grp := ⟨g.x, g.y, ins, b, cap, L⟩
  have hmem : ∀ g1, g1 ∈ G.set j g2 -> g1 = g2 \/ (g1 ∈ G /\ g1 ≠ g) := fun g1 h => by
   rcases (y3 (f := Grp.key) hi.n2 hj2).1 h with h | ⟨h, h'⟩
   ·exact .inl h
   ·exact .inr ⟨h, fun e => h' (by rw [e])⟩
  refine ⟨mid.hi, mid.hp, G.set j g2, bs2, c2, ?_, ?_, w1 j g g2 hj2 hk rfl i1 i2⟩
  ·unfold jz
   rw [zfe, hj1, List.map_set]
   simp only
   congr 2
   show _ = (AV.agg [int g.x, int g.y], _)
   rw [<- hk]; rfl
  ·refine mid.setI _ _ (fun g1 h1' => ?_) ?_
   ·rcases hmem g1 h1' with rfl | ⟨q1, q2⟩
    ·exact .inr ⟨zb _ _ _, ⟨h1, h2, h3⟩, n3⟩
    ·exact .inl ⟨q1, n4 g1 q1 q2⟩
   ·rw [List.map_set]
    have hlt := (List.getElem?_eq_some_iff.1 hj2).1
    unfold List.Nodup
    rw [List.pairwise_iff_getElem]
    intro i1 i2 hl1' hl2 hlt12 he
    replace he := congrArg some he
    rw [<- List.getElem?_eq_getElem, <- List.getElem?_eq_getElem] at he
    rw [List.getElem?_set, List.getElem?_set] at he
    simp only [List.length_map, List.length_set] at hl2 he
    have nd := ha.nd
    by_cases e1 : j = i1
    ·subst e1
     rw [if_pos rfl, if_pos hlt, if_neg (by omega), List.getElem?_map, List.getElem?_eq_getElem hl2] at he
     simp at he
     refine n4 G[i2] (List.getElem_mem hl2) (fun e => ?_) he.symm
     have := qn (f := Grp.key) hi.n2 (List.getElem?_eq_getElem hl2) hj2 (by rw [e])
     omega
    ·by_cases e2 : j = i2
     ·subst e2
      have hl1 : i1 < G.length := by omega
      rw [if_neg e1, if_pos rfl, if_pos hlt, List.getElem?_map, List.getElem?_eq_getElem hl1] at he
      simp at he
      refine n4 G[i1] (List.getElem_mem hl1) (fun e => ?_) he
      have := qn (f := Grp.key) hi.n2 (List.getElem?_eq_getElem hl1) hj2 (by rw [e])
      omega
     ·have hl1 : i1 < G.length := by omega
      rw [if_neg e1, if_neg e2, List.getElem?_map, List.getElem?_map, List.getElem?_eq_getElem hl1, List.getElem?_eq_getElem hl2] at he
      simp at he
      have := qn (f := fun g : Grp => g.b) nd (List.getElem?_eq_getElem hl1) (List.getElem?_eq_getElem hl2) he
      omega
theorem Ints.fresh {st : Store} {v : AV} {ns : List Int} (h : Ints st v ns) {b : Nat} (x : AObj) (hb : Fresh st b) : Ints (st.setObj b x) v ns := by
 rcases h with h | ⟨b1, cap, L, h1, h2, h3⟩
 ·exact .inl h
 ·exact .inr ⟨b1, cap, L, h1, by rw [zf (Ne.symm (hb.ne_obj h2))]; exact h2, h3⟩
end Go.V
namespace Go.V
/-- An append of one number to numbers over an object. -/
theorem yon {P : Program} {c : Cfg} {e : TypeId} {ie : TI} (hie : c.I e = some ie) (hsz : ie.size = 1) (hby : ie.bytes = 8) {st : Store} {v : AV} {ns : List Int} (hv : Ints st v ns) (x : Int) (hlen : ns.length <= 1000000000000) {K : AV -> Store -> Prop}
  (h : ∀ b cap L, (Fresh st b \/ ∃ c0, v = .s (.slice (some ⟨b, 0, none⟩) ns.length c0)) -> (ns ++ [x]).length <= cap -> cap <= (ns ++ [x]).length + L.length -> cap <= 9223372036854775807 ->
   K (.s (.slice (some ⟨b, 0, none⟩) (ns ++ [x]).length cap)) (st.setObj b (.cells ((ns ++ [x]).map aI ++ L)))) : appendK P c st e (.av v) (.av (.lst 1 [[aI x]] none)) K := by
 have hrows : qf ie.size (.av (.lst 1 [[aI x]] none)) = some [[aI x]] := by simp [qf, hsz]
 refine ⟨.inr ⟨v, _, rfl, rfl, ?_⟩⟩
 have hl : (ns ++ [x]).length = ns.length + 1 := by simp
 rcases hv with ⟨rfl, rfl⟩ | ⟨b, cap, L, rfl, ho, h1, h2, h3⟩
 ·refine zkx hie hrows ⟨by rw [hby]; simp, by simp⟩ (by simp) (fun b' cap' hb hc hc2 => ?_)
  exact h b' cap' _ (.inl hb) (by simpa using hc) (by simp [hsz]; omega) hc2
 ·refine zq2 hie (cap := cap) ho (by rw [hsz]; simp; omega) h1 hrows ⟨by rw [hby]; simp; omega, by simp; omega⟩ (fun hc => ?_) (fun hc b' cap' hb hc1 hc2 => ?_)
  ·have hc : ns.length + 1 <= cap := hc
   have e1 : zo (ns.map aI ++ L) (ns.length * ie.size) ([[aI x]] : List (List AV)).flatten = (ns ++ [x]).map aI ++ L.drop 1 := by
    rw [hsz, Nat.mul_one, ku (by simp)]
    simp
   have e0 : ns.map (fun n => AV.s (.int .i64 n)) ++ L = ns.map aI ++ L := rfl
   have := h b cap (L.drop 1) (.inr ⟨cap, rfl⟩) (by omega) (by simp; omega) h3
   rw [hl] at this
   rw [<- e1] at this
   exact this
  ·have hc1 : ns.length + 1 <= cap' := hc1
   have e1 : (ns.map aI ++ L).take (ns.length * ie.size) ++ ([[aI x]] : List (List AV)).flatten ++ List.replicate ((cap' - (ns.length + 1)) * ie.size) .any = (ns ++ [x]).map aI ++ List.replicate (cap' - (ns.length + 1)) .any := by
    rw [hsz, Nat.mul_one, Nat.mul_one, List.take_append_of_le_length (by simp), List.take_of_length_le (by simp)]
    simp
   have := h b' cap' (List.replicate (cap' - (ns.length + 1)) .any) (.inl hb) (by omega) (by simp; omega) hc2
   rw [hl, <- e1] at this
   exact this
/-- What Near holds beside the cells. -/
structure NearAt (N : Store) (b3 b4 b5 b6 p : Nat) (q : Vc) (r : Int) (v : AV) (acc : List Int) : Prop where
 h3 : N.obj b3 = some (.cells [.s (.pointer (some ⟨p, 0, none⟩))])
 h4 : N.obj b4 = some (.cells (vecC q))
 h5 : N.obj b5 = some (.cells [int r])
 h6 : N.obj b6 = some (.cells [v])
 hv : Ints N v acc
 n36 : b3 ≠ b6
 n46 : b4 ≠ b6
 n56 : b5 ≠ b6
 nv : ∀ b n cap, v = .s (.slice (some ⟨b, 0, none⟩) n cap) -> b ≠ b3 /\ b ≠ b4 /\ b ≠ b5 /\ b ≠ b6
theorem NearAt.app {N : Store} {b3 b4 b5 b6 p : Nat} {q : Vc} {r : Int} {v : AV} {acc : List Int} (h : NearAt N b3 b4 b5 b6 p q r v acc) {b cap : Nat} {L : List AV} {x : Int}
  (hb : Fresh N b \/ ∃ c0, v = .s (.slice (some ⟨b, 0, none⟩) acc.length c0)) (h1 : (acc ++ [x]).length <= cap) (h2 : cap <= (acc ++ [x]).length + L.length) (h3 : cap <= 9223372036854775807) :
  NearAt ((N.setObj b (.cells ((acc ++ [x]).map aI ++ L))).setObj b6 (.cells [.s (.slice (some ⟨b, 0, none⟩) (acc ++ [x]).length cap)])) b3 b4 b5 b6 p q r (.s (.slice (some ⟨b, 0, none⟩) (acc ++ [x]).length cap)) (acc ++ [x]) := by
 have hne : b ≠ b3 /\ b ≠ b4 /\ b ≠ b5 /\ b ≠ b6 := by
  rcases hb with hb | ⟨c0, hb⟩
  ·exact ⟨hb.ne_obj h.h3, hb.ne_obj h.h4, hb.ne_obj h.h5, hb.ne_obj h.h6⟩
  ·exact h.nv b _ _ hb
 obtain ⟨n3, n4, n5, n6⟩ := hne
 refine ⟨?_, ?_, ?_, zb _ _ _, .inr ⟨b, cap, L, rfl, ?_, h1, h2, h3⟩, h.n36, h.n46, h.n56, fun b' n c e => ?_⟩
 ·rw [zf h.n36, zf (Ne.symm n3)]; exact h.h3
 ·rw [zf h.n46, zf (Ne.symm n4)]; exact h.h4
 ·rw [zf h.n56, zf (Ne.symm n5)]; exact h.h5
 ·rw [zf n6, zb]; rfl
 ·simp at e
  obtain ⟨rfl, _⟩ := e
  exact ⟨n3, n4, n5, n6⟩
theorem Ints.un {a g : Store} {v : AV} {ns : List Int} (h : Ints g v ns) : Ints (a.un g) v ns := by
 rcases h with h | ⟨b1, cap, L, h1, h2, h3⟩
 ·exact .inl h
 ·exact .inr ⟨b1, cap, L, h1, un_r h2, h3⟩
end Go.V
namespace Go.V
theorem zqn {x r : Int} (hx : 0 <= x) (hr : 0 < r) (h : x * x < r * r) : x < r := by
 by_cases h1 : x < r
 ·exact h1
 ·have h2 : r <= x := by omega
  have h3 : r * r <= x * x := Int.mul_le_mul h2 h2 (by omega) hx
  omega
theorem zxs {a b r : Int} (ha : yi a) (hb : yi b) (hr : 0 < r) (hr2 : r <= 9223372036854775807) (h : asz (fsub a b) < r) : fsub a r <= nrm b /\ nrm b <= fadd a r := by
 have h1 := v7 ha
 have h2 := v7 hb
 have h3 := qx (n := -nrm b) (by omega)
 have h4 := qx (n := r) (by omega)
 have h5 := qx (n := -r) (by omega)
 have h6 := ziu a b
 have h7 := qx (n := fsub a b) (by omega)
 unfold asz at h
 rw [h7] at h
 unfold fsub fadd at *
 rw [h3] at h
 rw [h4, h5]
 unfold j2 at *
 generalize nrm a = x at *
 generalize nrm b = y at *
 refine ⟨?_, ?_⟩ <;> (repeat' split) <;> (repeat' split at h) <;> omega
/-- Who is near stands in a cell between. -/
theorem zv4 {q p : Vc} {r : Int} (hq : q.ok) (hp : p.ok) (hr : 0 < r) (hr2 : r <= 9223372036854775807) (h : near q p r = true) :
  ((zp (fsub q.1 r, fsub q.2 r)).1 <= (zp p).1 /\ (zp p).1 <= (zp (fadd q.1 r, fadd q.2 r)).1) /\ ((zp (fsub q.1 r, fsub q.2 r)).2 <= (zp p).2 /\ (zp p).2 <= (zp (fadd q.1 r, fadd q.2 r)).2) := by
 unfold near at h
 have h := (of_decide_eq_true h).2
 have e1 := zni (zbg q.1 p.1)
 have e2 := zni (zbg q.2 p.2)
 have m1 : 0 <= asz (fsub q.1 p.1) * asz (fsub q.1 p.1) := Int.mul_nonneg e1.1 e1.1
 have m2 : 0 <= asz (fsub q.2 p.2) * asz (fsub q.2 p.2) := Int.mul_nonneg e2.1 e2.1
 have h' : asz (fsub q.1 p.1) * asz (fsub q.1 p.1) + asz (fsub q.2 p.2) * asz (fsub q.2 p.2) < r * r := h
 have d1 := zxs hq.1 hp.1 hr hr2 (zqn e1.1 hr (by omega))
 have d2 := zxs hq.2 hp.2 hr hr2 (zqn e2.1 hr (by omega))
 have n1 := qx (ziu q.1 r).1
 have n2 := qx (ziu q.2 r).1
 have n3 := qx (zg0 q.1 r).1
 have n4 := qx (zg0 q.2 r).1
 unfold zp
 simp only [n1, n2, n3, n4]
 omega
theorem ynq {q : Vc} {r : Int} (hq : q.ok) (hr : 0 < r) (hr2 : r <= 9223372036854775807) :
  (zp (fsub q.1 r, fsub q.2 r)).1 <= (zp (fadd q.1 r, fadd q.2 r)).1 /\ (zp (fsub q.1 r, fsub q.2 r)).2 <= (zp (fadd q.1 r, fadd q.2 r)).2 := by
 have key : ∀ a : Int, yi a -> fsub a r <= fadd a r := by
  intro a ha
  have h1 := v7 ha
  have h4 := qx (n := r) (by omega)
  have h5 := qx (n := -r) (by omega)
  unfold fsub fadd
  rw [h4, h5]
  unfold j2
  generalize nrm a = x at *
  (repeat' split) <;> omega
 have k1 := key q.1 hq.1
 have k2 := key q.2 hq.2
 have n1 := qx (ziu q.1 r).1
 have n2 := qx (ziu q.2 r).1
 have n3 := qx (zg0 q.1 r).1
 have n4 := qx (zg0 q.2 r).1
 unfold zp
 simp only [n1, n2, n3, n4]
 omega
theorem zxx {p : Vc} (h : p.ok) : (-70368744177664 <= (zp p).1 /\ (zp p).1 <= 70368744177664) /\ (-70368744177664 <= (zp p).2 /\ (zp p).2 <= 70368744177664) := by
 have h1 := v7 h.1
 have h2 := v7 h.2
 unfold zp
 simp only
 omega
/-- Those near in the cells that are done. -/
def NearIn (l : List Ent) (q : Vc) (r : Int) (D : Ent -> Prop) (acc : List Int) : Prop := acc.Nodup /\ ∀ id, id ∈ acc ↔ ∃ e ∈ l, e.1 = id /\ near q e.2 r = true /\ D e
theorem NearIn.congr {l : List Ent} {q : Vc} {r : Int} {D D' : Ent -> Prop} {acc : List Int} (h : NearIn l q r D acc) (hD : ∀ e ∈ l, near q e.2 r = true -> (D e ↔ D' e)) : NearIn l q r D' acc := by
 refine ⟨h.1, fun id => ?_⟩
 rw [h.2 id]
 constructor
 ·rintro ⟨e, h1, h2, h3, h4⟩; exact ⟨e, h1, h2, h3, (hD e h1 h3).1 h4⟩
 ·rintro ⟨e, h1, h2, h3, h4⟩; exact ⟨e, h1, h2, h3, (hD e h1 h3).2 h4⟩
theorem NearIn.len {l : List Ent} {q : Vc} {r : Int} {D : Ent -> Prop} {acc : List Int} (h : NearIn l q r D acc) : acc.length <= l.length := by
 have := List.Nodup.length_le_of_subset (l₂ := l.map (·.1)) h.1 (fun id hid => by
  obtain ⟨e, h1, h2, _⟩ := (h.2 id).1 hid
  exact List.mem_map.2 ⟨e, h1, h2⟩)
 simpa using this
/-- One more is looked at. -/
theorem NearIn.step {l : List Ent} (hn : (l.map (·.1)).Nodup) {q : Vc} {r : Int} {D : Ent -> Prop} {acc : List Int} (h : NearIn l q r D acc) {e : Ent} (he : e ∈ l) (hD : ¬ D e) : NearIn l q r (fun e' => D e' \/ e' = e) (if near q e.2 r then acc ++ [e.1] else acc) := by
 cases hnr : near q e.2 r with
 | false =>
  refine h.congr fun e' he' hn' => ⟨.inl, fun hh => hh.elim id fun hh => ?_⟩
  rw [hh, hnr] at hn'; cases hn'
 | true =>
  refine ⟨?_, fun id => ?_⟩
  ·rw [if_pos rfl, List.nodup_append]
   refine ⟨h.1, by simp, fun a ha b hb => ?_⟩
   simp at hb
   subst hb
   intro hab
   subst hab
   obtain ⟨e', h1, h2, _, h4⟩ := (h.2 _).1 ha
   rw [zwu hn he h1 h2] at h4
   exact hD h4
  ·rw [if_pos rfl, List.mem_append, h.2 id]
   constructor
   ·rintro (⟨e', h1, h2, h3, h4⟩ | h1)
    ·exact ⟨e', h1, h2, h3, .inl h4⟩
    ·simp at h1; exact ⟨e, he, h1.symm, hnr, .inr rfl⟩
   ·rintro ⟨e', h1, h2, h3, h4 | h4⟩
    ·exact .inl ⟨e', h1, h2, h3, h4⟩
    ·subst h4; exact .inr (by simp [h2])
theorem zss {l : List Ent} {G : List Grp} (h : Inv l G) : G.length <= l.length := by
 have h1 : (G.map fun g => g.ns.headD 0).Nodup := by
  unfold List.Nodup
  rw [List.pairwise_map]
  have n2 := h.n2
  unfold List.Nodup at n2
  rw [List.pairwise_map] at n2
  have key : ∀ g ∈ G, g.ns.headD 0 ∈ g.ns := fun g hg => by
   have := (h.s g hg).2
   cases hns : g.ns with
   | nil => exact absurd hns this
   | cons a t => simp
  rw [List.pairwise_iff_getElem] at n2 ⊢
  intro i j hi hj hij he
  obtain ⟨e1, q1, q2, q3⟩ := (h.m1 G[i] (List.getElem_mem hi) _).1 (key _ (List.getElem_mem hi))
  obtain ⟨e2, q4, q5, q6⟩ := (h.m1 G[j] (List.getElem_mem hj) _).1 (key _ (List.getElem_mem hj))
  refine n2 i j hi hj hij ?_
  rw [<- q3, <- q6, zwu h.n1 q4 q1 (by rw [q2, q5, he])]
 have := List.Nodup.length_le_of_subset (l₂ := l.map (·.1)) h1 (fun id hid => by
  obtain ⟨g, hg, rfl⟩ := List.mem_map.1 hid
  have := (h.s g hg).2
  cases hns : g.ns with
  | nil => exact absurd hns this
  | cons a t =>
   obtain ⟨e, q1, q2, _⟩ := (h.m1 g hg a).1 (by rw [hns]; simp)
   exact List.mem_map.2 ⟨e, q1, by simpa using q2⟩)
 simpa using this
theorem zl9 {xs : List Int} (h : xs.Nodup) : (xs.mergeSort fun x y => decide (x <= y)).Pairwise (· < ·) /\ ∀ n, n ∈ (xs.mergeSort fun x y => decide (x <= y)) ↔ n ∈ xs := by
 have h1 := List.pairwise_mergeSort (le := fun x y : Int => decide (x <= y)) (fun a b c h1 h2 => by simp at *; omega) (fun a b => by simp; omega) xs
 have h2 : (xs.mergeSort fun x y => decide (x <= y)).Nodup := (List.mergeSort_perm xs _).nodup_iff.2 h
 refine ⟨?_, fun n => List.mem_mergeSort⟩
 have h3 := h1.and h2
 exact h3.imp fun ⟨h4, h5⟩ => by simp at h4; omega
/-- The numbers of those near. -/
def zno (l : List Ent) (q : Vc) (r : Int) (ns : List Int) : Prop := ns.Pairwise (· < ·) /\ ∀ id, id ∈ ns ↔ ∃ e ∈ l, e.1 = id /\ near q e.2 r = true
theorem we {a g : Store} {b : Nat} {x : AObj} (h : ¬ g.has b) : (a.un g).setObj b x = (a.setObj b x).un g := by
 obtain ⟨h1, h2⟩ := v8 h
 unfold Store.un Store.setObj
 congr
 funext i
 by_cases hi : i = b
 ·subst hi; simp [h1]
 ·simp [nbeq hi]
theorem zde {a g : Store} {b : Nat} {x : AObj} (h : Disj a g) (hb : ¬ g.has b) : Disj (a.setObj b x) g := by
 intro i hi hg
 rcases has_setObj_iff.1 hi with rfl | hi
 ·exact hb hg
 ·exact h i hi hg
theorem zs9 {a g : Store} {b : Nat} {x y : AObj} (h : Disj (a.setObj b x) g) : Disj (a.setObj b y) g /\ ¬ g.has b := by
 have h1 : ¬ g.has b := h b (has_setObj_iff.2 (.inl rfl))
 refine ⟨fun i hi hg => ?_, h1⟩
 rcases has_setObj_iff.1 hi with rfl | hi
 ·exact h1 hg
 ·exact h i (has_setObj_iff.2 (.inr hi)) hg
theorem zmx {l : List Ent} (hn : (l.map (·.1)).Nodup) {e : Ent} (he : e ∈ l) : l.find? (atId e.1) = some e := by
 cases hf : l.find? (atId e.1) with
 | none =>
  have := List.find?_eq_none.1 hf e he
  simp [atId] at this
 | some e' =>
  obtain ⟨h1, h2⟩ := zdd hf
  have : e'.1 = e.1 := (by simpa [atId] using h2 : e.1 = e'.1).symm
  rw [zwu hn he h1 this]
end Go.V
namespace Go.V
def idxI : Option Nat -> Int | some i => (i : Int) | none => -1
theorem xf (a : Store) : Store.empty.un a = a := by
 unfold Store.un Store.empty
 congr <;> funext i
 ·cases a.obj i <;> rfl
 ·cases a.tok i <;> rfl
theorem disj_un {a b c : Store} : Disj (a.un b) c ↔ Disj a c /\ Disj b c :=
 ⟨fun h => ⟨fun i h1 => h i (un_has.2 (.inl h1)), fun i h1 => h i (un_has.2 (.inr h1))⟩, fun ⟨h1, h2⟩ i h => (un_has.1 h).elim (h1 i) (h2 i)⟩
theorem zt6 {a g : Store} : (a.un g).Le g := ⟨fun b y h => ⟨y, un_r h, AObj.le_refl y⟩, fun b x h => zld h⟩
/-- From a store that says more. -/
theorem AWp.leS {P : Program} {c : Cfg} {code : Code} {Q : Exit -> Fr -> Store -> Prop} {A : Fr} {st st' : Store} (hle : st.Le st') (h : AWp P c code Q A st') : AWp P c code Q A st := by
 refine ⟨fun Oth M a w ⟨β, s⟩ => h.out Oth M a w ⟨β, { tsz := s.tsz, dfr := s.dfr, tm := s.tm, bx := s.bx, inj := s.inj, sep := fun k b hk hb => s.sep k b hk ?_, sto := s.sto.weakenLe hle }⟩⟩
 rcases hb with hb | hb
 ·cases hx : st'.obj b with
  | none => exact absurd hx hb
  | some y =>
   obtain ⟨x, h1, _⟩ := hle.obj b y hx
   exact .inl (by rw [h1]; simp)
 ·cases hx : st'.tok b with
  | none => exact absurd hx hb
  | some y => exact .inr (by rw [hle.tok b y hx]; simp)
/-- A list reads on. -/
theorem yd {st : Store} {x : AV} {Oth M : Nat -> Nat -> Prop} {w : World} {v : Value} (h : VRel w (fun b o => M b o \/ Oth b o) x v) : VRel w (fun b o => (M b o \/ Oth b o) /\ st.obj b = none) x v :=
 h.mono fun _ _ h => h.1
end Go.V
